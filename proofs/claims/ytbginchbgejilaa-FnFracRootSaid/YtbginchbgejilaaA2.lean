/- Part 2 of the lemmas that the claim rests on: an abstract machine over the model, what it is sound for, and the contracts of the functions that the law reaches. -/
import Derived.Test.YtbginchbgejilaaA1
import Derived.Test.YtbginchbgejilaaProg
import Derived.KernelRfl
set_option linter.unusedSimpArgs false
set_option linter.unusedVariables false
set_option maxRecDepth 100000
set_option maxHeartbeats 4000000
/- Regions whose order is not known, with operations that change the blocks: the rules. -/
namespace Pf
open Go
variable {P : Program} {TT : TypeId → Option TI} {f N n0 : Nat} {k : List Item} {T : Env} {H : AHeap} {R : AV → AHeap → Prop}

/-- All that must come ahead of these. -/
def needsAll (ops : List Oper) : List Nat → List Nat → List Nat
  | [], acc => acc
  | p :: ps, acc => needsAll ops ps (match appM (needs ops p p []) acc with | some l => l | none => acc)
theorem needsAll_mem {ops : List Oper} : ∀ {ps acc : List Nat} {i : Nat}, i ∈ acc ∨ (∃ p ∈ ps, i ∈ needs ops p p []) → i ∈ needsAll ops ps acc
  | [], acc, i, h => by simpa [needsAll] using h
  | p :: ps, acc, i, h => by
    simp only [needsAll, appM_eq]
    refine needsAll_mem ?_
    rcases h with h | ⟨q, hq, h⟩
    · exact .inl (by simp [h])
    · rcases List.mem_cons.1 hq with rfl | hq
      · exact .inl (by simp [h])
      · exact .inr ⟨q, hq, h⟩
def orM (a b : Bool) : Bool := match a with | true => true | false => b
variable (TT : TypeId → Option TI) in
/-- The values of all that can be done while these effects are still to come. -/
def phM (m : Nat) (ops : List Oper) (T0 : Env) (H : AHeap) (hs : List (Nat × Bool)) (past pn pend op : List Nat) (vin : List (Option Nat × AV)) : Nat → Nat → List (Option Nat × AV) → List AV → Option (List Prop × List CallM × List (Option Nat × AV))
  | 0, _, vs, _ => some ([], [], vs)
  | n + 1, i, vs, us => match nthM ops i with
    | none => none
    | some o => match nthM vin i with
      | none => none
      | some old =>
        match orM (memM past i) (memM pn i) with
        | true => match appM vs [(o.dst, old.2)] with | some vs' => phM m ops T0 H hs past pn pend op vin n (i + 1) vs' us | none => none
        | false => match touch ops pend i with
          | true => match appM vs [(o.dst, .top)] with | some vs' => phM m ops T0 H hs past pn pend op vin n (i + 1) vs' us | none => none
          | false => match guardM ops (TS (memM (preds ops i)) 0 vs T0) o.guard with
            | some (some none) => match appM vs [(o.dst, .tup [])] with
              | some vs' => match phM m ops T0 H hs past pn pend op vin n (i + 1) vs' us with
                | some (ps, cs, vs2) => some ((touch ops op i = false → AV.tup [] = old.2) :: ps, cs, vs2)
                | none => none
              | none => none
            | some none => match opKind o.op (TS (memM (preds ops i)) 0 vs T0) with
              | .call g args => match us with
                | [] => none
                | u :: us => match saidM o.dst u hs with
                  | (C, u') => match appM vs [(o.dst, u')] with
                    | some vs' => match phM m ops T0 H hs past pn pend op vin n (i + 1) vs' us with
                      | some (ps, cs, vs2) => match touch ops op i with
                        | true => some (C.getD True :: ps, ⟨g, args, u⟩ :: cs, vs2)
                        | false => some ((u' = old.2) :: C.getD True :: ps, ⟨g, args, u⟩ :: cs, vs2)
                      | none => none
                    | none => none
              | .plain => match stepOp TT m o.op (TS (memM (preds ops i)) 0 vs T0) H with
                | .ok v H' => match saidM o.dst v hs with
                  | (C, u') => match appM vs [(o.dst, u')] with
                    | some vs' => match phM m ops T0 H hs past pn pend op vin n (i + 1) vs' us with
                      | some (ps, cs, vs2) => match touch ops op i with
                        | true => some ((H' = H) :: C.getD True :: ps, cs, vs2)
                        | false => some ((u' = old.2) :: (H' = H) :: C.getD True :: ps, cs, vs2)
                      | none => none
                    | none => none
                | .okc D v H' => match saidM o.dst v hs with
                  | (C, u') => match appM vs [(o.dst, u')] with
                    | some vs' => match phM m ops T0 H hs past pn pend op vin n (i + 1) vs' us with
                      | some (ps, cs, vs2) => match touch ops op i with
                        | true => some (D :: (H' = H) :: C.getD True :: ps, cs, vs2)
                        | false => some ((u' = old.2) :: D :: (H' = H) :: C.getD True :: ps, cs, vs2)
                      | none => none
                    | none => none
                | .bad => none
              | _ => none
            | _ => none

theorem phM_ok (hT : TTok P TT) {m : Nat} {ops : Array Oper} {T0 : Env} {hs : List (Nat × Bool)} {past pn pend op : List Nat} {vin : List (Option Nat × AV)} (hb : backAll 0 ops.toList = true) : ∀ (n i : Nat) (vs : List (Option Nat × AV)) (us : List AV) {ps : List Prop} {cs : List CallM} {vs2 : List (Option Nat × AV)},
    phM TT m ops.toList T0 H hs past pn pend op vin n i vs us = some (ps, cs, vs2) → vs.length = i → AllP ps → AllCalls P H cs → (∃ ws, vs2 = vs ++ ws) ∧ vs2.length = i + n ∧
      ∀ j (h : j < vs2.length), i ≤ j → ∃ o, ops[j]? = some o ∧ o.dst = vs2[j].1 ∧ ∃ h' : j < vin.length, (j ∈ past ∨ j ∈ pn → vs2[j].2 = vin[j].2) ∧
        (j ∉ past → j ∉ pn → touch ops.toList pend j = false → FreeStep P N ops o (TS (memM (preds ops.toList j)) 0 vs2 T0) H vs2[j].2 ∧ (touch ops.toList op j = false → vs2[j].2 = vin[j].2))
  | 0, i, vs, us, ps, cs, vs2, h, hl, hp, hc => by
    simp only [phM, Option.some.injEq, Prod.mk.injEq] at h
    obtain ⟨_, _, rfl⟩ := h
    exact ⟨⟨[], by simp⟩, by omega, fun j h1 h2 => by omega⟩
  | n + 1, i, vs, us, ps, cs, vs2, h, hl, hp, hc => by
    simp only [phM] at h
    split at h
    · cases h
    rename_i o ho
    split at h
    · cases h
    rename_i old hold
    have ho' : ops[i]? = some o := by rw [nthM_eq] at ho; simpa using ho
    have hold' : vin[i]? = some old := by rw [nthM_eq] at hold; exact hold
    obtain ⟨hvi, hve⟩ := List.getElem?_eq_some_iff.1 hold'
    have fin : ∀ {u : AV} {vs' : List (Option Nat × AV)} {us' : List AV} {ps' : List Prop} {cs' : List CallM}, appM vs [(o.dst, u)] = some vs' →
        phM TT m ops.toList T0 H hs past pn pend op vin n (i + 1) vs' us' = some (ps', cs', vs2) → AllP ps' → AllCalls P H cs' → (i ∈ past ∨ i ∈ pn → u = old.2) →
        (i ∉ past → i ∉ pn → touch ops.toList pend i = false → FreeStep P N ops o (TS (memM (preds ops.toList i)) 0 vs T0) H u ∧ (touch ops.toList op i = false → u = old.2)) →
        (∃ ws, vs2 = vs ++ ws) ∧ vs2.length = i + (n + 1) ∧ ∀ j (h : j < vs2.length), i ≤ j → ∃ o, ops[j]? = some o ∧ o.dst = vs2[j].1 ∧ ∃ h' : j < vin.length, (j ∈ past ∨ j ∈ pn → vs2[j].2 = vin[j].2) ∧
          (j ∉ past → j ∉ pn → touch ops.toList pend j = false → FreeStep P N ops o (TS (memM (preds ops.toList j)) 0 vs2 T0) H vs2[j].2 ∧ (touch ops.toList op j = false → vs2[j].2 = vin[j].2)) := by
      intro u vs' us' ps' cs' ha hd hp' hc' hu hf
      rw [appM_eq] at ha
      cases ha
      obtain ⟨⟨ws, rfl⟩, h2, h3⟩ := phM_ok hT hb n (i + 1) _ us' hd (by simp [hl]) hp' hc'
      refine ⟨⟨(o.dst, u) :: ws, by simp⟩, by omega, fun j hj hij => ?_⟩
      by_cases hji : j = i
      · subst hji
        have e1 : (vs ++ [(o.dst, u)] ++ ws)[j] = (o.dst, u) := by
          simp only [List.append_assoc, List.singleton_append]
          rw [List.getElem_append_right (by omega)]
          simp [hl]
        refine ⟨o, ho', by rw [e1], hvi, fun hx => by rw [e1, hve]; exact hu hx, fun q1 q2 q3 => ?_⟩
        rw [e1, hve]
        have e2 : TS (memM (preds ops.toList j)) 0 (vs ++ [(o.dst, u)] ++ ws) T0 = TS (memM (preds ops.toList j)) 0 vs T0 := by
          rw [List.append_assoc]
          refine TS_app fun q hq => ?_
          cases hm : memM (preds ops.toList j) q with
          | false => rfl
          | true => have := preds_lt hb (memM_iff.1 hm); omega
        rw [e2]
        exact hf q1 q2 q3
      · exact h3 j hj (by omega)
    split at h
    · -- done already
      rename_i hor
      split at h
      · rename_i vs' ha
        refine fin ha h hp hc (fun _ => rfl) fun q1 q2 => ?_
        exfalso
        unfold orM at hor
        split at hor
        · rename_i hm; exact q1 (memM_iff.1 hm)
        · exact q2 (memM_iff.1 hor)
      · cases h
    rename_i hor
    have hno : ¬ (i ∈ past ∨ i ∈ pn) := by
      unfold orM at hor
      split at hor
      · cases hor
      · rename_i hm
        rintro (hx | hx)
        · rw [memM_iff.2 hx] at hm; cases hm
        · rw [memM_iff.2 hx] at hor; cases hor
    split at h
    · rename_i htc
      split at h
      · rename_i vs' ha
        exact fin ha h hp hc (fun hx => absurd hx hno) fun _ _ q3 => by rw [htc] at q3; cases q3
      · cases h
    rename_i htc
    split at h
    · rename_i hg
      split at h
      · rename_i vs' ha
        split at h
        · rename_i ps' cs' vs3 hd
          simp only [Option.some.injEq, Prod.mk.injEq] at h
          obtain ⟨rfl, rfl, rfl⟩ := h
          exact fin ha hd hp.2 hc (fun hx => absurd hx hno) fun _ _ _ => ⟨.skip hg, hp.1⟩
        · cases h
      · cases h
    · rename_i hg
      split at h
      · rename_i g args hk
        split at h
        · cases h
        · rename_i u us'
          split at h
          · rename_i vs' ha
            split at h
            · rename_i ps' cs' vs3 hd
              have done : ∀ {ps2 : List Prop} {cs2 : List CallM}, AllP ((saidM o.dst u hs).1.getD True :: ps') → AllCalls P H (⟨g, args, u⟩ :: cs') → (touch ops.toList op i = false → (saidM o.dst u hs).2 = old.2) → vs3 = vs2 →
                (∃ ws, vs2 = vs ++ ws) ∧ vs2.length = i + (n + 1) ∧ ∀ j (h : j < vs2.length), i ≤ j → ∃ o, ops[j]? = some o ∧ o.dst = vs2[j].1 ∧ ∃ h' : j < vin.length, (j ∈ past ∨ j ∈ pn → vs2[j].2 = vin[j].2) ∧
                  (j ∉ past → j ∉ pn → touch ops.toList pend j = false → FreeStep P N ops o (TS (memM (preds ops.toList j)) 0 vs2 T0) H vs2[j].2 ∧ (touch ops.toList op j = false → vs2[j].2 = vin[j].2)) := by
                intro ps2 cs2 hp hc he hv
                subst hv
                refine fin ha hd hp.2 hc.2 (fun hx => absurd hx hno) fun _ _ _ => ⟨.call hg hk ⟨hc.1.1, fun FM β cs w cargs hv hh => ?_⟩, he⟩
                obtain ⟨v, w', fr, av, FM', β', H', ⟨r1, r2⟩, r3, r4⟩ := hc.1.2 FM β cs w cargs hv hh
                exact ⟨v, w', fr, _, FM', β', H', ⟨r1, rfl⟩, (saidM_ok (u := (saidM o.dst u hs).2) rfl hp.1) _ _ _ (by rw [r2] at r3; exact r3), r4⟩
              split at h
              · rename_i hto
                simp only [Option.some.injEq, Prod.mk.injEq] at h
                obtain ⟨rfl, rfl, rfl⟩ := h
                exact done (ps2 := []) (cs2 := []) hp hc (fun hx => by rw [hto] at hx; cases hx) rfl
              · simp only [Option.some.injEq, Prod.mk.injEq] at h
                obtain ⟨rfl, rfl, rfl⟩ := h
                exact done (ps2 := []) (cs2 := []) hp.2 hc (fun _ => hp.1) rfl
            · cases h
          · cases h
      · rename_i hk
        split at h
        · rename_i v H' hst
          split at h
          · rename_i vs' ha
            split at h
            · rename_i ps' cs' vs3 hd
              split at h
              · rename_i hto
                simp only [Option.some.injEq, Prod.mk.injEq] at h
                obtain ⟨rfl, rfl, rfl⟩ := h
                obtain ⟨rfl, hp1, hp2⟩ := hp
                exact fin ha hd hp2 hc (fun hx => absurd hx hno) fun _ _ _ => ⟨.ok hT m hg hst (saidM_ok (u := (saidM o.dst v hs).2) rfl hp1), fun hx => by rw [hto] at hx; cases hx⟩
              · simp only [Option.some.injEq, Prod.mk.injEq] at h
                obtain ⟨rfl, rfl, rfl⟩ := h
                obtain ⟨hp0, rfl, hp1, hp2⟩ := hp
                exact fin ha hd hp2 hc (fun hx => absurd hx hno) fun _ _ _ => ⟨.ok hT m hg hst (saidM_ok (u := (saidM o.dst v hs).2) rfl hp1), fun _ => hp0⟩
            · cases h
          · cases h
        · rename_i D v H' hst
          split at h
          · rename_i vs' ha
            split at h
            · rename_i ps' cs' vs3 hd
              split at h
              · rename_i hto
                simp only [Option.some.injEq, Prod.mk.injEq] at h
                obtain ⟨rfl, rfl, rfl⟩ := h
                obtain ⟨hD, rfl, hp1, hp2⟩ := hp
                exact fin ha hd hp2 hc (fun hx => absurd hx hno) fun _ _ _ => ⟨.okc hT m hg hst hD (saidM_ok (u := (saidM o.dst v hs).2) rfl hp1), fun hx => by rw [hto] at hx; cases hx⟩
              · simp only [Option.some.injEq, Prod.mk.injEq] at h
                obtain ⟨rfl, rfl, rfl⟩ := h
                obtain ⟨hp0, hD, rfl, hp1, hp2⟩ := hp
                exact fin ha hd hp2 hc (fun hx => absurd hx hno) fun _ _ _ => ⟨.okc hT m hg hst hD (saidM_ok (u := (saidM o.dst v hs).2) rfl hp1), fun _ => hp0⟩
            · cases h
          · cases h
        · cases h
      · cases h
    · cases h

/-- A region's form: edges point back, the tail comes in its order, the slots are apart. -/
def stM (ops : Array Oper) (N nf : Nat) : Bool :=
  backAll 0 ops.toList && lastAll ops.toList (lenM ops.toList - nf) nf && Nat.ble nf (lenM ops.toList) && distD (dstsM nf ops.toList) && allLt N (dstsM nf ops.toList)
/-- Each of the others hangs on the first. -/
def chainM (ops : List Oper) (nf e : Nat) : List Nat → Bool
  | [] => Nat.blt e nf
  | p :: ps => match memM (needs ops p p []) e with | true => (match Nat.blt p nf with | true => chainM ops nf e ps | false => false) | false => false
theorem chainM_ok {ops : List Oper} {nf e : Nat} : ∀ {ps : List Nat}, chainM ops nf e ps = true → e < nf ∧ ∀ p ∈ ps, e ∈ needs ops p p [] ∧ p < nf
  | [], h => ⟨by simpa [chainM, Nat.blt_eq] using h, fun p hp => by simp at hp⟩
  | q :: ps, h => by
    simp only [chainM] at h
    split at h
    · rename_i h1
      split at h
      · rename_i h2
        obtain ⟨h3, h4⟩ := chainM_ok h
        refine ⟨h3, fun p hp => ?_⟩
        rcases List.mem_cons.1 hp with rfl | hp
        · exact ⟨memM_iff.1 h1, by simpa [Nat.blt_eq] using h2⟩
        · exact h4 p hp
      · cases h
    · cases h
theorem needs_self {ops : List Oper} {p q : Nat} (h : q ∈ needs ops p p []) : q < p := ((needs_lt (ops := ops) (i := p) p [] (by simp) (by simp)).2 q h).elim (fun h => by simp at h) id

theorem Ph.base (hT : TTok P TT) {ops : Array Oper} {m nf : Nat} {hs : List (Nat × Bool)} {us : List AV} {past pend op : List Nat} {vin ws : List (Option Nat × AV)} {ps : List Prop} {cl : List CallM} (hst : stM ops N nf = true)
    (hd : phM TT m ops.toList (dropD (dstsM nf ops.toList) T) H hs past (needsAll ops.toList past []) pend op vin nf 0 [] us = some (ps, cl, ws)) (hp : AllP ps) (hcl : AllCalls P H cl) (hv : vin.map (·.1) = (dstsM nf ops.toList).map (·.1)) :
    backAll 0 ops.toList = true ∧ lastAll ops.toList (ops.size - ws.length) ws.length = true ∧ ws.length ≤ ops.size ∧ distD ws = true ∧ (∀ i (h : i < ws.length) d, ws[i].1 = some d → d < N) ∧ vin.map (·.1) = ws.map (·.1) ∧ ws.length = nf ∧
      dropD ws T = dropD (dstsM nf ops.toList) T ∧
      (∀ j (h : j < vin.length) (h' : j < ws.length), j ∈ past ∨ (touch ops.toList op j = false ∧ touch ops.toList pend j = false) → vin[j] = ws[j]) ∧
      ∀ i (h : i < ws.length), ∃ o, ops[i]? = some o ∧ o.dst = ws[i].1 ∧ (i ∉ past → (∀ p ∈ past, i ∉ needs ops.toList p p []) → touch ops.toList pend i = false → (∀ j, j ∈ needsAll ops.toList past [] → ∃ p ∈ past, j ∈ needs ops.toList p p []) →
        FreeStep P N ops o (TS (memM (preds ops.toList i)) 0 ws (dropD ws T)) H ws[i].2) := by
  simp only [stM, Bool.and_eq_true, lenM_eq, Array.length_toList] at hst
  obtain ⟨⟨⟨⟨b1, b2⟩, b3⟩, b4⟩, b5⟩ := hst
  have b3 : nf ≤ ops.size := by simpa using b3
  obtain ⟨_, l2, l3⟩ := phM_ok (N := N) hT b1 nf 0 [] us hd rfl hp hcl
  have hlen : ws.length = nf := by omega
  obtain ⟨d1, d2⟩ := dstsM_get (n := nf) (os := ops.toList) (by simpa using b3)
  have hfst : (dstsM nf ops.toList).map (·.1) = ws.map (·.1) := by
    refine List.ext_getElem (by simp [d1, hlen]) fun i h1 h2 => ?_
    simp only [List.length_map] at h1 h2
    simp only [List.getElem_map]
    obtain ⟨o, o1, o2, _⟩ := l3 i h2 (Nat.zero_le _)
    obtain ⟨hl, rfl⟩ := Array.getElem?_eq_some_iff.1 o1
    rw [d2 i h1 (by simpa using hl), ← o2]
    simp
  have hfst2 : vin.map (·.1) = ws.map (·.1) := hv.trans hfst
  have hdrop : dropD ws T = dropD (dstsM nf ops.toList) T := (dropD_fst hfst T).symm
  refine ⟨b1, by rw [hlen]; exact b2, by omega, by rw [← distD_fst hfst]; exact b4, fun i hi d e => ?_, hfst2, hlen, hdrop, fun j hj hj' hx => ?_, fun i hi => ?_⟩
  · have h2 : i < (dstsM nf ops.toList).length := by omega
    have e2 : (dstsM nf ops.toList)[i].1 = ws[i].1 := by
      have := congrArg (fun l => l[i]?) hfst
      simpa [h2, hi] using this
    exact allLt_iff b5 i h2 d (by rw [e2, e])
  · obtain ⟨o, o1, o2, o3, o4, o5⟩ := l3 j hj' (Nat.zero_le _)
    have e1 : vin[j].1 = ws[j].1 := by
      have := congrArg (fun l => l[j]?) hfst2
      simpa [hj, hj'] using this
    have e2 : ws[j].2 = vin[j].2 := by
      by_cases hx1 : j ∈ past ∨ j ∈ needsAll ops.toList past []
      · exact o4 hx1
      · rcases hx with hx | ⟨hx, hx2⟩
        · exact absurd (.inl hx) hx1
        · exact (o5 (fun h => hx1 (.inl h)) (fun h => hx1 (.inr h)) hx2).2 hx
    exact Prod.ext e1 e2.symm
  · obtain ⟨o, o1, o2, o3, o4, o5⟩ := l3 i hi (Nat.zero_le _)
    refine ⟨o, o1, o2, fun q1 q2 q3 q4 => ?_⟩
    have hn : i ∉ needsAll ops.toList past [] := fun h => by
      obtain ⟨p, hp1, hp2⟩ := q4 i h
      exact q2 p hp1 hp2
    rw [hdrop]
    exact (o5 q1 hn q3).1
theorem needsAll_iff {ops : List Oper} : ∀ {ps acc : List Nat} {i : Nat}, i ∈ needsAll ops ps acc → i ∈ acc ∨ ∃ p ∈ ps, i ∈ needs ops p p []
  | [], acc, i, h => .inl (by simpa [needsAll] using h)
  | p :: ps, acc, i, h => by
    simp only [needsAll, appM_eq] at h
    rcases needsAll_iff h with h | ⟨q, hq, h⟩
    · rcases List.mem_append.1 h with h | h
      · exact .inr ⟨p, by simp, h⟩
      · exact .inl h
    · exact .inr ⟨q, by simp [hq], h⟩

/-- Do the effects to come all stand among those that were to come? -/
def subM : List Nat → List Nat → Bool
  | [], _ => true
  | x :: xs, ys => match memM ys x with | true => subM xs ys | false => false
theorem subM_ok : ∀ {xs ys : List Nat}, subM xs ys = true → ∀ x ∈ xs, x ∈ ys
  | y :: xs, ys, h, x, hx => by
    simp only [subM] at h
    split at h
    · rename_i hm
      rcases List.mem_cons.1 hx with rfl | hx
      · exact memM_iff.1 hm
      · exact subM_ok h x hx
    · cases h
theorem touch_sub {ops : List Oper} {xs ys : List Nat} (h : ∀ x ∈ xs, x ∈ ys) {i : Nat} (ht : touch ops ys i = false) : touch ops xs i = false := by
  cases hb : touch ops xs i with
  | false => rfl
  | true =>
    obtain ⟨x, hx, hp⟩ := anyM_iff.1 hb
    have : touch ops ys i = true := anyM_iff.2 ⟨x, hx, h x hp⟩
    rw [this] at ht; cases ht

theorem Ph.eff (hT : TTok P TT) {ops : Array Oper} {m nf e : Nat} {hs : List (Nat × Bool)} {us : List AV} {past pend' op : List Nat} {vin ws : List (Option Nat × AV)} {ps : List Prop} {cl : List CallM} (hst : stM ops N nf = true) (hv : vin.map (·.1) = (dstsM nf ops.toList).map (·.1))
    (hch : chainM ops.toList nf e pend' = true) (hsub : subM (e :: pend') op = true)
    (hd : phM TT m ops.toList (dropD (dstsM nf ops.toList) T) H hs past (needsAll ops.toList past []) (e :: pend') op vin nf 0 [] us = some (ps, cl, ws)) (hp : AllP ps) (hcl : AllCalls P H cl)
    {o : Oper} (ho : nthM ops.toList e = some o) {Q : AV → AHeap → Prop} (he : EffStep P N ops o (TS (memM (preds ops.toList e)) 0 ws (dropD (dstsM nf ops.toList) T)) H Q)
    (next : ∀ u H1, Q u H1 → Ph P f N n0 ops k T R (e :: past) pend' (e :: pend') (ws.set e (o.dst, u)) H1) : Ph P f N n0 ops k T R past (e :: pend') op vin H := by
  obtain ⟨c1, c2, c3, c4, c5, c6, c7, c8, c9, c10⟩ := Ph.base hT hst hd hp hcl hv
  obtain ⟨h1, h2⟩ := chainM_ok hch
  have ho' : ops[e]? = some o := by rw [nthM_eq] at ho; simpa using ho
  have hfil : (e :: pend').filter (· != e) = pend' := by
    rw [List.filter_cons_of_neg (by simp), List.filter_eq_self.2]
    intro p hp
    have := needs_self (h2 p hp).1
    have : p ≠ e := by omega
    simpa using this
  refine Ph.core c1 c2 c3 c4 c5 c6 (fun j hj hj' hx => c9 j hj hj' (hx.imp id fun hx => ⟨hx, touch_sub (subM_ok hsub) hx⟩)) (fun i hi q1 q2 q3 => ?_) (fun p hp => ?_) (fun p hp hn => ?_) (fun h => by cases h)
  · obtain ⟨o, o1, o2, o3⟩ := c10 i hi
    exact ⟨o, o1, o2, o3 q1 q2 q3 fun j hj => (needsAll_iff hj).elim (fun h => by simp at h) id⟩
  · rcases List.mem_cons.1 hp with rfl | hp
    · omega
    · have := (h2 p hp).2; omega
  · have hpe : p = e := by
      rcases List.mem_cons.1 hp with rfl | hp
      · rfl
      · exact absurd (List.mem_cons_self) (hn e (h2 p hp).1)
    subst hpe
    obtain ⟨o', o1, o2, _⟩ := c10 p (by omega)
    rw [ho'] at o1
    cases o1
    refine ⟨o, Q, ho', ⟨by omega, o2⟩, by rw [c8]; exact he, fun u H1 hq => ?_⟩
    rw [hfil]
    exact next u H1 hq

theorem fst_set {ws vs : List (Option Nat × AV)} {e : Nat} {o : Oper} {u : AV} {D : List (Option Nat)} (h : ws.map (·.1) = D) (he : ∃ h : e < ws.length, o.dst = ws[e].1) (hv : setM (o.dst, u) ws e = some vs) : vs = ws.set e (o.dst, u) ∧ vs.map (·.1) = D := by
  rw [setM_eq] at hv
  obtain ⟨h1, h2⟩ := he
  rw [if_pos h1] at hv
  cases hv
  refine ⟨rfl, ?_⟩
  rw [← h]
  refine List.ext_getElem (by simp) fun j h3 h4 => ?_
  simp only [List.length_map] at h3 h4
  simp only [List.getElem_map, List.getElem_set]
  split
  · rename_i hj; subst hj; exact h2
  · rfl

/-- What a walk through a region leans on. -/
structure PW (P : Program) (TT : TypeId → Option TI) (N : Nat) (ops : Array Oper) (nf : Nat) : Prop where
  tt : TTok P TT
  st : stM ops N nf = true
/-- A region's stand, its slots being those of the region. -/
def Ph1 (P : Program) (f N n0 nf : Nat) (ops : Array Oper) (k : List Item) (T : Env) (R : AV → AHeap → Prop) (past pend op : List Nat) (vs : List (Option Nat × AV)) (H : AHeap) : Prop :=
  vs.map (·.1) = (dstsM nf ops.toList).map (·.1) → Ph P f N n0 ops k T R past pend op vs H

def ltAll (n : Nat) : List Nat → Bool
  | [] => true
  | x :: xs => match Nat.blt x n with | true => ltAll n xs | false => false
theorem ltAll_ok {n : Nat} : ∀ {xs : List Nat}, ltAll n xs = true → ∀ x ∈ xs, x < n
  | y :: xs, h, x, hx => by
    simp only [ltAll] at h
    split at h
    · rename_i hy
      rcases List.mem_cons.1 hx with rfl | hx
      · simpa [Nat.blt_eq] using hy
      · exact ltAll_ok h x hx
    · cases h
/-- Into a region that draws: these operations change the blocks. -/
theorem go_ph {rs : List ResultVar} (W : Walk P TT f rs) (m n nf : Nat) (pend : List Nat) {cs : List Prop} {id : Nat} {ops : Array Oper} {k' : List Item} {T' : Env} {H' : AHeap} (h : exec TT N rs m n [] k T H = .draw cs (.code (.region id ops true) :: k') T' H') (hc : AllC cs)
    (hst : (stM ops N nf && ltAll (lenM ops.toList) pend) = true) (h1 : PW P TT N ops nf → Ph1 P f N n0 nf ops k' T' R [] pend (upFrom 0 nf) (dstsM nf ops.toList) H') : AGo P f N n0 k T H R := by
  obtain ⟨hst, hpl⟩ := Bool.and_eq_true_iff.1 hst
  have hpl : ∀ p ∈ pend, p < ops.size := fun p hp => by have := ltAll_ok hpl p hp; rwa [lenM_eq, Array.length_toList] at this
  have h1 := h1 ⟨W.tt, hst⟩ rfl
  refine go_draw W m n h hc ?_
  simp only [stM, Bool.and_eq_true, lenM_eq, Array.length_toList] at hst
  obtain ⟨⟨⟨⟨b1, b2⟩, b3⟩, b4⟩, b5⟩ := hst
  intro FM β b cs a w e1 e2 e3 e4 hrt hh hn0
  have ho := schedule_ord b1 (P.follows .mixedOrders) (w.tape w.drawn (.order b.fn id))
  have b3 : nf ≤ ops.size := by simpa using b3
  obtain ⟨d1, d2⟩ := dstsM_get (n := nf) (os := ops.toList) (by simpa using b3)
  have small : ∀ j, (!decide (j < ops.size)) = true → ¬ j < ops.size := fun j hj => by simpa using hj
  have hk := h1 _ _ ho (fun j hj p hpj => by
    have hj' : ¬ j < ops.size := by simpa using hj
    unfold preds at hpj
    rw [nthM_eq] at hpj
    have : ops.toList[j]? = none := by simp; omega
    rw [this] at hpj
    simp at hpj) (fun j _ h2 => by simp [h2]) (fun p hp => by simp [hpl p hp]) (fun p hp => by simp at hp) (fun j hj hdj => by
    have := small j hdj
    omega)
  have hrt0 : RelT FM β (TS (fun i => !decide (i < ops.size)) 0 (dstsM nf ops.toList) T') a := by
    intro d v hv
    rcases TS_get (S := fun i => !decide (i < ops.size)) (d := d) (T := T') b4 with ⟨j, hj, q1, q2, q3⟩ | ⟨q1, q2⟩
    · have : j < ops.size := by omega
      simp [this] at q2
    · exact hrt d v (by rw [← q2]; exact hv)
  have hw : RelH FM β H' { w with drawn := w.drawn + 1 } := ⟨fun b blk g n row h1 h2 => by
      obtain ⟨lo, q1, q2⟩ := hh.mem b blk g n row h1 h2
      refine ⟨lo, q1, ?_⟩
      cases lo with
      | none => exact q2
      | some L =>
        have q2 : MemOk FM β w L n row := q2
        exact ⟨q2.sz, q2.sh, q2.fit, q2.cells, q2.free⟩, hh.inj, hh.wid, fun cb o v hx => hh.fm cb o v hx, hh.dom, hh.gk⟩
  have hx : Ext FM β H' w FM β H' { w with drawn := w.drawn + 1 } :=
    ⟨fun _ _ _ h => h, fun _ _ _ h => h, Nat.le_refl _, fun _ _ h => h, fun _ _ _ => rfl, fun _ _ _ h => .inl h, Nat.le_refl _, rfl, rfl, rfl⟩
  exact Ext.go hx hn0 (hk FM β b cs a _ e1 e2 e3 e4 hrt0 hw) (b := b) (.one step_region_draw)

variable (TT : TypeId → Option TI) in
/-- What an effect comes to. -/
def effM (m : Nat) (ops : List Oper) (T0 : Env) (ws : List (Option Nat × AV)) (H : AHeap) (e : Nat) : Option (Option Nat × Prop × AV × AHeap) :=
  match nthM ops e with
  | some o => match guardM ops (TS (memM (preds ops e)) 0 ws T0) o.guard with
    | some none => match opKind o.op (TS (memM (preds ops e)) 0 ws T0) with
      | .plain => match stepOp TT m o.op (TS (memM (preds ops e)) 0 ws T0) H with
        | .ok v H' => some (o.dst, True, v, H')
        | .okc C v H' => some (o.dst, C, v, H')
        | .bad => none
      | _ => none
    | _ => none
  | none => none
def effC (ops : List Oper) (T0 : Env) (ws : List (Option Nat × AV)) (e : Nat) : Option (Option Nat × FuncId × List AV) :=
  match nthM ops e with
  | some o => match guardM ops (TS (memM (preds ops e)) 0 ws T0) o.guard with
    | some none => match opKind o.op (TS (memM (preds ops e)) 0 ws T0) with
      | .call g args => some (o.dst, g, args)
      | _ => none
    | _ => none
  | none => none
variable {nf : Nat} {ops : Array Oper} {past op pend' : List Nat} {vin ws vs' : List (Option Nat × AV)} {ps : List Prop} {cl : List CallM}

/-- The next effect: one operation. -/
theorem ph_op (W : PW P TT N ops nf) (m e : Nat) (hs : List (Nat × Bool)) (us : List AV) {d : Option Nat} {C : Prop} {v : AV} {H1 : AHeap}
    (hd : phM TT m ops.toList (dropD (dstsM nf ops.toList) T) H hs past (needsAll ops.toList past []) (e :: pend') op vin nf 0 [] us = some (ps, cl, ws)) (hch : (chainM ops.toList nf e pend' && subM (e :: pend') op) = true) (hp : AllP ps) (hcl : AllCalls P H cl)
    (he : effM TT m ops.toList (dropD (dstsM nf ops.toList) T) ws H e = some (d, C, v, H1)) (hC : C) (hset : setM (d, v) ws e = some vs') (next : Ph1 P f N n0 nf ops k T R (e :: past) pend' (e :: pend') vs' H1) : Ph1 P f N n0 nf ops k T R past (e :: pend') op vin H := by
  intro hv
  obtain ⟨hc1, hc2⟩ := Bool.and_eq_true_iff.1 hch
  unfold effM at he
  split at he
  · rename_i o ho
    split at he
    · rename_i hg
      split at he
      · have key : ∀ {v1 : AV} {H2 : AHeap}, EffStep P N ops o (TS (memM (preds ops.toList e)) 0 ws (dropD (dstsM nf ops.toList) T)) H (fun u H1 => u = v1 ∧ H1 = H2) → o.dst = d → v1 = v → H2 = H1 → Ph P f N n0 ops k T R past (e :: pend') op vin H := by
          rintro v1 H2 hE rfl rfl rfl
          refine Ph.eff W.tt W.st hv hc1 hc2 hd hp hcl ho hE ?_
          rintro _ _ ⟨rfl, rfl⟩
          obtain ⟨_, _, _, _, _, c6, c7, _, _, c10⟩ := Ph.base W.tt W.st hd hp hcl hv
          obtain ⟨h1, _⟩ := chainM_ok hc1
          obtain ⟨o', o1, o2, _⟩ := c10 e (by omega)
          have : o' = o := by rw [nthM_eq] at ho; simp at ho; rw [o1] at ho; exact Option.some.inj ho
          subst this
          obtain ⟨r1, r2⟩ := fst_set (c6.symm.trans hv) ⟨by omega, o2⟩ hset
          rw [← r1]
          exact next r2
        split at he
        · rename_i hst
          simp only [Option.some.injEq, Prod.mk.injEq] at he
          obtain ⟨r1, r2, r3, r4⟩ := he
          exact key (.ok W.tt m hg hst) r1 r3 r4
        · rename_i hst
          simp only [Option.some.injEq, Prod.mk.injEq] at he
          obtain ⟨r1, r2, r3, r4⟩ := he
          subst r2
          exact key (.okc W.tt m hg hst hC) r1 r3 r4
        · cases he
      · cases he
    · cases he
  · cases he
/-- The next effect: a call. -/
theorem ph_call (W : PW P TT N ops nf) (m e : Nat) (hs : List (Nat × Bool)) (us : List AV) {d : Option Nat} {g : FuncId} {args : List AV} {Q : AV → AHeap → Prop}
    (hd : phM TT m ops.toList (dropD (dstsM nf ops.toList) T) H hs past (needsAll ops.toList past []) (e :: pend') op vin nf 0 [] us = some (ps, cl, ws)) (hch : (chainM ops.toList nf e pend' && subM (e :: pend') op) = true) (hp : AllP ps) (hcl : AllCalls P H cl)
    (he : effC ops.toList (dropD (dstsM nf ops.toList) T) ws e = some (d, g, args)) (hq : AFun P g args H Q) (next : ∀ u H1, Q u H1 → ∃ vs', setM (d, u) ws e = some vs' ∧ Ph1 P f N n0 nf ops k T R (e :: past) pend' (e :: pend') vs' H1) : Ph1 P f N n0 nf ops k T R past (e :: pend') op vin H := by
  intro hv
  obtain ⟨hc1, hc2⟩ := Bool.and_eq_true_iff.1 hch
  unfold effC at he
  split at he
  · rename_i o ho
    split at he
    · rename_i hg
      split at he
      · rename_i g' args' hk
        simp only [Option.some.injEq, Prod.mk.injEq] at he
        obtain ⟨r1, r2, r3⟩ := he
        subst r1; subst r2; subst r3
        refine Ph.eff W.tt W.st hv hc1 hc2 hd hp hcl ho (.call hg hk hq) fun u H1 hQ => ?_
        obtain ⟨vs', hset, nx⟩ := next u H1 hQ
        obtain ⟨_, _, _, _, _, c6, c7, _, _, c10⟩ := Ph.base W.tt W.st hd hp hcl hv
        obtain ⟨h1, _⟩ := chainM_ok hc1
        obtain ⟨o', o1, o2, _⟩ := c10 e (by omega)
        have : o' = o := by rw [nthM_eq] at ho; simp at ho; rw [o1] at ho; exact Option.some.inj ho
        subst this
        obtain ⟨r1, r2⟩ := fst_set (c6.symm.trans hv) ⟨by omega, o2⟩ hset
        rw [← r1]
        exact nx r2
      · cases he
    · cases he
  · cases he
/-- ... that writes these blocks. -/
theorem ph_callM (W : PW P TT N ops nf) (m e : Nat) (ρ : List (Nat × Nat)) (hs : List (Nat × Bool)) (us : List AV) {d : Option Nat} {g : FuncId} {args args' : List AV} {blks : List ABlk} {Q : AV → List ABlk → Prop}
    (hd : phM TT m ops.toList (dropD (dstsM nf ops.toList) T) H hs past (needsAll ops.toList past []) (e :: pend') op vin nf 0 [] us = some (ps, cl, ws)) (hch : (chainM ops.toList nf e pend' && subM (e :: pend') op) = true) (hp : AllP ps) (hcl : AllCalls P H cl)
    (he : effC ops.toList (dropD (dstsM nf ops.toList) T) ws e = some (d, g, args)) (hq : AFunM P g args' blks Q) (hb : getAll ρ blks H) (hρ : distP ρ = true) (er : renL ρ args = some args') (hbc : bcloL blks = true)
    (next : ∀ u blks', Q u blks' → ∃ vs' H1, setM (d, u) ws e = some vs' ∧ setAll ρ blks' H = some H1 ∧ Ph1 P f N n0 nf ops k T R (e :: past) pend' (e :: pend') vs' H1) : Ph1 P f N n0 nf ops k T R past (e :: pend') op vin H :=
  ph_call W m e hs us hd hch hp hcl he (hq.at hb hρ er hbc) fun v H1 ⟨blks', r1, r2⟩ => by
    obtain ⟨vs', H1', q1, q2, q3⟩ := next v blks' r1
    rw [r2] at q2
    cases q2
    exact ⟨vs', q1, q3⟩
/-- All effects are done. -/
theorem ph_end (W : PW P TT N ops nf) (m : Nat) (hs : List (Nat × Bool)) (us : List AV) {T2 : Env}
    (hd : phM TT m ops.toList (dropD (dstsM nf ops.toList) T) H hs past (needsAll ops.toList past []) [] op vin nf 0 [] us = some (ps, cl, ws)) (hp : AllP ps) (hcl : AllCalls P H cl) (e : TS (fun _ => true) 0 ws T = T2)
    (h1 : AGo P f N n0 (.inRegion ops (upFrom nf (lenM ops.toList - nf)) :: k) T2 H R) : Ph1 P f N n0 nf ops k T R past [] op vin H := by
  intro hv
  obtain ⟨c1, c2, c3, c4, c5, c6, c7, c8, c9, c10⟩ := Ph.base W.tt W.st hd hp hcl hv
  subst e
  refine Ph.core c1 c2 c3 c4 c5 c6 (fun j hj hj' hx => c9 j hj hj' (hx.imp id fun hx => ⟨hx, touch_sub (xs := []) (fun x hx => by simp at hx) hx⟩)) (fun i hi q1 q2 q3 => ?_) (fun p hp => by simp at hp) (fun p hp => by simp at hp) (fun _ => ?_)
  · obtain ⟨o, o1, o2, o3⟩ := c10 i hi
    exact ⟨o, o1, o2, o3 q1 q2 q3 fun j hj => (needsAll_iff hj).elim (fun h => by simp at h) id⟩
  · rw [c7, ← upFrom_eq]; rw [lenM_eq, Array.length_toList] at h1; exact h1

/-- Back to a loop's head, the blocks from 'nb' on being dropped. -/
theorem go_backD {rs : List ResultVar} {TT : TypeId → Option TI} {f N n0 : Nat} {k : List Item} {T : Env} {H : AHeap} {R : AV → AHeap → Prop} (W : Walk P TT f rs) (m n nb : Nat) (ds : List Nat) {cs qs : List Prop} {c : Code} {k' : List Item} {T' T1 : Env} {H' H1 : AHeap} (h : exec TT N rs m n [] k T H = .back cs c k' T' H')
    (hk : keepM T' ds = some T1) (e2 : beloT nb T1 = true) (e3 : dropM nb nb H' = some (qs, H1)) (hn : Nat.ble n0 nb = true) (hc : AllC cs) (hq : AllC qs) (h1 : AGo P f N n0 (.inLoop c :: k') T1 H1 R) : AGo P f N n0 k T H R :=
  W.ok (by rw [h]; exact ⟨hc, go_drop nb ds hk e2 e3 hn hq h1⟩)
/-- Rows that are the same as far as they go. -/
theorem Sub.fz {n : Nat} {row row' : Nat → List AV} (h : ∀ i, i < n → row i = row' i) : Sub (.fz n row) (.fz n row') := fun FM β cv h' => by
  cases h' with
  | fz0 => exact .fz0
  | fz cv hz hc hl hm ho hv =>
    refine .fz cv hz hc (fun i hi => by rw [← h i hi]; exact hl i hi) hm ho ?_
    intro i j hi hx
    have e := h i hi
    have := hv i j hi (by rw [e]; exact hx)
    simpa [e] using this
theorem Sub.fzn {n n' : Nat} {row row' : Nat → List AV} (hn : n = n') (h : ∀ i, i < n → row i = row' i) : Sub (.fz n row) (.fz n' row') := by subst hn; exact Sub.fz h
theorem Sub.trans {a b c : AV} (h : Sub a b) (k : Sub b c) : Sub a c := fun FM β cv h' => k _ _ _ (h _ _ _ h')

/-- A call of a function that touches nothing, and is told nothing of the blocks at hand. -/
theorem go_callQ {rs : List ResultVar} {TT : TypeId → Option TI} {f N n0 : Nat} {k : List Item} {T : Env} {H : AHeap} {R : AV → AHeap → Prop} (W : Walk P TT f rs) (m n : Nat) {cs : List Prop} {g : FuncId} {args : List AV} {dst : Option Nat} {k' : List Item} {T' : Env} {H' : AHeap} {Q : AV → Prop}
    (h : exec TT N rs m n [] k T H = .call cs g args dst k' T' H') (hc : AllC cs) (hcl : cloL args = true) (hq : AFunP P g args Q) (h1 : ∀ v, Q v → ∃ T1, dstM N dst v T' = some T1 ∧ AGo P f N n0 k' T1 H' R) : AGo P f N n0 k T H R :=
  go_call W m n h hc (hq.at hcl H') fun v H1 ⟨e1, e2⟩ => by
    subst e1
    exact h1 v e2

end Pf
/- A nil slice in a cell, as an empty block of its own. -/
namespace Pf
open Go
variable {P : Program} {TT : TypeId → Option TI} {f N n0 : Nat} {k : List Item} {T : Env} {H : AHeap} {R : AV → AHeap → Prop}

/-- The cell 'c' of row 'r' of block 'b' holds no cells: from here on it is a slice of an empty block, at the heap's end. -/
theorem go_nilC (b r c : Nat) (blk : ABlk) {g : Nat} {rows rows1 : List (List AV)} {row row1 : List AV} {v : AV} {rowE : Nat → List AV} {H1 H2 : AHeap} (e0 : nthM H b = some (.lst g rows)) (er : nthM rows r = some row) (ec : nthM row c = some v) (en : isNil v = true)
    (eb : blk.view = some (0, 0, rowE)) (e1 : setM (.sl (lenM H) 0 0 0) row c = some row1) (e2 : setM row1 rows r = some rows1) (e3 : setM (.lst g rows1) H b = some H1) (e4 : appM H1 [blk] = some H2)
    (h : AGo P f N n0 k T H2 R) : AGo P f N n0 k T H R := by
  intro FM β bf cs a w a1 a2 a3 a4 hT hH hl
  rw [nthM_eq] at e0 er ec
  rw [setM_eq] at e1 e2 e3
  rw [appM_eq] at e4
  cases e4
  obtain ⟨hb, hbv⟩ := List.getElem?_eq_some_iff.1 e0
  obtain ⟨hr, hrv⟩ := List.getElem?_eq_some_iff.1 er
  obtain ⟨hc, hcv⟩ := List.getElem?_eq_some_iff.1 ec
  rw [if_pos hc] at e1
  rw [if_pos hr] at e2
  rw [if_pos hb] at e3
  cases e1; cases e2; cases e3
  simp only [lenM_eq] at *
  let β1 : BMap := fun b g => if b = H.length ∧ g = 0 then some none else β b g
  have hnone : ∀ g, β H.length g = none := by
    intro g
    cases hb : β H.length g with
    | none => rfl
    | some lo => have := (hH.dom _ _ _ hb).1; omega
  have hβ : ∀ b g lo, β b g = some lo → β1 b g = some lo := by
    intro b g lo hb
    simp only [β1]
    split
    · rename_i h1
      obtain ⟨rfl, rfl⟩ := h1
      rw [hnone] at hb; cases hb
    · exact hb
  have some1 : ∀ {i g : Nat} {L : Loc}, β1 i g = some (some L) → β i g = some (some L) := by
    intro i g L hi
    simp only [β1] at hi
    split at hi
    · cases hi
    · exact hi
  -- a block of the new heap, and what it was
  have get : ∀ {i : Nat} {bl : ABlk} {g' m : Nat} {rw1 : Nat → List AV}, ((H.set b (.lst g (rows.set r (row.set c (.sl H.length 0 0 0))))) ++ [blk])[i]? = some bl → bl.view = some (g', m, rw1) →
      (∃ bl0 rw0, i < H.length ∧ H[i]? = some bl0 ∧ bl0.view = some (g', m, rw0) ∧ bl.width = bl0.width ∧ (i ≠ b → rw1 = rw0) ∧ (i = b → rw0 = (fun i => rows.getD i []) ∧ rw1 = fun i => (rows.set r (row.set c (.sl H.length 0 0 0))).getD i [])) ∨ (i = H.length ∧ bl = blk) := by
    intro i bl g' m rw1 hi hv
    rcases Nat.lt_or_ge i H.length with h1 | h1
    · rw [List.getElem?_append_left (by simpa using h1), List.getElem?_set] at hi
      by_cases hib : b = i
      · subst hib
        rw [if_pos rfl, if_pos h1] at hi
        cases hi
        simp only [ABlk.view, Option.some.injEq, Prod.mk.injEq, List.length_set] at hv
        obtain ⟨rfl, rfl, rfl⟩ := hv
        refine .inl ⟨_, _, h1, e0, rfl, ?_, fun h => absurd rfl h, fun _ => ⟨rfl, rfl⟩⟩
        simp only [ABlk.width]
        by_cases h0 : r = 0
        · subst h0
          rw [← hrv]
          simp [List.getD_eq_getElem?_getD, hr]
        · simp [List.getD_eq_getElem?_getD, h0]
      · rw [if_neg hib] at hi
        exact .inl ⟨bl, rw1, h1, hi, hv, rfl, fun _ => rfl, fun h => absurd h.symm hib⟩
    · rw [List.getElem?_append_right (by simpa using h1)] at hi
      obtain ⟨h2, h3⟩ := List.getElem?_eq_some_iff.1 hi
      simp at h2
      have : i = H.length := by omega
      subst this
      simp at h3
      exact .inr ⟨rfl, h3.symm⟩
  have hcell : ∀ {cv : Value}, VR FM β v cv → VR FM β1 (.sl H.length 0 0 0) cv := by
    intro cv h0
    have hb : β1 H.length 0 = some none := by simp [β1]
    cases h0 with
    | nils => exact .sl0 hb fun L h => by cases h
    | e0 => exact .sl0 hb fun L h => by cases h
    | _ => cases en
  have hR : RelH FM β1 ((H.set b (.lst g (rows.set r (row.set c (.sl H.length 0 0 0))))) ++ [blk]) w := by
    refine ⟨?_, ?_, ?_, hH.fm, ?_, hH.gk⟩
    · intro i bl g' m rw1 h1 h2
      rcases get h1 h2 with ⟨bl0, rw0, hi, q1, q2, _, q3, q4⟩ | ⟨rfl, rfl⟩
      · obtain ⟨lo, p1, p2⟩ := hH.mem i bl0 g' m rw0 q1 q2
        refine ⟨lo, hβ _ _ _ p1, ?_⟩
        cases lo with
        | none => exact p2
        | some L =>
          have p2 : MemOk FM β w L m rw0 := p2
          by_cases hib : i = b
          · obtain ⟨rfl, rfl⟩ := q4 hib
            obtain ⟨cc, ee, fr, c1, c2, c3, c4, c5⟩ := p2.cells
            refine ⟨p2.sz, p2.sh, p2.fit, ⟨cc, ee, fr, c1, c2, c3, c4, fun r' hr1 hr2 => ?_⟩, p2.free⟩
            obtain ⟨k1, k2⟩ := c5 r' hr1 hr2
            by_cases hrr : r' = r
            · subst hrr
              have ea : rows.getD r' [] = row := by simp [List.getD_eq_getElem?_getD, er]
              have eb' : (rows.set r' (row.set c (.sl H.length 0 0 0))).getD r' [] = row.set c (.sl H.length 0 0 0) := by simp [List.getD_eq_getElem?_getD, hr]
              rw [ea] at k1
              refine ⟨by rw [eb']; simpa using k1, ?_⟩
              rw [eb']
              intro j hj
              obtain ⟨cv, k3, k4⟩ := k2 j (by rw [ea]; simpa using hj)
              refine ⟨cv, k3, ?_⟩
              have k4 : VR FM β (row[j]'(by simpa using hj)) cv := by
                have : ∀ {l : List AV} (e : l = row) (h1 : j < l.length), VR FM β l[j] cv → VR FM β (row[j]'(by simpa using hj)) cv := by rintro _ rfl _ h; exact h
                exact this ea _ k4
              by_cases hjc : c = j
              · subst hjc
                simp only [List.getElem_set_self]
                rw [hcv] at k4
                exact hcell k4
              · rw [List.getElem_set_ne hjc]
                exact k4.mono (fun _ _ _ h => h) hβ
            · have ea : (rows.set r (row.set c (.sl H.length 0 0 0))).getD r' [] = rows.getD r' [] := by
                simp [List.getD_eq_getElem?_getD, List.getElem?_set, Ne.symm hrr]
              refine ⟨by rw [ea]; exact k1, ?_⟩
              rw [ea]
              intro j hj
              obtain ⟨cv, k3, k4⟩ := k2 j hj
              exact ⟨cv, k3, k4.mono (fun _ _ _ h => h) hβ⟩
          · rw [q3 hib]
            exact p2.still rfl hβ
      · rw [eb] at h2; cases h2
        exact ⟨none, by simp [β1], rfl⟩
    · intro b1 b2 k1 k2 g1 g2 n1 n2 row1 row2 L1 L2 h1 h2 h3 h4 h5 h6 h7
      have q3 := some1 h3
      have q6 := some1 h6
      rcases get h1 h2 with ⟨x0, y0, _, x1, x2, _⟩ | ⟨rfl, rfl⟩
      · rcases get h4 h5 with ⟨x0', y0', _, x1', x2', _⟩ | ⟨rfl, rfl⟩
        · exact hH.inj b1 b2 x0 x0' g1 g2 n1 n2 y0 y0' L1 L2 x1 x2 q3 x1' x2' q6 h7
        · rw [hnone] at q6; cases q6
      · rw [hnone] at q3; cases q3
    · intro i bl g' m rw1 L h1 h2 h3
      have q3 := some1 h3
      rcases get h1 h2 with ⟨x0, y0, _, x1, x2, x3, _⟩ | ⟨rfl, rfl⟩
      · rw [x3]; exact hH.wid i x0 g' m y0 L x1 x2 q3
      · rw [hnone] at q3; cases q3
    · intro i g' lo hi
      simp only [β1] at hi
      split at hi
      · rename_i h1
        obtain ⟨rfl, rfl⟩ := h1
        exact ⟨by simp, fun _ _ _ _ _ _ => Nat.zero_le _⟩
      · obtain ⟨q1, q2⟩ := hH.dom i g' lo hi
        refine ⟨by simp; omega, fun bl g2 m rw1 h1 h2 => ?_⟩
        rcases get h1 h2 with ⟨x0, y0, _, x1, x2, _⟩ | ⟨rfl, rfl⟩
        · exact q2 x0 g2 m y0 x1 x2
        · omega
  obtain ⟨v', w', fr, av, FM', β', H', h1, h2, h3, h4, h5⟩ := h FM β1 bf cs a w a1 a2 a3 a4 (hT.mono (fun _ _ _ h => h) hβ) hR (by simp; omega)
  have himg : ∀ cb, cb < w.heap.size → Img β1 ((H.set b (.lst g (rows.set r (row.set c (.sl H.length 0 0 0))))) ++ [blk]) cb → Img β H cb := by
    intro cb _ hi
    obtain ⟨i, bl, g', m, rw1, L, q1, q2, q3, q4⟩ := hi
    have q3 := some1 q3
    rcases get q1 q2 with ⟨x0, y0, _, x1, x2, _⟩ | ⟨rfl, rfl⟩
    · exact ⟨i, x0, g', m, y0, L, x1, x2, q3, q4⟩
    · rw [hnone] at q3; cases q3
  have hx : ExtB n0 FM β H w FM β1 ((H.set b (.lst g (rows.set r (row.set c (.sl H.length 0 0 0))))) ++ [blk]) w := ⟨fun _ _ _ h => h, fun b g lo _ e => hβ b g lo e, Nat.le_refl _, himg, fun _ _ _ => rfl, fun _ _ _ h => .inl h, by simp; omega, rfl, rfl, rfl⟩
  exact ⟨v', w', fr, av, FM', β', H', h1, h2, h3, hx.trans h4, h5⟩

end Pf
/- Functions that make blocks of any kind, called with blocks at hand. -/
namespace Pf
open Go
variable {P : Program} {TT : TypeId → Option TI} {f N n0 : Nat} {k : List Item} {T : Env} {H : AHeap} {R : AV → AHeap → Prop}

/-- A block renumbered. -/
def shfB (d : Nat) : ABlk → ABlk
  | .lst g rows => .lst g (rows.map fun r => r.map (shf d))
  | .tab g n row => .tab g n fun i => (row i).map (shf d)
  | b => b
def flatLL : List (List AV) → Bool
  | [] => true
  | r :: rs => match flatL r with | true => flatLL rs | false => false
theorem flatLL_get : ∀ {rs : List (List AV)}, flatLL rs = true → ∀ i (h : i < rs.length), flatL rs[i] = true
  | r :: rs, h, i, hi => by
    simp only [flatLL] at h
    split at h
    · rename_i hr
      cases i with
      | zero => exact hr
      | succ i => exact flatLL_get h i (by simpa using hi)
    · cases h
/-- No function values, no boxes in a block. -/
def flatB : ABlk → Prop
  | .lst _ rows => flatLL rows = true
  | .tab _ n row => ∀ i, i < n → flatL (row i) = true
  | _ => True
def flatH : AHeap → Prop
  | [] => True
  | b :: bs => flatB b ∧ flatH bs
theorem flatH_get : ∀ {H : AHeap}, flatH H → ∀ {i : Nat} {blk : ABlk}, H[i]? = some blk → flatB blk
  | b :: bs, h, 0, blk, e => by simp at e; subst e; exact h.1
  | b :: bs, h, i + 1, blk, e => flatH_get h.2 (i := i) (by simpa using e)
  | [], h, i, blk, e => by simp at e
theorem shfB_view {d : Nat} {blk : ABlk} {g n : Nat} {row : Nat → List AV} (h : (shfB d blk).view = some (g, n, row)) :
    ∃ row0, blk.view = some (g, n, row0) ∧ (shfB d blk).width = blk.width ∧ ∀ i, i < n → row i = (row0 i).map (shf d) := by
  cases blk with
  | dead => cases h
  | lst g' rows =>
    simp only [shfB, ABlk.view, Option.some.injEq, Prod.mk.injEq, List.length_map] at h
    obtain ⟨rfl, rfl, rfl⟩ := h
    refine ⟨_, rfl, ?_, fun i hi => ?_⟩
    · simp only [shfB, ABlk.width, List.getD_eq_getElem?_getD, List.getElem?_map]
      cases rows[0]? with
      | none => rfl
      | some r => simp
    · simp [List.getD_eq_getElem?_getD, hi]
  | ints g' k l =>
    simp only [shfB, ABlk.view, Option.some.injEq, Prod.mk.injEq] at h
    obtain ⟨rfl, rfl, rfl⟩ := h
    exact ⟨_, rfl, rfl, fun i hi => rfl⟩
  | tab g' n' row' =>
    simp only [shfB, ABlk.view, Option.some.injEq, Prod.mk.injEq] at h
    obtain ⟨rfl, rfl, rfl⟩ := h
    exact ⟨_, rfl, by simp [shfB, ABlk.width], fun i hi => rfl⟩
theorem flatB_row {blk : ABlk} (h : flatB blk) {g n : Nat} {row : Nat → List AV} (hv : blk.view = some (g, n, row)) : ∀ i, i < n → flatL (row i) = true := by
  intro i hi
  cases blk with
  | dead => cases hv
  | lst g' rows =>
    simp only [ABlk.view, Option.some.injEq, Prod.mk.injEq] at hv
    obtain ⟨rfl, rfl, rfl⟩ := hv
    have := flatLL_get h i hi
    simpa [List.getD_eq_getElem?_getD, hi] using this
  | ints g' k l =>
    simp only [ABlk.view, Option.some.injEq, Prod.mk.injEq] at hv
    obtain ⟨rfl, rfl, rfl⟩ := hv
    rfl
  | tab g' n' row' =>
    simp only [ABlk.view, Option.some.injEq, Prod.mk.injEq] at hv
    obtain ⟨rfl, rfl, rfl⟩ := hv
    exact h i hi

/-- Blocks made: with others at hand, they come behind these. -/
theorem AFun.frame {args : List AV} {Q : AV → AHeap → Prop} (h : AFun P f args [] Q) (hc : cloL args = true) (hfl : ∀ u H2, Q u H2 → flat u = true ∧ flatH H2) (H : AHeap) :
    AFun P f args H fun v H1 => ∃ u H2, Q u H2 ∧ v = shf H.length u ∧ H1 = H ++ H2.map (shfB H.length) := by
  refine ⟨h.1, fun FM β cs w cargs hv hh => ?_⟩
  have h0 : RelH FM noB [] w := ⟨fun b blk g n row h => by simp at h, fun b b' blk blk' g g' n n' row row' L L' h => by simp at h, fun b blk g n row L h => by simp at h, hh.fm, (fun b g lo h => by cases h), hh.gk⟩
  obtain ⟨v, w', fr, av, FM1, β1, H1, hQ, h1, h2, h3, h4, h5, h6⟩ := h.2 FM noB cs w cargs ⟨hv.1, fun i hi => (hv.2 i hi).clo (cloL_get hc i hi) noB⟩ h0
  obtain ⟨f1, f2⟩ := hfl _ _ hQ
  let β' : BMap := fun b g => if b < H.length then β b g else β1 (b - H.length) g
  have hlo : ∀ {b g : Nat}, b < H.length → β' b g = β b g := fun hb => by simp [β', hb]
  have hhi : ∀ b g, β' (b + H.length) g = β1 b g := fun b g => by simp [β', show ¬ b + H.length < H.length by omega]
  have hold : ∀ b g lo, β b g = some lo → β' b g = some lo := fun b g lo hb => by rw [hlo (hh.dom _ _ _ hb).1]; exact hb
  have img1 : ∀ cb, cb < w.heap.size → ¬ Img β1 H1 cb := fun cb hl hi => noImg cb (h3.img cb hl hi)
  have fm1 : ∀ cb o v, cb < w.heap.size → FM1 cb o = some v → FM cb o = some v := by
    intro cb o v hl hx
    rcases h3.fmn _ _ _ hx with hx | hx | hx
    · exact hx
    · omega
    · exact absurd hx (noImg cb)
  have get : ∀ {i : Nat} {bl : ABlk} {g n : Nat} {row : Nat → List AV}, (H ++ H1.map (shfB H.length))[i]? = some bl → bl.view = some (g, n, row) →
      (i < H.length ∧ H[i]? = some bl) ∨ (∃ j bl0 row0, i = j + H.length ∧ H1[j]? = some bl0 ∧ bl0.view = some (g, n, row0) ∧ bl.width = bl0.width ∧ (∀ r, r < n → row r = (row0 r).map (shf H.length)) ∧ ∀ r, r < n → flatL (row0 r) = true) := by
    intro i bl g n row hi hv
    rcases Nat.lt_or_ge i H.length with hl | hl
    · rw [List.getElem?_append_left hl] at hi; exact .inl ⟨hl, hi⟩
    · rw [List.getElem?_append_right hl, List.getElem?_map] at hi
      cases hb : H1[i - H.length]? with
      | none => rw [hb] at hi; cases hi
      | some bl0 =>
        rw [hb] at hi
        simp only [Option.map_some, Option.some.injEq] at hi
        subst hi
        obtain ⟨row0, q1, q2, q3⟩ := shfB_view hv
        exact .inr ⟨i - H.length, bl0, row0, by omega, hb, q1, q2, q3, flatB_row (flatH_get f2 hb) q1⟩
  have small : ∀ {b g : Nat} {blk : ABlk} {n : Nat} {row : Nat → List AV} {L : Loc}, H[b]? = some blk → blk.view = some (g, n, row) → β b g = some (some L) → L.cb < w.heap.size := by
    intro b g blk n row L q1 q2 q3
    obtain ⟨lo, p1, p2⟩ := hh.mem b blk g n row q1 q2
    rw [q3] at p1
    cases p1
    have p2 : MemOk FM β w L n row := p2
    obtain ⟨c, e, frr, c1, _⟩ := p2.cells
    rcases Nat.lt_or_ge L.cb w.heap.size with hl | hl
    · exact hl
    · rw [Array.getElem?_eq_none hl] at c1; cases c1
  have big : ∀ {b g : Nat} {blk : ABlk} {n : Nat} {row : Nat → List AV} {L : Loc}, H1[b]? = some blk → blk.view = some (g, n, row) → β1 b g = some (some L) → w.heap.size ≤ L.cb := by
    intro b g blk n row L q1 q2 q3
    rcases Nat.lt_or_ge L.cb w.heap.size with hl | hl
    · exact absurd ⟨b, blk, g, n, row, L, q1, q2, q3, rfl⟩ (img1 _ hl)
    · exact hl
  refine ⟨v, w', fr, shf H.length av, FM1, β', H ++ H1.map (shfB H.length), ⟨av, H1, hQ, rfl, rfl⟩, h1.shf hhi f1, ?_, ?_, h4, h5, h6⟩
  · refine ⟨?_, ?_, ?_, h2.fm, ?_, h2.gk⟩
    · intro i bl g n row q1 q2
      rcases get q1 q2 with ⟨hi, q1⟩ | ⟨j, bl0, row0, rfl, p1, p2, p3, p4, p5⟩
      · obtain ⟨lo, k1, k2⟩ := hh.mem i bl g n row q1 q2
        refine ⟨lo, by rw [hlo hi]; exact k1, ?_⟩
        cases lo with
        | none => exact k2
        | some L =>
          have k2 : MemOk FM β w L n row := k2
          obtain ⟨c, e, frr, c1, c2, c3, c4, c5⟩ := k2.cells
          have hlt := small q1 q2 k1
          refine ⟨k2.sz, k2.sh, k2.fit, ⟨c, e, frr, ?_, c2, c3, c4, fun r hr1 hr2 => ?_⟩, fun o => ?_⟩
          · rw [h3.frame _ hlt (noImg _)]; exact c1
          · obtain ⟨k3, k4⟩ := c5 r hr1 hr2
            refine ⟨k3, fun j hj => ?_⟩
            obtain ⟨cv, k5, k6⟩ := k4 j hj
            exact ⟨cv, k5, k6.mono h3.fm hold⟩
          · cases hx : FM1 L.cb o with
            | none => rfl
            | some v => have := fm1 _ _ _ hlt hx; rw [k2.free o] at this; cases this
      · obtain ⟨lo, k1, k2⟩ := h2.mem j bl0 g n row0 p1 p2
        refine ⟨lo, by rw [hhi]; exact k1, ?_⟩
        cases lo with
        | none => exact k2
        | some L =>
          have k2 : MemOk FM1 β1 w' L n row0 := k2
          obtain ⟨c, e, frr, c1, c2, c3, c4, c5⟩ := k2.cells
          refine ⟨k2.sz, k2.sh, k2.fit, ⟨c, e, frr, c1, c2, c3, c4, fun r hr1 hr2 => ?_⟩, k2.free⟩
          obtain ⟨k3, k4⟩ := c5 r hr1 hr2
          rw [p4 r hr2]
          refine ⟨by simpa using k3, fun j hj => ?_⟩
          obtain ⟨cv, k5, k6⟩ := k4 j (by simpa using hj)
          refine ⟨cv, k5, ?_⟩
          rw [List.getElem_map]
          exact k6.shf hhi (flatL_get (p5 r hr2) j (by simpa using hj))
    · intro b b' k1 k1' g g' n n' row row' L L' q1 q2 q3 q1' q2' q3' he
      rcases get q1 q2 with ⟨hi, p1⟩ | ⟨j, bl0, row0, rfl, p1, p2, _⟩
      · rcases get q1' q2' with ⟨hi', p1'⟩ | ⟨j', bl0', row0', rfl, p1', p2', _⟩
        · exact hh.inj b b' k1 k1' g g' n n' row row' L L' p1 q2 (by rw [← hlo hi]; exact q3) p1' q2' (by rw [← hlo hi']; exact q3') he
        · have a := small p1 q2 (by rw [← hlo hi]; exact q3)
          have c := big p1' p2' (by rw [← hhi]; exact q3')
          omega
      · rcases get q1' q2' with ⟨hi', p1'⟩ | ⟨j', bl0', row0', rfl, p1', p2', _⟩
        · have a := small p1' q2' (by rw [← hlo hi']; exact q3')
          have c := big p1 p2 (by rw [← hhi]; exact q3)
          omega
        · have := h2.inj j j' bl0 bl0' g g' n n' row0 row0' L L' p1 p2 (by rw [← hhi]; exact q3) p1' p2' (by rw [← hhi]; exact q3') he
          omega
    · intro b bl g n row L q1 q2 q3
      rcases get q1 q2 with ⟨hi, p1⟩ | ⟨j, bl0, row0, rfl, p1, p2, p3, _⟩
      · exact hh.wid b bl g n row L p1 q2 (by rw [← hlo hi]; exact q3)
      · rw [p3]; exact h2.wid j bl0 g n row0 L p1 p2 (by rw [← hhi]; exact q3)
    · intro b g lo q
      rcases Nat.lt_or_ge b H.length with hi | hi
      · rw [hlo hi] at q
        refine ⟨by simp; omega, fun bl g' n row q1 q2 => ?_⟩
        rcases get q1 q2 with ⟨_, p1⟩ | ⟨j, _, _, rfl, _⟩
        · exact (hh.dom b g lo q).2 bl g' n row p1 q2
        · omega
      · obtain ⟨j, rfl⟩ : ∃ j, b = j + H.length := ⟨b - H.length, by omega⟩
        rw [hhi] at q
        obtain ⟨d1, d2⟩ := h2.dom j g lo q
        refine ⟨by simp; omega, fun bl g' n row q1 q2 => ?_⟩
        rcases get q1 q2 with ⟨hlt, _⟩ | ⟨j', bl0, row0, he, p1, p2, _⟩
        · omega
        · have : j' = j := by omega
          subst this
          exact d2 bl0 g' n row0 p1 p2
  · refine ⟨h3.fm, hold, h3.size, fun cb hl i => ?_, fun cb hl hi => h3.frame cb hl (noImg cb), fun cb o v hx => ?_, by simp, h3.os, h3.output, h3.tape⟩
    · obtain ⟨b, bl, g, n, row, L, q1, q2, q3, q4⟩ := i
      rcases get q1 q2 with ⟨hi, p1⟩ | ⟨j, bl0, row0, rfl, p1, p2, _⟩
      · exact ⟨b, bl, g, n, row, L, p1, q2, by rw [← hlo hi]; exact q3, q4⟩
      · have := big p1 p2 (by rw [← hhi]; exact q3)
        omega
    · rcases Nat.lt_or_ge cb w.heap.size with hl | hl
      · exact .inl (fm1 _ _ _ hl hx)
      · exact .inr (.inl hl)

/-- A call of a function that makes blocks. -/
theorem go_callX {rs : List ResultVar} (W : Walk P TT f rs) (m n : Nat) {cs : List Prop} {g : FuncId} {args : List AV} {dst : Option Nat} {k' : List Item} {T' : Env} {H' : AHeap} {Q : AV → AHeap → Prop}
    (h : exec TT N rs m n [] k T H = .call cs g args dst k' T' H') (hc : AllC cs) (hcl : cloL args = true) (hq : AFun P g args [] Q) (hfl : ∀ u H2, Q u H2 → flat u = true ∧ flatH H2)
    (h1 : ∀ u H2, Q u H2 → ∃ T1 H1, dstM N dst (shf (lenM H') u) T' = some T1 ∧ appM H' (H2.map (shfB (lenM H'))) = some H1 ∧ AGo P f N n0 k' T1 H1 R) : AGo P f N n0 k T H R :=
  go_call W m n h hc (hq.frame hcl hfl H') fun v H1 ⟨u, H2, r1, r2, r3⟩ => by
    obtain ⟨T1, H1', q1, q2, q3⟩ := h1 u H2 r1
    rw [appM_eq] at q2
    rw [lenM_eq] at q1 q2
    cases q2
    subst r2; subst r3
    exact ⟨T1, q1, q3⟩

end Pf
/- The rules as they are used: the conditions are shown by one tactic, said here. -/
namespace Pf
open Go
variable {P : Program} {TT : TypeId → Option TI} {f N n0 : Nat} {k : List Item} {T : Env} {H : AHeap} {R : AV → AHeap → Prop} {rs : List ResultVar}

theorem wrapU (n : Int) : IntKind.u64.wrap n = n % 18446744073709551616 := by simp [IntKind.wrap, IntKind.bits, IntKind.signed]
theorem pw1 : (2 : Int) ^ 1 = 2 := rfl
theorem pw7 : (2 : Int) ^ 7 = 128 := rfl
theorem pw8 : (2 : Int) ^ 8 = 256 := rfl
theorem pw16 : (2 : Int) ^ 16 = 65536 := rfl
theorem pw23 : (2 : Int) ^ 23 = 8388608 := rfl
theorem pw32 : (2 : Int) ^ 32 = 4294967296 := rfl
theorem pw52 : (2 : Int) ^ 52 = 4503599627370496 := rfl

/-- Conditions that are so. -/
abbrev Holds (p : Prop) : Prop := p

theorem sp (W : Walk P TT f rs) (m : Nat) {cs : List Prop} {d : Nat} {p q : Prop} {k' : List Item} {T' T1 T2 : Env} {H' : AHeap} (h : exec TT N rs m 300 [] k T H = .split cs d p q k' T' H')
    (e1 : putM d (.bool true) T' = some T1) (e2 : putM d (.bool false) T' = some T2) (h1 : p → AGo P f N n0 k' T1 H' R) (h2 : q → AGo P f N n0 k' T2 H' R) (hc : AllC cs := by first | exact True.intro | (simp only [AllC, AllP, addN, Int.toNat_natCast, true_and, and_true, Option.getD, List.length_set, wrapU, pw1, pw7, pw8, pw16, pw23, pw32, pw52, Holds] <;> first | omega | ((repeat' apply And.intro) <;> first | omega | (intros; rfl))) | (simp [AllC, AllP, addN, cloL, clo, mrgL, mrg, wrapU, Holds] <;> omega)) : AGo P f N n0 k T H R :=
  go_split W m 300 h e1 e2 hc h1 h2
theorem ce (W : Walk P TT f rs) (m : Nat) {cs : List Prop} {g : FuncId} {args : List AV} {dst : Option Nat} {k' : List Item} {T' T1 : Env} {H' : AHeap} {u : AV}
    (h : exec TT N rs m 300 [] k T H = .call cs g args dst k' T' H') (hcl : cloL args = true) (hq : AFunP P g args (· = u)) (e : dstM N dst u T' = some T1) (h1 : AGo P f N n0 k' T1 H' R) (hc : AllC cs := by first | exact True.intro | (simp only [AllC, AllP, addN, Int.toNat_natCast, true_and, and_true, Option.getD, List.length_set, wrapU, pw1, pw7, pw8, pw16, pw23, pw32, pw52, Holds] <;> first | omega | ((repeat' apply And.intro) <;> first | omega | (intros; rfl))) | (simp [AllC, AllP, addN, cloL, clo, mrgL, mrg, wrapU, Holds] <;> omega)) : AGo P f N n0 k T H R :=
  go_callE W m 300 h hc hcl hq e h1
theorem cq (W : Walk P TT f rs) (m : Nat) {cs : List Prop} {g : FuncId} {args : List AV} {dst : Option Nat} {k' : List Item} {T' : Env} {H' : AHeap} {Q : AV → Prop}
    (h : exec TT N rs m 300 [] k T H = .call cs g args dst k' T' H') (hcl : cloL args = true) (hq : AFunP P g args Q) (h1 : ∀ v, Q v → ∃ T1, dstM N dst v T' = some T1 ∧ AGo P f N n0 k' T1 H' R) (hc : AllC cs := by first | exact True.intro | (simp only [AllC, AllP, addN, Int.toNat_natCast, true_and, and_true, Option.getD, List.length_set, wrapU, pw1, pw7, pw8, pw16, pw23, pw32, pw52, Holds] <;> first | omega | ((repeat' apply And.intro) <;> first | omega | (intros; rfl))) | (simp [AllC, AllP, addN, cloL, clo, mrgL, mrg, wrapU, Holds] <;> omega)) : AGo P f N n0 k T H R :=
  go_callQ W m 300 h hc hcl hq h1
theorem cx (W : Walk P TT f rs) (m : Nat) {cs : List Prop} {g : FuncId} {args : List AV} {dst : Option Nat} {k' : List Item} {T' : Env} {H' : AHeap} {Q : AV → AHeap → Prop}
    (h : exec TT N rs m 300 [] k T H = .call cs g args dst k' T' H') (hcl : cloL args = true) (hq : AFun P g args [] Q) (hfl : ∀ u H2, Q u H2 → flat u = true ∧ flatH H2)
    (h1 : ∀ u H2, Q u H2 → ∃ T1 H1, dstM N dst (shf (lenM H') u) T' = some T1 ∧ appM H' (H2.map (shfB (lenM H'))) = some H1 ∧ AGo P f N n0 k' T1 H1 R) (hc : AllC cs := by first | exact True.intro | (simp only [AllC, AllP, addN, Int.toNat_natCast, true_and, and_true, Option.getD, List.length_set, wrapU, pw1, pw7, pw8, pw16, pw23, pw32, pw52, Holds] <;> first | omega | ((repeat' apply And.intro) <;> first | omega | (intros; rfl))) | (simp [AllC, AllP, addN, cloL, clo, mrgL, mrg, wrapU, Holds] <;> omega)) : AGo P f N n0 k T H R :=
  go_callX W m 300 h hc hcl hq hfl h1
theorem cn (W : Walk P TT f rs) (m : Nat) {cs : List Prop} {g : FuncId} {args args' : List AV} {dst : Option Nat} {k' : List Item} {T' : Env} {H' : AHeap} {ss : List Prop} {Q : AV → AHeap → Prop}
    (h : exec TT N rs m 300 [] k T H = .call cs g args dst k' T' H') (e : mapF (frz (fun _ => true) H' 9) args = some (ss, args')) (hcl : cloL args' = true)
    (hq : AFunN P g args' Q) (h1 : ∀ u H2, Q u H2 → ∃ T1 H1, dstM N dst (shf (lenM H') u) T' = some T1 ∧ appM H' H2 = some H1 ∧ AGo P f N n0 k' T1 H1 R) (hc : AllC cs := by first | exact True.intro | (simp only [AllC, AllP, addN, Int.toNat_natCast, true_and, and_true, Option.getD, List.length_set, wrapU, pw1, pw7, pw8, pw16, pw23, pw32, pw52, Holds] <;> first | omega | ((repeat' apply And.intro) <;> first | omega | (intros; rfl))) | (simp [AllC, AllP, addN, cloL, clo, mrgL, mrg, wrapU, Holds] <;> omega)) (c1 : AllC ss := by first | exact True.intro | (simp only [AllC, AllP, addN, Int.toNat_natCast, true_and, and_true, Option.getD, List.length_set, wrapU, pw1, pw7, pw8, pw16, pw23, pw32, pw52, Holds] <;> first | omega | ((repeat' apply And.intro) <;> first | omega | (intros; rfl))) | (simp [AllC, AllP, addN, cloL, clo, mrgL, mrg, wrapU, Holds] <;> omega)) : AGo P f N n0 k T H R :=
  go_callN W m 300 h hc e c1 hcl hq h1
theorem cb (W : Walk P TT f rs) (m : Nat) {cs : List Prop} {g : FuncId} {args args' : List AV} {dst : Option Nat} {k' : List Item} {T' T1 : Env} {H' : AHeap} {ss : List Prop} {u : AV}
    (h : exec TT N rs m 300 [] k T H = .call cs g args dst k' T' H') (e : mapF (frz (fun _ => true) H' 9) args = some (ss, args')) (hcl : cloL args' = true) (hn : nofm u = true)
    (hq : AFunP P g args' (· = u)) (e2 : dstM N dst u T' = some T1) (h1 : AGo P f N n0 k' T1 H' R) (hc : AllC cs := by first | exact True.intro | (simp only [AllC, AllP, addN, Int.toNat_natCast, true_and, and_true, Option.getD, List.length_set, wrapU, pw1, pw7, pw8, pw16, pw23, pw32, pw52, Holds] <;> first | omega | ((repeat' apply And.intro) <;> first | omega | (intros; rfl))) | (simp [AllC, AllP, addN, cloL, clo, mrgL, mrg, wrapU, Holds] <;> omega)) (c1 : AllC ss := by first | exact True.intro | (simp only [AllC, AllP, addN, Int.toNat_natCast, true_and, and_true, Option.getD, List.length_set, wrapU, pw1, pw7, pw8, pw16, pw23, pw32, pw52, Holds] <;> first | omega | ((repeat' apply And.intro) <;> first | omega | (intros; rfl))) | (simp [AllC, AllP, addN, cloL, clo, mrgL, mrg, wrapU, Holds] <;> omega)) : AGo P f N n0 k T H R :=
  go_callB W m 300 h hc e c1 hcl hn hq e2 h1
theorem cm (W : Walk P TT f rs) (m : Nat) (ρ : List (Nat × Nat)) {cs : List Prop} {g : FuncId} {args args' : List AV} {dst : Option Nat} {k' : List Item} {T' : Env} {H' : AHeap} {blks : List ABlk} {Q : AV → List ABlk → Prop}
    (h : exec TT N rs m 300 [] k T H = .call cs g args dst k' T' H') (hq : AFunM P g args' blks Q) (hb : getAll ρ blks H') (hρ : distP ρ = true) (e : renL ρ args = some args') (hbc : bcloL blks = true)
    (h1 : ∀ u blks', Q u blks' → ∃ T1 H1, dstM N dst u T' = some T1 ∧ setAll ρ blks' H' = some H1 ∧ AGo P f N n0 k' T1 H1 R) (hc : AllC cs := by first | exact True.intro | (simp only [AllC, AllP, addN, Int.toNat_natCast, true_and, and_true, Option.getD, List.length_set, wrapU, pw1, pw7, pw8, pw16, pw23, pw32, pw52, Holds] <;> first | omega | ((repeat' apply And.intro) <;> first | omega | (intros; rfl))) | (simp [AllC, AllP, addN, cloL, clo, mrgL, mrg, wrapU, Holds] <;> omega)) : AGo P f N n0 k T H R :=
  go_callM W m 300 ρ h hc hq hb hρ e hbc h1
theorem cf (W : Walk P TT f rs) (m : Nat) (bs ds : List Nat) {cs : List Prop} {g : FuncId} {args args' : List AV} {dst : Option Nat} {k' : List Item} {T' T1 T2 T3 : Env} {H' H2 : AHeap}
    {ps qs ss : List Prop} {u : AV} (h : exec TT N rs m 300 [] k T H = .call cs g args dst k' T' H') (e1 : keepM T' ds = some T1) (e2 : frzT (memM bs) H' 9 T1 = some (ps, T2)) (e3 : frzH (memM bs) H' 9 0 H' = some (qs, H2))
    (e4 : mapF (frz (memM bs) H' 9) args = some (ss, args')) (e5 : cloL args' = true) (hq : AFunP P g args' (· = u)) (e : dstM N dst u T2 = some T3) (h1 : AGo P f N n0 k' T3 H2 R)
    (hc : AllC cs := by first | exact True.intro | (simp only [AllC, AllP, addN, Int.toNat_natCast, true_and, and_true, Option.getD, List.length_set, wrapU, pw1, pw7, pw8, pw16, pw23, pw32, pw52, Holds] <;> first | omega | ((repeat' apply And.intro) <;> first | omega | (intros; rfl))) | (simp [AllC, AllP, addN, cloL, clo, mrgL, mrg, wrapU, Holds] <;> omega)) (c1 : AllC ps := by first | exact True.intro | (simp only [AllC, AllP, addN, Int.toNat_natCast, true_and, and_true, Option.getD, List.length_set, wrapU, pw1, pw7, pw8, pw16, pw23, pw32, pw52, Holds] <;> first | omega | ((repeat' apply And.intro) <;> first | omega | (intros; rfl))) | (simp [AllC, AllP, addN, cloL, clo, mrgL, mrg, wrapU, Holds] <;> omega)) (c2 : AllC qs := by first | exact True.intro | (simp only [AllC, AllP, addN, Int.toNat_natCast, true_and, and_true, Option.getD, List.length_set, wrapU, pw1, pw7, pw8, pw16, pw23, pw32, pw52, Holds] <;> first | omega | ((repeat' apply And.intro) <;> first | omega | (intros; rfl))) | (simp [AllC, AllP, addN, cloL, clo, mrgL, mrg, wrapU, Holds] <;> omega)) (c3 : AllC ss := by first | exact True.intro | (simp only [AllC, AllP, addN, Int.toNat_natCast, true_and, and_true, Option.getD, List.length_set, wrapU, pw1, pw7, pw8, pw16, pw23, pw32, pw52, Holds] <;> first | omega | ((repeat' apply And.intro) <;> first | omega | (intros; rfl))) | (simp [AllC, AllP, addN, cloL, clo, mrgL, mrg, wrapU, Holds] <;> omega)) : AGo P f N n0 k T H R :=
  go_callF W m 300 bs ds h hc e1 e2 e3 e4 e5 c1 c2 c3 hq e h1
theorem cp (W : Walk P TT f rs) (m : Nat) (bs ds : List Nat) {cs : List Prop} {g : FuncId} {args args' : List AV} {dst : Option Nat} {k' : List Item} {T' T1 T2 : Env} {H' H2 : AHeap}
    {ps qs ss : List Prop} (h : exec TT N rs m 300 [] k T H = .call cs g args dst k' T' H') (e1 : keepM T' ds = some T1) (e2 : frzT (memM bs) H' 9 T1 = some (ps, T2)) (e3 : frzH (memM bs) H' 9 0 H' = some (qs, H2))
    (e4 : mapF (frz (memM bs) H' 9) args = some (ss, args')) (e5 : cloL args' = true) {Q : AV → Prop} (hq : AFunP P g args' Q)
    (h1 : ∀ v, Q v → ∃ T3, dstM N dst v T2 = some T3 ∧ AGo P f N n0 k' T3 H2 R) (hc : AllC cs := by first | exact True.intro | (simp only [AllC, AllP, addN, Int.toNat_natCast, true_and, and_true, Option.getD, List.length_set, wrapU, pw1, pw7, pw8, pw16, pw23, pw32, pw52, Holds] <;> first | omega | ((repeat' apply And.intro) <;> first | omega | (intros; rfl))) | (simp [AllC, AllP, addN, cloL, clo, mrgL, mrg, wrapU, Holds] <;> omega)) (c1 : AllC ps := by first | exact True.intro | (simp only [AllC, AllP, addN, Int.toNat_natCast, true_and, and_true, Option.getD, List.length_set, wrapU, pw1, pw7, pw8, pw16, pw23, pw32, pw52, Holds] <;> first | omega | ((repeat' apply And.intro) <;> first | omega | (intros; rfl))) | (simp [AllC, AllP, addN, cloL, clo, mrgL, mrg, wrapU, Holds] <;> omega)) (c2 : AllC qs := by first | exact True.intro | (simp only [AllC, AllP, addN, Int.toNat_natCast, true_and, and_true, Option.getD, List.length_set, wrapU, pw1, pw7, pw8, pw16, pw23, pw32, pw52, Holds] <;> first | omega | ((repeat' apply And.intro) <;> first | omega | (intros; rfl))) | (simp [AllC, AllP, addN, cloL, clo, mrgL, mrg, wrapU, Holds] <;> omega)) (c3 : AllC ss := by first | exact True.intro | (simp only [AllC, AllP, addN, Int.toNat_natCast, true_and, and_true, Option.getD, List.length_set, wrapU, pw1, pw7, pw8, pw16, pw23, pw32, pw52, Holds] <;> first | omega | ((repeat' apply And.intro) <;> first | omega | (intros; rfl))) | (simp [AllC, AllP, addN, cloL, clo, mrgL, mrg, wrapU, Holds] <;> omega)) : AGo P f N n0 k T H R :=
  go_callP W m 300 bs ds h e1 e2 e3 e4 e5 hc c1 c2 c3 hq h1
theorem rp (W : Walk P TT f rs) (m : Nat) {cs : List Prop} {v u spec : AV} {H' : AHeap} {ps : List Prop} (h : exec TT N rs m 300 [] k T H = .ret cs v H')
    (hf : frz (fun _ => true) H' 9 v = some (ps, u)) (hcl : clo spec = true) (hs : Sub u spec) (hc : AllC cs := by first | exact True.intro | (simp only [AllC, AllP, addN, Int.toNat_natCast, true_and, and_true, Option.getD, List.length_set, wrapU, pw1, pw7, pw8, pw16, pw23, pw32, pw52, Holds] <;> first | omega | ((repeat' apply And.intro) <;> first | omega | (intros; rfl))) | (simp [AllC, AllP, addN, cloL, clo, mrgL, mrg, wrapU, Holds] <;> omega)) (hp : AllC ps := by first | exact True.intro | (simp only [AllC, AllP, addN, Int.toNat_natCast, true_and, and_true, Option.getD, List.length_set, wrapU, pw1, pw7, pw8, pw16, pw23, pw32, pw52, Holds] <;> first | omega | ((repeat' apply And.intro) <;> first | omega | (intros; rfl))) | (simp [AllC, AllP, addN, cloL, clo, mrgL, mrg, wrapU, Holds] <;> omega)) : AGo P f N n0 k T H (Pure (· = spec)) :=
  go_retP W m 300 h hc hf hp hcl hs
theorem rq (W : Walk P TT f rs) (m : Nat) {Q : AV → Prop} {cs : List Prop} {v u : AV} {H' : AHeap} {ps : List Prop} (h : exec TT N rs m 300 [] k T H = .ret cs v H')
    (hf : frz (fun _ => true) H' 9 v = some (ps, u)) (spec : AV) (hq : Q spec) (hcl : clo spec = true) (hs : Sub u spec) (hc : AllC cs := by first | exact True.intro | (simp only [AllC, AllP, addN, Int.toNat_natCast, true_and, and_true, Option.getD, List.length_set, wrapU, pw1, pw7, pw8, pw16, pw23, pw32, pw52, Holds] <;> first | omega | ((repeat' apply And.intro) <;> first | omega | (intros; rfl))) | (simp [AllC, AllP, addN, cloL, clo, mrgL, mrg, wrapU, Holds] <;> omega)) (hp : AllC ps := by first | exact True.intro | (simp only [AllC, AllP, addN, Int.toNat_natCast, true_and, and_true, Option.getD, List.length_set, wrapU, pw1, pw7, pw8, pw16, pw23, pw32, pw52, Holds] <;> first | omega | ((repeat' apply And.intro) <;> first | omega | (intros; rfl))) | (simp [AllC, AllP, addN, cloL, clo, mrgL, mrg, wrapU, Holds] <;> omega)) : AGo P f N n0 k T H (Pure Q) :=
  go_retQ W m 300 h hc hf hp spec hq hcl hs
theorem rg (W : Walk P TT f rs) (m : Nat) {cs : List Prop} {v : AV} {H' : AHeap} (h : exec TT N rs m 300 [] k T H = .ret cs v H') (hr : R v H') (hc : AllC cs := by first | exact True.intro | (simp only [AllC, AllP, addN, Int.toNat_natCast, true_and, and_true, Option.getD, List.length_set, wrapU, pw1, pw7, pw8, pw16, pw23, pw32, pw52, Holds] <;> first | omega | ((repeat' apply And.intro) <;> first | omega | (intros; rfl))) | (simp [AllC, AllP, addN, cloL, clo, mrgL, mrg, wrapU, Holds] <;> omega)) : AGo P f N n0 k T H R :=
  go_ret W m 300 h hc hr
theorem rn (W : Walk P TT f rs) (m : Nat) {Q : AV → AHeap → Prop} {cs : List Prop} {v u : AV} {H' : AHeap} {ps : List Prop} {bs : List NewB} (h : exec TT N rs m 300 [] k T H = .ret cs v H')
    (hf : can H' 9 0 v = some (ps, u, bs)) (hd : distM bs = true) (spec : AV) (hfl : flat spec = true) (hs : Sub u spec) (hq : Q spec (blksM bs)) (hc : AllC cs := by first | exact True.intro | (simp only [AllC, AllP, addN, Int.toNat_natCast, true_and, and_true, Option.getD, List.length_set, wrapU, pw1, pw7, pw8, pw16, pw23, pw32, pw52, Holds] <;> first | omega | ((repeat' apply And.intro) <;> first | omega | (intros; rfl))) | (simp [AllC, AllP, addN, cloL, clo, mrgL, mrg, wrapU, Holds] <;> omega)) (hp : AllC ps := by first | exact True.intro | (simp only [AllC, AllP, addN, Int.toNat_natCast, true_and, and_true, Option.getD, List.length_set, wrapU, pw1, pw7, pw8, pw16, pw23, pw32, pw52, Holds] <;> first | omega | ((repeat' apply And.intro) <;> first | omega | (intros; rfl))) | (simp [AllC, AllP, addN, cloL, clo, mrgL, mrg, wrapU, Holds] <;> omega)) : AGo P f N n0 k T H (New Q) :=
  go_retN W m 300 h hc hf hp hd spec hfl hs hq
theorem rm (W : Walk P TT f rs) (m : Nat) (blks : List ABlk) {nb : Nat} {Q : AV → List ABlk → Prop} {cs : List Prop} {v u : AV} {H' H2 : AHeap} {ps qs : List Prop} (h : exec TT N rs m 300 [] k T H = .ret cs v H')
    (hf : frz (geM nb) H' 9 v = some (ps, u)) (hh : frzH (geM nb) H' 9 0 H' = some (qs, H2)) (hb : firstM H2 blks) (hbc : bcloL blks = true) (hl : blks.length = nb)
    (spec : AV) (hcl : clo spec = true) (hs : Sub u spec) (hQ : Q spec blks) (hc : AllC cs := by first | exact True.intro | (simp only [AllC, AllP, addN, Int.toNat_natCast, true_and, and_true, Option.getD, List.length_set, wrapU, pw1, pw7, pw8, pw16, pw23, pw32, pw52, Holds] <;> first | omega | ((repeat' apply And.intro) <;> first | omega | (intros; rfl))) | (simp [AllC, AllP, addN, cloL, clo, mrgL, mrg, wrapU, Holds] <;> omega)) (hp : AllC ps := by first | exact True.intro | (simp only [AllC, AllP, addN, Int.toNat_natCast, true_and, and_true, Option.getD, List.length_set, wrapU, pw1, pw7, pw8, pw16, pw23, pw32, pw52, Holds] <;> first | omega | ((repeat' apply And.intro) <;> first | omega | (intros; rfl))) | (simp [AllC, AllP, addN, cloL, clo, mrgL, mrg, wrapU, Holds] <;> omega)) (hq : AllC qs := by first | exact True.intro | (simp only [AllC, AllP, addN, Int.toNat_natCast, true_and, and_true, Option.getD, List.length_set, wrapU, pw1, pw7, pw8, pw16, pw23, pw32, pw52, Holds] <;> first | omega | ((repeat' apply And.intro) <;> first | omega | (intros; rfl))) | (simp [AllC, AllP, addN, cloL, clo, mrgL, mrg, wrapU, Holds] <;> omega)) : AGo P f N n0 k T H (Writes nb Q) :=
  go_retM W m 300 h hc hf hp hh hq hb hbc hl spec hcl hs hQ
theorem bk (W : Walk P TT f rs) (m : Nat) (ds : List Nat) {cs : List Prop} {c : Code} {k' : List Item} {T' T1 : Env} {H' : AHeap} (h : exec TT N rs m 300 [] k T H = .back cs c k' T' H')
    (hk : keepM T' ds = some T1) (h1 : AGo P f N n0 (.inLoop c :: k') T1 H' R) (hc : AllC cs := by first | exact True.intro | (simp only [AllC, AllP, addN, Int.toNat_natCast, true_and, and_true, Option.getD, List.length_set, wrapU, pw1, pw7, pw8, pw16, pw23, pw32, pw52, Holds] <;> first | omega | ((repeat' apply And.intro) <;> first | omega | (intros; rfl))) | (simp [AllC, AllP, addN, cloL, clo, mrgL, mrg, wrapU, Holds] <;> omega)) : AGo P f N n0 k T H R :=
  go_back W m 300 h hk hc h1
theorem bd (W : Walk P TT f rs) (m nb : Nat) (ds : List Nat) {cs qs : List Prop} {c : Code} {k' : List Item} {T' T1 : Env} {H' H1 : AHeap} (h : exec TT N rs m 300 [] k T H = .back cs c k' T' H')
    (hk : keepM T' ds = some T1) (e2 : beloT nb T1 = true) (e3 : dropM nb nb H' = some (qs, H1)) (hn : Nat.ble n0 nb = true) (h1 : AGo P f N n0 (.inLoop c :: k') T1 H1 R) (hc : AllC cs := by first | exact True.intro | (simp only [AllC, AllP, addN, Int.toNat_natCast, true_and, and_true, Option.getD, List.length_set, wrapU, pw1, pw7, pw8, pw16, pw23, pw32, pw52, Holds] <;> first | omega | ((repeat' apply And.intro) <;> first | omega | (intros; rfl))) | (simp [AllC, AllP, addN, cloL, clo, mrgL, mrg, wrapU, Holds] <;> omega)) (hq : AllC qs := by simp only [AllC, true_and, and_true] <;> first | exact True.intro | (intros; rfl) | (refine ⟨?_, ?_⟩ <;> intros <;> rfl)) : AGo P f N n0 k T H R :=
  go_backD W m 300 nb ds h hk e2 e3 hn hc hq h1
theorem atl (W : Walk P TT f rs) {cs : List Prop} {k' : List Item} {T' : Env} {H' : AHeap} (h : exec TT N rs 6 300 [] k T H = .stop cs k' T' H') (h1 : AGo P f N n0 k' T' H' R) (hc : AllC cs := by first | exact True.intro | (simp only [AllC, AllP, addN, Int.toNat_natCast, true_and, and_true, Option.getD, List.length_set, wrapU, pw1, pw7, pw8, pw16, pw23, pw32, pw52, Holds] <;> first | omega | ((repeat' apply And.intro) <;> first | omega | (intros; rfl))) | (simp [AllC, AllP, addN, cloL, clo, mrgL, mrg, wrapU, Holds] <;> omega)) : AGo P f N n0 k T H R :=
  go_stop W 6 300 h hc h1
theorem lp (W : Walk P TT f rs) (m : Nat) {σ : Type} (Inv : σ → Env) (Hp : σ → AHeap) (mu : σ → Nat) (ok : σ → Prop) (s0 : σ) (ds : List Nat) {cs : List Prop} {c : Code} {k' : List Item} {T' : Env} {H' : AHeap}
    (h : exec TT N rs m 300 [] k T H = .loop cs c k' T' H') (hk : keepM T' ds = some (Inv s0)) (hH : H' = Hp s0) (h0 : ok s0)
    (hs : ∀ s, ok s → (∀ s', ok s' → mu s' < mu s → AGo P f N n0 (.inLoop c :: k') (Inv s') (Hp s') R) → AGo P f N n0 (.code c :: .inLoop c :: k') (Inv s) (Hp s) R) (hc : AllC cs := by first | exact True.intro | (simp only [AllC, AllP, addN, Int.toNat_natCast, true_and, and_true, Option.getD, List.length_set, wrapU, pw1, pw7, pw8, pw16, pw23, pw32, pw52, Holds] <;> first | omega | ((repeat' apply And.intro) <;> first | omega | (intros; rfl))) | (simp [AllC, AllP, addN, cloL, clo, mrgL, mrg, wrapU, Holds] <;> omega)) : AGo P f N n0 k T H R :=
  go_loop W m 300 Inv Hp mu ok s0 ds h hk hH hc h0 hs
theorem dre (W : Walk P TT f rs) (m nf : Nat) (hs : List (Nat × Bool)) (us : List AV) {cs : List Prop} {id : Nat} {ops : Array Oper} {k' : List Item} {T' T2 : Env} {H' : AHeap} {ps : List Prop} {cl : List CallM}
    {vs : List (Option Nat × AV)} (h : exec TT N rs m 300 [] k T H = .draw cs (.code (.region id ops true) :: k') T' H')
    (hd : drawM TT (modeM m) ops.toList (dropD (dstsM nf ops.toList) T') H' hs nf 0 [] us = some (ps, cl, vs))
    (hst : (backAll 0 ops.toList && lastAll ops.toList (lenM ops.toList - nf) nf && Nat.ble nf (lenM ops.toList) && distD (dstsM nf ops.toList) && allLt N (dstsM nf ops.toList)) = true)
    (hcl : AllCalls P H' cl) (e : TS (fun _ => true) 0 vs T' = T2) (h1 : AGo P f N n0 (.inRegion ops (upFrom nf (lenM ops.toList - nf)) :: k') T2 H' R) (hc : AllC cs := by first | exact True.intro | (simp only [AllC, AllP, addN, Int.toNat_natCast, true_and, and_true, Option.getD, List.length_set, wrapU, pw1, pw7, pw8, pw16, pw23, pw32, pw52, Holds] <;> first | omega | ((repeat' apply And.intro) <;> first | omega | (intros; rfl))) | (simp [AllC, AllP, addN, cloL, clo, mrgL, mrg, wrapU, Holds] <;> omega)) (hp : AllP ps := by first | exact True.intro | (simp only [AllC, AllP, addN, Int.toNat_natCast, true_and, and_true, Option.getD, List.length_set, wrapU, pw1, pw7, pw8, pw16, pw23, pw32, pw52, Holds] <;> first | omega | ((repeat' apply And.intro) <;> first | omega | (intros; rfl))) | (simp [AllC, AllP, addN, cloL, clo, mrgL, mrg, wrapU, Holds] <;> omega)) : AGo P f N n0 k T H R :=
  go_draw W m 300 h hc (go_drawE W (modeM m) 300 nf hs us (cs := []) (id := id) rfl trivial hd hst hp hcl e h1)
theorem phg (W : Walk P TT f rs) (m nf : Nat) (pend : List Nat) {cs : List Prop} {id : Nat} {ops : Array Oper} {k' : List Item} {T' : Env} {H' : AHeap} (h : exec TT N rs m 300 [] k T H = .draw cs (.code (.region id ops true) :: k') T' H')
    (hst : (stM ops N nf && ltAll (lenM ops.toList) pend) = true) (h1 : PW P TT N ops nf → Ph1 P f N n0 nf ops k' T' R [] pend (upFrom 0 nf) (dstsM nf ops.toList) H') (hc : AllC cs := by first | exact True.intro | (simp only [AllC, AllP, addN, Int.toNat_natCast, true_and, and_true, Option.getD, List.length_set, wrapU, pw1, pw7, pw8, pw16, pw23, pw32, pw52, Holds] <;> first | omega | ((repeat' apply And.intro) <;> first | omega | (intros; rfl))) | (simp [AllC, AllP, addN, cloL, clo, mrgL, mrg, wrapU, Holds] <;> omega)) : AGo P f N n0 k T H R :=
  go_ph W m 300 nf pend h hc hst h1
variable {nf : Nat} {ops : Array Oper} {past op pend' : List Nat} {vin ws vs' : List (Option Nat × AV)} {ps : List Prop} {cl : List CallM}
theorem pho (W : PW P TT N ops nf) (m e : Nat) (hs : List (Nat × Bool)) (us : List AV) {d : Option Nat} {C : Prop} {v : AV} {H1 : AHeap}
    (hd : phM TT m ops.toList (dropD (dstsM nf ops.toList) T) H hs past (needsAll ops.toList past []) (e :: pend') op vin nf 0 [] us = some (ps, cl, ws)) (hch : (chainM ops.toList nf e pend' && subM (e :: pend') op) = true) (hcl : AllCalls P H cl)
    (he : effM TT m ops.toList (dropD (dstsM nf ops.toList) T) ws H e = some (d, C, v, H1)) (hset : setM (d, v) ws e = some vs') (next : Ph1 P f N n0 nf ops k T R (e :: past) pend' (e :: pend') vs' H1) (hp : AllP ps := by first | exact True.intro | (simp only [AllC, AllP, addN, Int.toNat_natCast, true_and, and_true, Option.getD, List.length_set, wrapU, pw1, pw7, pw8, pw16, pw23, pw32, pw52, Holds] <;> first | omega | ((repeat' apply And.intro) <;> first | omega | (intros; rfl))) | (simp [AllC, AllP, addN, cloL, clo, mrgL, mrg, wrapU, Holds] <;> omega)) (hC : Holds C := by first | exact True.intro | (simp only [AllC, AllP, addN, Int.toNat_natCast, true_and, and_true, Option.getD, List.length_set, wrapU, pw1, pw7, pw8, pw16, pw23, pw32, pw52, Holds] <;> first | omega | ((repeat' apply And.intro) <;> first | omega | (intros; rfl))) | (simp [AllC, AllP, addN, cloL, clo, mrgL, mrg, wrapU, Holds] <;> omega)) : Ph1 P f N n0 nf ops k T R past (e :: pend') op vin H :=
  ph_op W m e hs us hd hch hp hcl he hC hset next
theorem phm (W : PW P TT N ops nf) (m e : Nat) (ρ : List (Nat × Nat)) (hs : List (Nat × Bool)) (us : List AV) {d : Option Nat} {g : FuncId} {args args' : List AV} {blks : List ABlk} {Q : AV → List ABlk → Prop}
    (hd : phM TT m ops.toList (dropD (dstsM nf ops.toList) T) H hs past (needsAll ops.toList past []) (e :: pend') op vin nf 0 [] us = some (ps, cl, ws)) (hch : (chainM ops.toList nf e pend' && subM (e :: pend') op) = true) (hcl : AllCalls P H cl)
    (he : effC ops.toList (dropD (dstsM nf ops.toList) T) ws e = some (d, g, args)) (hq : AFunM P g args' blks Q) (hb : getAll ρ blks H) (hρ : distP ρ = true) (er : renL ρ args = some args') (hbc : bcloL blks = true)
    (next : ∀ u blks', Q u blks' → ∃ vs' H1, setM (d, u) ws e = some vs' ∧ setAll ρ blks' H = some H1 ∧ Ph1 P f N n0 nf ops k T R (e :: past) pend' (e :: pend') vs' H1) (hp : AllP ps := by first | exact True.intro | (simp only [AllC, AllP, addN, Int.toNat_natCast, true_and, and_true, Option.getD, List.length_set, wrapU, pw1, pw7, pw8, pw16, pw23, pw32, pw52, Holds] <;> first | omega | ((repeat' apply And.intro) <;> first | omega | (intros; rfl))) | (simp [AllC, AllP, addN, cloL, clo, mrgL, mrg, wrapU, Holds] <;> omega)) : Ph1 P f N n0 nf ops k T R past (e :: pend') op vin H :=
  ph_callM W m e ρ hs us hd hch hp hcl he hq hb hρ er hbc next
/-- ... that touches nothing, of which is told what Q says. -/
theorem phq (W : PW P TT N ops nf) (m e : Nat) (hs : List (Nat × Bool)) (us : List AV) {d : Option Nat} {g : FuncId} {args : List AV} {Q : AV → Prop}
    (hd : phM TT m ops.toList (dropD (dstsM nf ops.toList) T) H hs past (needsAll ops.toList past []) (e :: pend') op vin nf 0 [] us = some (ps, cl, ws)) (hch : (chainM ops.toList nf e pend' && subM (e :: pend') op) = true) (hcl : AllCalls P H cl)
    (he : effC ops.toList (dropD (dstsM nf ops.toList) T) ws e = some (d, g, args)) (hq : AFunP P g args Q) (hclo : cloL args = true)
    (next : ∀ u, Q u → ∃ vs', setM (d, u) ws e = some vs' ∧ Ph1 P f N n0 nf ops k T R (e :: past) pend' (e :: pend') vs' H) (hp : AllP ps := by first | exact True.intro | (simp only [AllC, AllP, addN, Int.toNat_natCast, true_and, and_true, Option.getD, List.length_set, wrapU, pw1, pw7, pw8, pw16, pw23, pw32, pw52, Holds] <;> first | omega | ((repeat' apply And.intro) <;> first | omega | (intros; rfl))) | (simp [AllC, AllP, addN, cloL, clo, mrgL, mrg, wrapU, Holds] <;> omega)) : Ph1 P f N n0 nf ops k T R past (e :: pend') op vin H :=
  ph_call W m e hs us hd hch hp hcl he (hq.at hclo H) fun u H1 ⟨e1, hQ⟩ => by subst e1; exact next u hQ
theorem phe (W : PW P TT N ops nf) (m : Nat) (hs : List (Nat × Bool)) (us : List AV) {T2 : Env}
    (hd : phM TT m ops.toList (dropD (dstsM nf ops.toList) T) H hs past (needsAll ops.toList past []) [] op vin nf 0 [] us = some (ps, cl, ws)) (hcl : AllCalls P H cl) (e : TS (fun _ => true) 0 ws T = T2)
    (h1 : AGo P f N n0 (.inRegion ops (upFrom nf (lenM ops.toList - nf)) :: k) T2 H R) (hp : AllP ps := by first | exact True.intro | (simp only [AllC, AllP, addN, Int.toNat_natCast, true_and, and_true, Option.getD, List.length_set, wrapU, pw1, pw7, pw8, pw16, pw23, pw32, pw52, Holds] <;> first | omega | ((repeat' apply And.intro) <;> first | omega | (intros; rfl))) | (simp [AllC, AllP, addN, cloL, clo, mrgL, mrg, wrapU, Holds] <;> omega)) : Ph1 P f N n0 nf ops k T R past [] op vin H :=
  ph_end W m hs us hd hp hcl e h1

/-- Two effects that come in either order: one operation each. -/
theorem phf (W : PW P TT N ops nf) (m e1 e2 : Nat) (hs : List (Nat × Bool)) (us : List AV) {vs1 vs2 : List (Option Nat × AV)} {d1 d2 : Option Nat} {C1 C2 : Prop} {v1 v2 : AV} {H1 H2 : AHeap}
    (hd : phM TT m ops.toList (dropD (dstsM nf ops.toList) T) H hs past (needsAll ops.toList past []) (e1 :: e2 :: pend') op vin nf 0 [] us = some (ps, cl, ws))
    (hch : (chainM ops.toList nf e1 pend' && chainM ops.toList nf e2 pend' && subM (e1 :: e2 :: pend') op && Nat.blt e1 e2) = true) (hcl : AllCalls P H cl)
    (he1 : effM TT m ops.toList (dropD (dstsM nf ops.toList) T) ws H e1 = some (d1, C1, v1, H1)) (hset1 : setM (d1, v1) ws e1 = some vs1)
    (he2 : effM TT m ops.toList (dropD (dstsM nf ops.toList) T) ws H e2 = some (d2, C2, v2, H2)) (hset2 : setM (d2, v2) ws e2 = some vs2)
    (next1 : Ph1 P f N n0 nf ops k T R (e1 :: past) (e2 :: pend') (e1 :: e2 :: pend') vs1 H1) (next2 : Ph1 P f N n0 nf ops k T R (e2 :: past) (e1 :: pend') (e1 :: e2 :: pend') vs2 H2)
    (hp : AllP ps := by first | exact True.intro | (simp only [AllC, AllP, addN, Int.toNat_natCast, true_and, and_true, Option.getD, List.length_set, wrapU, pw1, pw7, pw8, pw16, pw23, pw32, pw52, Holds] <;> first | omega | ((repeat' apply And.intro) <;> first | omega | (intros; rfl))) | (simp [AllC, AllP, addN, cloL, clo, mrgL, mrg, wrapU, Holds] <;> omega)) (hC1 : Holds C1 := by first | exact True.intro | (simp only [AllC, AllP, addN, Int.toNat_natCast, true_and, and_true, Option.getD, List.length_set, wrapU, pw1, pw7, pw8, pw16, pw23, pw32, pw52, Holds] <;> first | omega | ((repeat' apply And.intro) <;> first | omega | (intros; rfl))) | (simp [AllC, AllP, addN, cloL, clo, mrgL, mrg, wrapU, Holds] <;> omega)) (hC2 : Holds C2 := by first | exact True.intro | (simp only [AllC, AllP, addN, Int.toNat_natCast, true_and, and_true, Option.getD, List.length_set, wrapU, pw1, pw7, pw8, pw16, pw23, pw32, pw52, Holds] <;> first | omega | ((repeat' apply And.intro) <;> first | omega | (intros; rfl))) | (simp [AllC, AllP, addN, cloL, clo, mrgL, mrg, wrapU, Holds] <;> omega)) : Ph1 P f N n0 nf ops k T R past (e1 :: e2 :: pend') op vin H := by
  intro hv
  obtain ⟨hch, hlt⟩ := Bool.and_eq_true_iff.1 hch
  obtain ⟨hch, hsub⟩ := Bool.and_eq_true_iff.1 hch
  obtain ⟨hc1, hc2⟩ := Bool.and_eq_true_iff.1 hch
  have hlt : e1 < e2 := by simpa [Nat.blt_eq] using hlt
  obtain ⟨c1, c2, c3, c4, c5, c6, c7, c8, c9, c10⟩ := Ph.base W.tt W.st hd hp hcl hv
  obtain ⟨a1, a2⟩ := chainM_ok hc1
  obtain ⟨b1, b2⟩ := chainM_ok hc2
  have ne1 : ∀ p ∈ pend', p ≠ e1 := fun p hp => by have := needs_self (a2 p hp).1; omega
  have ne2 : ∀ p ∈ pend', p ≠ e2 := fun p hp => by have := needs_self (b2 p hp).1; omega
  have f1 : (e1 :: e2 :: pend').filter (· != e1) = e2 :: pend' := by
    rw [List.filter_cons_of_neg (by simp), List.filter_eq_self.2]
    intro p hp
    rcases List.mem_cons.1 hp with rfl | hp
    · have : p ≠ e1 := by omega
      simpa using this
    · simpa using ne1 p hp
  have f2 : (e1 :: e2 :: pend').filter (· != e2) = e1 :: pend' := by
    have : e1 ≠ e2 := by omega
    rw [List.filter_cons_of_pos (by simpa using this), List.filter_cons_of_neg (by simp), List.filter_eq_self.2]
    intro p hp
    simpa using ne2 p hp
  have one : ∀ {e : Nat} {d : Option Nat} {C : Prop} {v : AV} {H' : AHeap} {vs' : List (Option Nat × AV)} {pd : List Nat}, e < nf → effM TT m ops.toList (dropD (dstsM nf ops.toList) T) ws H e = some (d, C, v, H') → Holds C → setM (d, v) ws e = some vs' →
      Ph1 P f N n0 nf ops k T R (e :: past) pd (e1 :: e2 :: pend') vs' H' → ∃ o Q, ops[e]? = some o ∧ (∃ h : e < ws.length, o.dst = ws[e].1) ∧ EffStep P N ops o (TS (memM (preds ops.toList e)) 0 ws (dropD ws T)) H Q ∧
        ∀ u H1, Q u H1 → Ph P f N n0 ops k T R (e :: past) pd (e1 :: e2 :: pend') (ws.set e (o.dst, u)) H1 := by
    intro e d C v H' vs' pd hlt he hC hset next
    unfold effM at he
    split at he
    · rename_i o ho
      have ho' : ops[e]? = some o := by rw [nthM_eq] at ho; simpa using ho
      obtain ⟨o', o1, o2, _⟩ := c10 e (by omega)
      have : o' = o := by rw [ho'] at o1; exact (Option.some.inj o1).symm
      subst this
      split at he
      · rename_i hg
        split at he
        · have key : ∀ {v1 : AV} {H2 : AHeap}, EffStep P N ops o' (TS (memM (preds ops.toList e)) 0 ws (dropD (dstsM nf ops.toList) T)) H (fun u H1 => u = v1 ∧ H1 = H2) → o'.dst = d → v1 = v → H2 = H' →
              ∃ o Q, ops[e]? = some o ∧ (∃ h : e < ws.length, o.dst = ws[e].1) ∧ EffStep P N ops o (TS (memM (preds ops.toList e)) 0 ws (dropD ws T)) H Q ∧ ∀ u H1, Q u H1 → Ph P f N n0 ops k T R (e :: past) pd (e1 :: e2 :: pend') (ws.set e (o.dst, u)) H1 := by
            rintro v1 H2 hE rfl rfl rfl
            refine ⟨o', _, ho', ⟨by omega, o2⟩, by rw [c8]; exact hE, ?_⟩
            rintro _ _ ⟨rfl, rfl⟩
            obtain ⟨r1, r2⟩ := fst_set (c6.symm.trans hv) ⟨by omega, o2⟩ hset
            rw [← r1]
            exact next r2
          split at he
          · rename_i hst
            simp only [Option.some.injEq, Prod.mk.injEq] at he
            obtain ⟨r1, r2, r3, r4⟩ := he
            exact key (.ok W.tt m hg hst) r1 r3 r4
          · rename_i hst
            simp only [Option.some.injEq, Prod.mk.injEq] at he
            obtain ⟨r1, r2, r3, r4⟩ := he
            subst r2
            exact key (.okc W.tt m hg hst hC) r1 r3 r4
          · cases he
        · cases he
      · cases he
    · cases he
  refine Ph.core c1 c2 c3 c4 c5 c6 (fun j hj hj' hx => c9 j hj hj' (hx.imp id fun hx => ⟨hx, touch_sub (subM_ok hsub) hx⟩)) (fun i hi q1 q2 q3 => ?_) (fun p hp => ?_) (fun p hp hn => ?_) (fun h => by cases h)
  · obtain ⟨o, o1, o2, o3⟩ := c10 i hi
    exact ⟨o, o1, o2, o3 q1 q2 q3 fun j hj => (needsAll_iff hj).elim (fun h => by simp at h) id⟩
  · rcases List.mem_cons.1 hp with rfl | hp
    · omega
    rcases List.mem_cons.1 hp with rfl | hp
    · omega
    · have := (a2 p hp).2; omega
  · rcases List.mem_cons.1 hp with rfl | hp
    · obtain ⟨o, Q, q1, q2, q3, q4⟩ := one a1 he1 hC1 hset1 next1
      exact ⟨o, Q, q1, q2, q3, fun u H1 hq => by rw [f1]; exact q4 u H1 hq⟩
    rcases List.mem_cons.1 hp with rfl | hp
    · obtain ⟨o, Q, q1, q2, q3, q4⟩ := one b1 he2 hC2 hset2 next2
      exact ⟨o, Q, q1, q2, q3, fun u H1 hq => by rw [f2]; exact q4 u H1 hq⟩
    · exact absurd (List.mem_cons_self) (hn e1 (a2 p hp).1)

end Pf
/- The types of the program that are known here. -/
namespace Pf
open Go Go.Proofs
def ttree : TTree := (.node 24 (.node 12 (.node 4 (.node 3 (.one 2 ⟨1, 8, [(.int .i64 0)], (.int .i64)⟩) (.one 3 ⟨1, 8, [(.int .i64 0)], (.int .i64)⟩)) (.node 5 (.one 4 ⟨1, 1, [.bool false], .bool⟩) (.node 9 (.one 5 ⟨1, 1, [(.int .u8 0)], (.int .u8)⟩) (.one 9 ⟨1, 16, [.str []], .string⟩)))) (.node 21 (.node 17 (.one 12 ⟨1, 8, [(.int .u64 0)], (.int .u64)⟩) (.node 20 (.one 17 ⟨1, 8, [.nilp], (.pointer 101)⟩) (.one 20 ⟨1, 16, [.nili], .iface⟩))) (.node 22 (.one 21 ⟨1, 4, [(.int .i32 0)], (.int .i32)⟩) (.node 23 (.one 22 ⟨1, 24, [.nils], (.slice 5)⟩) (.one 23 ⟨1, 24, [.nils], (.slice 3)⟩))))) (.node 65 (.node 60 (.node 25 (.one 24 ⟨3, 56, [.bool false, .nils, .nils], (.struct [(0, 4), (1, 23), (2, 23)])⟩) (.node 40 (.one 25 ⟨3, 56, [.bool false, .nils, .nils], (.struct [(0, 4), (1, 23), (2, 23)])⟩) (.one 40 ⟨1, 8, [.nilp], (.pointer 63)⟩))) (.node 62 (.one 60 ⟨1, 8, [(.int .u64 0)], (.int .u64)⟩) (.node 63 (.one 62 ⟨2, 32, [.nils, (.int .i64 0)], (.struct [(0, 22), (1, 3)])⟩) (.one 63 ⟨2, 32, [.nils, (.int .i64 0)], (.struct [(0, 22), (1, 3)])⟩)))) (.node 81 (.node 72 (.one 65 ⟨1, 24, [.nils], (.slice 25)⟩) (.node 77 (.one 72 ⟨1, 8, [(.int .u64 0)], (.int .u64)⟩) (.one 77 ⟨1, 24, [.nils], (.slice 23)⟩))) (.node 97 (.one 81 ⟨1, 4, [(.int .u32 0)], (.int .u32)⟩) (.node 100 (.one 97 ⟨1, 8, [.nilp], (.pointer 5)⟩) (.one 100 ⟨11, 48, [(.int .u64 0), (.int .u64 0), (.int .u32 0), (.int .u8 0), (.int .u8 0), (.int .u8 0), (.int .u8 0), .nilf, .nilp, (.int .i32 0), (.int .i32 0)], (.struct [(0, 12), (1, 12), (2, 81), (3, 94), (4, 5), (5, 5), (6, 95), (7, 96), (8, 97), (9, 98), (10, 99)])⟩))))))
/-- The types that are known here. -/
abbrev TT : TypeId → Option TI := ttree.get
theorem TT_ok : TTok Try.prog TT := TTree.get_ok (by kernel_rfl)
end Pf
/- The bits of floats, and pairs. -/
namespace Pf
open Go Go.Proofs


theorem in_ok (n lo hi : Int) : AFunP Try.prog 97 [.int .i64 n, .int .i64 lo, .int .i64 hi] (· = .pr (lo ≤ n ∧ n ≤ hi)) := by
  refine afun_of Try.func97 Try.call97 rfl Try.ntmps97 rfl ?_
  have W : Walk Try.prog TT 97 _ := Walk.of TT_ok Try.func97 Try.results97
  refine go_split W 0 100 rfl rfl rfl trivial (fun h => ?_) (fun h => ?_)
  · exact go_retP W 0 100 rfl trivial rfl trivial rfl (.pr (by simp [h]))
  · exact go_retP W 0 100 rfl trivial rfl trivial rfl (.no (by simp [h]))

/-- The greatest order number of a width. -/
def top (w : Int) : Int := if w = 32 then 2139095040 else if w = 64 then 9218868437227405312 else 0
def fmt (w : Int) : List AV := if w = 32 then [.int .i64 23, .int .i64 (-149), .int .i64 127, .int .i64 2139095040] else if w = 64 then [.int .i64 52, .int .i64 (-1074), .int .i64 1023, .int .i64 9218868437227405312] else [.int .i64 0, .int .i64 0, .int .i64 0, .int .i64 0]
def frac (w : Int) : Int := if w = 32 then 23 else if w = 64 then 52 else 0
def least (w : Int) : Int := if w = 32 then -149 else if w = 64 then -1074 else 0
def greatest (w : Int) : Int := if w = 32 then 127 else if w = 64 then 1023 else 0
def bitOk (w n : Int) : Prop := (w = 32 ∨ w = 64) ∧ -top w ≤ n ∧ n ≤ top w
theorem top_rng (w : Int) : 0 ≤ top w ∧ top w ≤ 9218868437227405312 := by unfold top; split <;> (try split) <;> omega
def pairOk (w lo hi : Int) : Prop := bitOk w lo ∧ bitOk w hi ∧ lo ≤ hi ∧ lo ≠ top w ∧ hi ≠ -top w
end Pf
/- What the laws do with lists of whole numbers. -/
namespace Pf
open Go Go.Proofs

def marks (k : Int) (n : Nat) : List Int := (List.range n).map fun i : Nat => k + (i : Int)
theorem set_mid {α : Type} (l1 l2 : List α) (x y : α) (n : Nat) (h : n = l1.length) : (l1 ++ y :: l2).set n x = l1 ++ x :: l2 := by subst h; simp
theorem marks_succ (k : Int) (n : Nat) : marks k (n + 1) = marks k n ++ [k + n] := by simp [marks, List.range_succ]
theorem marks_len (k : Int) (n : Nat) : (marks k n).length = n := by simp [marks]

/-- New whole numbers, at the block 0. -/
def NewI (l : List Int) (u : AV) (H : AHeap) : Prop := u = .sl 0 0 0 l.length ∧ H = [.ints 0 .i64 l]

end Pf
/- What the laws do with fractions. -/
namespace Pf
open Go Go.Proofs

/-- A fraction, all read only. -/
def frF (p : Prop) (t d : List Int) : AV := .agg [.pr p, .fi .i64 t, .fi .i64 d]
def szF (n : Int) (t d : List Int) : Int := if n < t.length then -1 else if n - t.length < d.length then -1 else n - t.length - d.length

def NewF (p : Prop) (t d : List Int) (u : AV) (H : AHeap) : Prop := u = .agg [.pr p, .sl 0 0 0 t.length, .sl 1 0 0 d.length] ∧ H = [.ints 0 .i64 t, .ints 0 .i64 d]
end Pf
/- Whole numbers by their digits to the base 65536. -/
namespace Pf

/-- The digits of a number, the least first. -/
def dig (n : Nat) : List Int := if h : n = 0 then [] else ((n % 65536 : Nat) : Int) :: dig (n / 65536)
termination_by n
decreasing_by omega
/-- The number of digits. -/
def val : List Int → Int
  | [] => 0
  | d :: l => d + 65536 * val l
/-- Digits, all in range. -/
def Dgs (l : List Int) : Prop := ∀ d ∈ l, 0 ≤ d ∧ d < 65536

theorem dig_zero : dig 0 = [] := by rw [dig]; simp
theorem dig_pos {n : Nat} (h : n ≠ 0) : dig n = ((n % 65536 : Nat) : Int) :: dig (n / 65536) := by rw [dig]; simp [h]
theorem dig_dgs (n : Nat) : Dgs (dig n) := by
  induction n using Nat.strongRecOn with
  | ind n ih =>
    by_cases h : n = 0
    · subst h; rw [dig_zero]; intro d hd; simp at hd
    · rw [dig_pos h]
      intro d hd
      rcases List.mem_cons.1 hd with rfl | hd
      · omega
      · exact ih (n / 65536) (by omega) d hd
theorem val_dig (n : Nat) : val (dig n) = n := by
  induction n using Nat.strongRecOn with
  | ind n ih =>
    by_cases h : n = 0
    · subst h; rw [dig_zero]; rfl
    · rw [dig_pos h]
      simp only [val]
      rw [ih (n / 65536) (by omega)]
      omega
theorem dig_inj {m n : Nat} (h : dig m = dig n) : m = n := by
  have := congrArg val h
  rw [val_dig, val_dig] at this
  omega
theorem dig_nil {n : Nat} : dig n = [] ↔ n = 0 := by
  constructor
  · intro h
    have := congrArg val h
    rw [val_dig] at this
    simpa [val] using this
  · rintro rfl; exact dig_zero
theorem Dgs.nil : Dgs [] := fun d h => by simp at h
theorem Dgs.cons {d : Int} {l : List Int} (h0 : 0 ≤ d) (h1 : d < 65536) (h : Dgs l) : Dgs (d :: l) := by
  intro e he
  rcases List.mem_cons.1 he with rfl | he
  · exact ⟨h0, h1⟩
  · exact h e he
theorem Dgs.head {d : Int} {l : List Int} (h : Dgs (d :: l)) : 0 ≤ d ∧ d < 65536 := h d (by simp)
theorem Dgs.tail {d : Int} {l : List Int} (h : Dgs (d :: l)) : Dgs l := fun e he => h e (by simp [he])
theorem Dgs.app {l m : List Int} (h : Dgs l) (k : Dgs m) : Dgs (l ++ m) := by
  intro e he
  rcases List.mem_append.1 he with he | he
  · exact h e he
  · exact k e he
theorem Dgs.get {l : List Int} (h : Dgs l) (i : Nat) : 0 ≤ l.getD i 0 ∧ l.getD i 0 < 65536 := by
  rw [List.getD_eq_getElem?_getD]
  cases hi : l[i]? with
  | none => simp
  | some d => simpa using h d (List.mem_of_getElem? hi)
theorem Dgs.take {l : List Int} (h : Dgs l) (n : Nat) : Dgs (l.take n) := fun d hd => h d (List.mem_of_mem_take hd)
theorem Dgs.drop {l : List Int} (h : Dgs l) (n : Nat) : Dgs (l.drop n) := fun d hd => h d (List.mem_of_mem_drop hd)

theorem val_nonneg {l : List Int} (h : Dgs l) : 0 ≤ val l := by
  induction l with
  | nil => simp [val]
  | cons d l ih =>
    have := h.head
    have := ih h.tail
    simp only [val]; omega
theorem val_lt {l : List Int} (h : Dgs l) : val l < 65536 ^ l.length := by
  induction l with
  | nil => simp [val]
  | cons d l ih =>
    have := h.head
    have := ih h.tail
    simp only [val, List.length_cons]
    rw [Int.pow_succ]
    omega
theorem val_app (l m : List Int) : val (l ++ m) = val l + 65536 ^ l.length * val m := by
  induction l with
  | nil => simp [val]
  | cons d l ih =>
    simp only [List.cons_append, val, ih, List.length_cons, Int.pow_succ, Int.mul_add]
    rw [Int.mul_comm (65536 ^ l.length) 65536, Int.mul_assoc, Int.add_assoc]
theorem val_replicate (n : Nat) : val (List.replicate n 0) = 0 := by
  induction n with
  | zero => rfl
  | succ n ih => simp [List.replicate_succ, val, ih]
theorem val_single (d : Int) : val [d] = d := by simp [val]
/-- A digit put in another's place. -/
theorem val_set : ∀ (l : List Int) (i : Nat) (d : Int), i < l.length → val (l.set i d) = val l + 65536 ^ i * (d - l.getD i 0)
  | [], i, d, h => by simp at h
  | e :: l, 0, d, h => by simp [val]; omega
  | e :: l, i + 1, d, h => by
    have ih := val_set l i d (by simpa using h)
    simp only [List.set_cons_succ, val, ih, List.getD_cons_succ, Int.pow_succ]
    rw [Int.mul_add, Int.mul_comm (65536 ^ i) 65536, Int.mul_assoc, Int.add_assoc]

/-- Digits whose last is not nought are the digits of their number. -/
theorem dig_val : ∀ {l : List Int}, Dgs l → (∀ h : l ≠ [], l.getLast h ≠ 0) → dig (val l).toNat = l
  | [], _, _ => by simp [val, dig_zero]
  | d :: l, h, hl => by
    have hd := h.head
    have hv := val_nonneg h.tail
    have hl' : ∀ h : l ≠ [], l.getLast h ≠ 0 := fun hn => by
      have := hl (by simp)
      rwa [List.getLast_cons hn] at this
    have ih := dig_val h.tail hl'
    have hne : (val (d :: l)).toNat ≠ 0 := by
      intro h0
      simp only [val] at h0
      have hd0 : d = 0 := by omega
      have hv0 : val l = 0 := by omega
      rw [hv0] at ih
      simp only [Int.toNat_zero, dig_zero] at ih
      subst ih
      exact hl (by simp) (by simp [hd0])
    rw [dig_pos hne]
    have e1 : (((val (d :: l)).toNat % 65536 : Nat) : Int) = d := by simp only [val]; omega
    have e2 : (val (d :: l)).toNat / 65536 = (val l).toNat := by simp only [val]; omega
    rw [e1, e2, ih]

/-- Noughts behind the last digit dropped. -/
def trimL (l : List Int) : List Int := (l.reverse.dropWhile (· == 0)).reverse
theorem trimL_snoc (l : List Int) (d : Int) : trimL (l ++ [d]) = if d = 0 then trimL l else l ++ [d] := by
  unfold trimL
  rw [List.reverse_append]
  by_cases h : d = 0 <;> simp [List.dropWhile_cons, h]
theorem trimL_nil : trimL [] = [] := rfl
theorem trimL_dig {l : List Int} (h : Dgs l) : trimL l = dig (val l).toNat := by
  have key : ∀ (n : Nat) (l : List Int), l.length = n → Dgs l → trimL l = dig (val l).toNat := by
    intro n
    induction n with
    | zero =>
      intro l hl h
      have : l = [] := List.eq_nil_of_length_eq_zero hl
      subst this
      simp [trimL_nil, val, dig_zero]
    | succ n ih =>
      intro l hl h
      have hne : l ≠ [] := by rintro rfl; simp at hl
      obtain ⟨m, d, rfl⟩ : ∃ m d, l = m ++ [d] := ⟨_, _, (List.dropLast_concat_getLast hne).symm⟩
      rw [trimL_snoc]
      split
      · rename_i h0
        rw [ih m (by simpa using hl) (fun d hd => h d (by simp [hd]))]
        rw [val_app, h0]
        simp [val]
      · rename_i h0
        rw [dig_val h]
        intro hn
        simpa using h0
  exact key _ l rfl h
theorem trimL_len (l : List Int) : (trimL l).length ≤ l.length := by
  unfold trimL
  have := (List.dropWhile_sublist (fun x : Int => x == 0) (l := l.reverse)).length_le
  simpa using this

/-- How many digits. -/
theorem dig_len_le {n k : Nat} : (dig n).length ≤ k ↔ n < 65536 ^ k := by
  induction k generalizing n with
  | zero =>
    constructor
    · intro h
      have : dig n = [] := List.eq_nil_of_length_eq_zero (by omega)
      have := dig_nil.1 this
      subst this; simp
    · intro h
      have : n = 0 := by simpa using h
      subst this; simp [dig_zero]
  | succ k ih =>
    by_cases h : n = 0
    · subst h; simp [dig_zero]
      exact Nat.pow_pos (by omega)
    · rw [dig_pos h]
      simp only [List.length_cons, Nat.succ_le_succ_iff, ih, Nat.pow_succ]
      rw [Nat.div_lt_iff_lt_mul (by omega)]
theorem dig_len_lt {n k : Nat} : k < (dig n).length ↔ 65536 ^ k ≤ n := by
  have := dig_len_le (n := n) (k := k)
  omega
theorem dig_len_mono {m n : Nat} (h : m ≤ n) : (dig m).length ≤ (dig n).length := by
  rw [dig_len_le]
  have := (dig_len_le (n := n) (k := (dig n).length)).1 (Nat.le_refl _)
  omega
theorem dig_last {n : Nat} (h : dig n ≠ []) : (dig n).getLast h ≠ 0 := by
  induction n using Nat.strongRecOn with
  | ind n ih =>
    have hn : n ≠ 0 := fun h0 => h (dig_nil.2 h0)
    have e := dig_pos hn
    by_cases hq : n / 65536 = 0
    · have e2 : dig n = [((n % 65536 : Nat) : Int)] := by rw [e, hq, dig_zero]
      simp only [e2, List.getLast_singleton]
      omega
    · have h2 : dig (n / 65536) ≠ [] := fun h0 => hq (dig_nil.1 h0)
      have := ih (n / 65536) (by omega) h2
      simp only [e, List.getLast_cons h2]
      exact this

end Pf
/- Whole numbers: the simple functions. -/
namespace Pf
open Go Go.Proofs

theorem getD_last {l : List Int} {d : Int} : (l ++ [d]).getD l.length 0 = d := by simp [List.getD_eq_getElem?_getD]

theorem trim_ok (a : List Int) (hl : a.length ≤ 1000000000) : AFunP Try.prog 77 [.fi .i64 a] (· = .fi .i64 (trimL a)) := by
  refine afun_of Try.func77 Try.call77 rfl Try.ntmps77 rfl ?_
  have W : Walk Try.prog TT 77 _ := Walk.of TT_ok Try.func77 Try.results77
  refine go_loop W 0 200 (σ := List Int) (fun l => [(0, .fi .i64 l)]) (fun _ => []) (fun l => l.length) (fun l => trimL l = trimL a ∧ l.length ≤ a.length) a [0] rfl rfl rfl trivial ⟨rfl, Nat.le_refl _⟩ ?_
  rintro l ⟨h1, h2⟩ ih
  refine go_split W 0 200 rfl rfl rfl trivial (fun h3 => ?_) (fun h3 => ?_)
  · have h3 : 0 < l.length := by omega
    have hne : l ≠ [] := by rintro rfl; simp at h3
    obtain ⟨m, d, rfl⟩ : ∃ m d, l = m ++ [d] := ⟨_, _, (List.dropLast_concat_getLast hne).symm⟩
    have e1 : (((m ++ [d]).length : Int) - 1).toNat = m.length := by simp
    refine go_split W 0 200 rfl rfl rfl ⟨⟨trivial, by omega⟩, by omega⟩ (fun h4 => ?_) (fun h4 => ?_)
    · rw [e1, getD_last] at h4
      refine go_back W 0 200 (ds := [0]) rfl rfl ⟨⟨trivial, by omega⟩, by omega⟩ ?_
      rw [e1, List.take_left]
      refine ih m ⟨?_, by simp at h2; omega⟩ (by simp)
      rw [← h1, trimL_snoc, if_pos h4]
    · rw [e1, getD_last] at h4
      refine go_retP W 0 200 rfl trivial rfl trivial rfl (.fi ?_)
      rw [← h1, trimL_snoc, if_neg h4]
  · have : l = [] := List.eq_nil_of_length_eq_zero (by omega)
    subst this
    exact go_retP W 0 200 rfl trivial rfl trivial rfl (.fi h1)

/-- -1, 0 or 1. -/
def sgn (n : Int) : Int := max (-1) (min 1 n)
/-- From the greatest digit down. -/
theorem val_cmp {l m : List Int} (hl : Dgs l) (hm : Dgs m) (h : l.length = m.length) : ∀ (k : Nat), k ≤ l.length → (∀ j, k ≤ j → l.getD j 0 = m.getD j 0) → val l - val m = val (l.take k) - val (m.take k) := by
  intro k hk he
  have e : l.drop k = m.drop k := by
    refine List.ext_getElem (by simp [h]) fun i h1 h2 => ?_
    have := he (k + i) (by omega)
    simp at h1 h2
    simpa [List.getD_eq_getElem?_getD, show k + i < l.length by omega, show k + i < m.length by omega] using this
  have h1 : val l = val (l.take k) + 65536 ^ k * val (l.drop k) := by
    conv => lhs; rw [← List.take_append_drop k l, val_app]
    simp [Nat.min_eq_left hk]
  have h2 : val m = val (m.take k) + 65536 ^ k * val (m.drop k) := by
    conv => lhs; rw [← List.take_append_drop k m, val_app]
    simp [Nat.min_eq_left (show k ≤ m.length by omega)]
  rw [h1, h2, e]; omega
theorem val_take_succ {l : List Int} {k : Nat} (h : k < l.length) : val (l.take (k + 1)) = val (l.take k) + 65536 ^ k * l.getD k 0 := by
  rw [← List.take_append_getElem h, val_app]
  simp [val_single, List.getD_eq_getElem?_getD, h, Nat.min_eq_left (Nat.le_of_lt h)]
/-- The first place, from above, where two lists of digits differ, decides. -/
theorem val_first {l m : List Int} (hl : Dgs l) (hm : Dgs m) (h : l.length = m.length) {k : Nat} (hk : k < l.length) (he : ∀ j, k < j → l.getD j 0 = m.getD j 0) (hd : l.getD k 0 < m.getD k 0) : val l < val m := by
  have h1 := val_cmp hl hm h (k + 1) hk (fun j hj => he j hj)
  rw [val_take_succ hk, val_take_succ (show k < m.length by omega)] at h1
  have h2 := val_lt (hl.take k)
  have h3 := val_nonneg (hm.take k)
  have e : (l.take k).length = k := by simp; omega
  rw [e] at h2
  have hp : (0 : Int) < 65536 ^ k := Int.pow_pos (by omega)
  have h4 : (65536 : Int) ^ k * (l.getD k 0 + 1) ≤ 65536 ^ k * m.getD k 0 := Int.mul_le_mul_of_nonneg_left (by omega) (by omega)
  rw [Int.mul_add] at h4
  omega

theorem sgn_pos {n : Int} (h : 0 < n) : sgn n = 1 := by unfold sgn; omega
theorem sgn_neg {n : Int} (h : n < 0) : sgn n = -1 := by unfold sgn; omega
theorem sgn_zero : sgn 0 = 0 := by decide

theorem natCmp_ok (a b : Nat) (ha : (dig a).length ≤ 1000000000) (hb : (dig b).length ≤ 1000000000) : AFunP Try.prog 61 [.fi .i64 (dig a), .fi .i64 (dig b)] (· = .int .i64 (sgn ((a : Int) - b))) := by
  refine afun_of Try.func61 Try.call61 rfl Try.ntmps61 rfl ?_
  have W : Walk Try.prog TT 61 _ := Walk.of TT_ok Try.func61 Try.results61
  have da := dig_dgs a
  have db := dig_dgs b
  have len : ∀ {x y : Nat}, (dig x).length < (dig y).length → x < y := by
    intro x y h
    have h1 := dig_len_lt.1 h
    have h2 := (dig_len_le (n := x) (k := (dig x).length)).1 (Nat.le_refl _)
    omega
  refine go_split W 0 200 rfl rfl rfl trivial (fun h => ?_) (fun h => ?_)
  · refine go_retP W 0 200 rfl ⟨trivial, by omega⟩ rfl trivial rfl (.int ?_)
    rcases Nat.lt_or_ge (dig a).length (dig b).length with hlt | hge
    · have := len hlt
      rw [sgn_neg (by omega)]; omega
    · have := len (x := b) (y := a) (by omega)
      rw [sgn_pos (by omega)]; omega
  have h := Classical.not_not.1 h
  have hab : (dig a).length = (dig b).length := by omega
  refine go_loop W 0 200 (σ := Nat) (fun k => [(0, .fi .i64 (dig a)), (1, .fi .i64 (dig b)), (5, .int .i64 ((k : Int) - 1))]) (fun _ => []) (fun k => k) (fun k => k ≤ (dig a).length ∧ ∀ j, k ≤ j → (dig a).getD j 0 = (dig b).getD j 0)
    (dig a).length [0, 1, 5] rfl rfl rfl ⟨trivial, by omega⟩ ⟨Nat.le_refl _, fun j hj => ?_⟩ ?_
  · simp [List.getD_eq_getElem?_getD, List.getElem?_eq_none hj, List.getElem?_eq_none (show (dig b).length ≤ j by omega)]
  rintro k ⟨hk, he⟩ ih
  refine go_split W 0 200 rfl rfl rfl trivial (fun h1 => ?_) (fun h1 => ?_)
  · obtain ⟨i, rfl⟩ : ∃ i, k = i + 1 := ⟨k - 1, by omega⟩
    have ei : ((i + 1 : Nat) : Int) - 1 = (i : Int) := by omega
    have et : (((i + 1 : Nat) : Int) - 1).toNat = i := by omega
    refine go_drawE W 0 200 9 [] [] rfl trivial rfl rfl (by simp [AllP]; omega) trivial rfl ?_
    refine go_split W 0 200 rfl rfl rfl trivial (fun h2 => ?_) (fun h2 => ?_)
    · rw [et] at h2
      have g1 := da.get i
      have g2 := db.get i
      refine go_drawE W 0 200 12 [] [] rfl trivial rfl rfl (by simp only [AllP, Option.getD, et]; simp; simp only [List.getD_eq_getElem?_getD] at g1 g2; omega) trivial rfl ?_
      refine go_retP W 0 200 rfl trivial rfl trivial rfl (.int ?_)
      · rw [et]
        rcases Int.lt_or_lt_of_ne h2 with hlt | hgt
        · have := val_first da db hab (by omega) (fun j hj => he j hj) hlt
          rw [val_dig, val_dig] at this
          rw [sgn_neg (by omega)]; omega
        · have := val_first db da hab.symm (by omega) (fun j hj => (he j hj).symm) hgt
          rw [val_dig, val_dig] at this
          rw [sgn_pos (by omega)]; omega
    · rw [et] at h2
      have h2 := Classical.not_not.1 h2
      refine go_back W 0 200 (ds := [0, 1, 5]) (T1 := [(0, .fi .i64 (dig a)), (1, .fi .i64 (dig b)), (5, .int .i64 ((i : Int) - 1))]) rfl (by rw [ei]; rfl) ⟨trivial, by omega⟩ (ih i ⟨by omega, fun j hj => ?_⟩ (by omega))
      by_cases hji : j = i
      · subst hji; exact h2
      · exact he j (by omega)
  · have hk0 : k = 0 := by omega
    subst hk0
    refine go_retP W 0 200 rfl trivial rfl trivial rfl (.int ?_)
    have := val_cmp da db hab 0 (Nat.zero_le _) he
    rw [val_dig, val_dig] at this
    simp [val] at this
    rw [show (a : Int) - b = 0 by omega, sgn_zero]

end Pf
/- Whole numbers: sums and products. -/
namespace Pf
open Go Go.Proofs

theorem getD_set (l : List Int) (i j : Nat) (d : Int) (h : i < l.length) : (l.set i d).getD j 0 = if j = i then d else l.getD j 0 := by
  simp only [List.getD_eq_getElem?_getD, List.getElem?_set]
  by_cases hij : i = j
  · subst hij; simp [h]
  · rw [if_neg hij, if_neg (Ne.symm hij)]
theorem dgs_of_getD {l : List Int} (h : ∀ j, j < l.length → 0 ≤ l.getD j 0 ∧ l.getD j 0 < 65536) : Dgs l := by
  intro d hd
  obtain ⟨j, hj, rfl⟩ := List.getElem_of_mem hd
  have := h j hj
  simpa [List.getD_eq_getElem?_getD, hj] using this
theorem getD_over {l : List Int} {j : Nat} (h : l.length ≤ j) : l.getD j 0 = 0 := by
  simp [List.getD_eq_getElem?_getD, List.getElem?_eq_none h]
theorem band_low {n : Int} (h0 : 0 ≤ n) (h1 : n ≤ 9223372036854775807) : band .i64 n 65535 = n % 65536 := by
  obtain ⟨m, rfl⟩ : ∃ m : Nat, n = m := ⟨n.toNat, by omega⟩
  have e1 : (BitVec.ofInt 64 (m : Int) &&& BitVec.ofInt 64 65535).toNat = m % 65536 := by
    rw [BitVec.toNat_and]
    have a1 : (BitVec.ofInt 64 (m : Int)).toNat = m := by
      rw [BitVec.toNat_ofInt]; omega
    have a2 : (BitVec.ofInt 64 65535).toNat = 65535 := by decide
    rw [a1, a2]
    exact Nat.and_two_pow_sub_one_eq_mod m 16
  have e2 : band .i64 (m : Int) 65535 = IntKind.i64.wrap (((BitVec.ofInt 64 (m : Int) &&& BitVec.ofInt 64 65535).toNat : Nat) : Int) := rfl
  rw [e2, e1]
  rw [wrap_id (k := .i64) (C := -9223372036854775808 ≤ ((m % 65536 : Nat) : Int) ∧ ((m % 65536 : Nat) : Int) ≤ 9223372036854775807) rfl (by omega)]
  omega
theorem val_last {l : List Int} (h : ∀ j, j < l.length → 0 ≤ l.getD j 0) {n : Nat} (hn : l.length = n + 1) : 65536 ^ n * l.getD n 0 ≤ val l := by
  have hne : l ≠ [] := by rintro rfl; simp at hn
  obtain ⟨m, d, rfl⟩ : ∃ m d, l = m ++ [d] := ⟨_, _, (List.dropLast_concat_getLast hne).symm⟩
  have hm : m.length = n := by simpa using hn
  subst hm
  rw [getD_last, val_app, val_single]
  have key : ∀ (m : List Int), (∀ j, j < m.length → 0 ≤ m.getD j 0) → 0 ≤ val m := by
    intro m
    induction m with
    | nil => intro _; simp [val]
    | cons e m ih =>
      intro h
      have h0 := h 0 (by simp)
      have := ih fun j hj => by simpa using h (j + 1) (by simpa using hj)
      simp at h0
      simp only [val]; omega
  have := key m fun j hj => by
    have := h j (by simp; omega)
    simpa [List.getD_eq_getElem?_getD, List.getElem?_append_left hj] using this
  omega

theorem lt_pow {a i : Nat} (h : a < 65536 ^ i) : (a : Int) < 65536 ^ i := by
  have := Int.ofNat_lt.2 h
  rw [Int.natCast_pow] at this
  exact this

theorem natAdd_ok (a b : Nat) (ha : (dig a).length ≤ 100000000) (hb : (dig b).length ≤ 100000000) : AFunP Try.prog 54 [.fi .i64 (dig a), .fi .i64 (dig b)] (· = .fi .i64 (dig (a + b))) := by
  refine afun_of Try.func54 Try.call54 rfl Try.ntmps54 rfl ?_
  have W : Walk Try.prog TT 54 _ := Walk.of TT_ok Try.func54 Try.results54
  have da := dig_dgs a
  have db := dig_dgs b
  generalize hM : max (dig a).length (dig b).length = M
  have eM : max ((dig a).length : Int) (dig b).length + 1 = ((M + 1 : Nat) : Int) := by omega
  -- the sums of the digits
  refine go_loop W 0 200 (σ := Nat × List Int) (fun s => [(5, .sl 0 0 0 (M + 1)), (19, .fi .i64 (dig b)), (20, .int .i64 (dig b).length), (21, .int .i64 s.1)]) (fun s => [.ints 0 .i64 s.2]) (fun s => (dig b).length - s.1)
    (fun s => s.1 ≤ (dig b).length ∧ s.2.length = M + 1 ∧ val s.2 = a + val ((dig b).take s.1) ∧ ∀ j, 0 ≤ s.2.getD j 0 ∧ s.2.getD j 0 ≤ 131070 ∧ (s.1 ≤ j → s.2.getD j 0 < 65536))
    (0, dig a ++ List.replicate (M + 1 - (dig a).length) 0) [5, 19, 20, 21] rfl (by simp [keepM, getM, eM, lenM]) ?_ ?_ ?_ ?_
  · simp only [eM, splice]
    congr 2
    have e1 : (((M + 1 : Nat) : Int)).toNat = M + 1 := by omega
    have e2 : (dig a).take (M + 1) = dig a := List.take_of_length_le (by omega)
    simp only [e1, e2, List.take_zero, List.nil_append, Nat.zero_add, List.drop_replicate]
  · simp only [AllC, eM]
    simp
    omega
  · refine ⟨Nat.zero_le _, by simp; omega, ?_, fun j => ?_⟩
    · rw [val_app, val_dig, val_replicate]; simp [val]
    · have e : (dig a ++ List.replicate (M + 1 - (dig a).length) 0).getD j 0 = (dig a).getD j 0 := by
        rcases Nat.lt_or_ge j (dig a).length with h | h
        · simp [List.getD_eq_getElem?_getD, List.getElem?_append_left h]
        · rw [getD_over h, List.getD_eq_getElem?_getD, List.getElem?_append_right h, List.getElem?_replicate]
          split <;> rfl
      have := da.get j
      rw [e]; omega
  rintro ⟨i, l⟩ ⟨hi, hl, hv, hd⟩ ih
  dsimp only at hi hl hv hd ih ⊢
  refine go_split W 0 200 rfl rfl rfl trivial (fun h1 => ?_) (fun h1 => ?_)
  · have h1 : i < (dig b).length := by omega
    have g1 := hd i
    have g2 := db.get i
    refine go_back W 0 200 (ds := [5, 19, 20, 21]) rfl rfl ?_ (ih (i + 1, l.set i (l.getD i 0 + (dig b).getD i 0)) ⟨by omega, by simpa using hl, ?_, fun j => ?_⟩ (by dsimp only; omega))
    · simp only [AllC, Int.toNat_natCast, addN]
      simp only [true_and]
      omega
    · rw [val_set _ _ _ (by omega), hv, val_take_succ h1]
      rw [show l.getD i 0 + (dig b).getD i 0 - l.getD i 0 = (dig b).getD i 0 by omega]; omega
    · dsimp only
      rw [getD_set _ _ _ _ (by omega)]
      have := hd j
      split <;> omega
  have hib : i = (dig b).length := by omega
  subst hib
  rw [List.take_length, val_dig] at hv
  -- the carries
  refine go_loop W 0 200 (σ := Nat × List Int) (fun s => [(5, .sl 0 0 0 (M + 1)), (36, .int .i64 M), (37, .int .i64 s.1)]) (fun s => [.ints 0 .i64 s.2]) (fun s => M - s.1)
    (fun s => s.1 ≤ M ∧ s.2.length = M + 1 ∧ val s.2 = a + b ∧ ∀ j, 0 ≤ s.2.getD j 0 ∧ s.2.getD j 0 ≤ 131071 ∧ (j < s.1 → s.2.getD j 0 < 65536) ∧ (s.1 < j → s.2.getD j 0 ≤ 131070))
    (0, l) [5, 36, 37] rfl (by simp [keepM, getM]) rfl ⟨trivial, by omega⟩ ⟨Nat.zero_le _, hl, hv, fun j => by have := hd j; dsimp only; omega⟩ ?_
  rintro ⟨i, m⟩ ⟨hi, hm, hw, he⟩ ih2
  dsimp only at hi hm hw he ih2 ⊢
  refine go_split W 0 200 rfl rfl rfl trivial (fun h2 => ?_) (fun h2 => ?_)
  · have h2 : i < M := by omega
    have g1 := he i
    have g2 := he (i + 1)
    have e1 : ((i : Int) + 1).toNat = i + 1 := by omega
    refine go_drawE W 0 200 11 [] [] rfl trivial rfl rfl (by simp only [AllP, Option.getD, addN, e1, Int.toNat_natCast, true_and, and_true]; omega) trivial rfl ?_
    refine go_back W 0 200 (ds := [5, 36, 37]) rfl rfl ?_ ?_
    · simp only [AllC, e1, Int.toNat_natCast, addN, List.length_set, true_and]
      omega
    · have e2 : (m.set (i + 1) (m.getD (i + 1) 0 + m.getD i 0 / 65536)).getD i 0 = m.getD i 0 := by rw [getD_set _ _ _ _ (by omega), if_neg (by omega)]
      have := ih2 (i + 1, (m.set (i + 1) (m.getD (i + 1) 0 + m.getD i 0 / 65536)).set i (m.getD i 0 % 65536)) ⟨by omega, by simpa using hm, ?_, fun j => ?_⟩ (by dsimp only; omega)
      · simp only [e1, Int.toNat_natCast, addN, show (2 : Int) ^ 16 = 65536 from rfl, e2, band_low g1.1 (by omega)]
        exact this
      · dsimp only
        rw [val_set _ _ _ (by simp; omega), val_set _ _ _ (by omega), hw, e2, Int.pow_succ]
        have hq : m.getD i 0 = 65536 * (m.getD i 0 / 65536) + m.getD i 0 % 65536 := by omega
        generalize m.getD i 0 / 65536 = q at *
        generalize m.getD i 0 % 65536 = r at *
        generalize m.getD (i + 1) 0 = s at *
        rw [hq]
        generalize (65536 : Int) ^ i = p
        have : p * 65536 * (s + q - s) = 65536 * (p * q) := by rw [show s + q - s = q by omega, Int.mul_comm p 65536, Int.mul_assoc]
        rw [this]
        have : p * (r - (65536 * q + r)) = - (65536 * (p * q)) := by
          rw [show r - (65536 * q + r) = -(65536 * q) by omega, Int.mul_neg, ← Int.mul_assoc, Int.mul_comm p 65536, Int.mul_assoc]
        omega
      · dsimp only
        rw [getD_set _ _ _ _ (by simp; omega)]
        have hj := he j
        split
        · omega
        · rw [getD_set _ _ _ _ (by omega)]
          split
          · subst j; omega
          · omega
  have hiM : i = M := by omega
  subst hiM
  have top : m.getD i 0 < 65536 := by
    have h3 := val_last (l := m) (fun j _ => (he j).1) hm
    have h4 : (a : Int) < 65536 ^ i := by
      exact lt_pow ((dig_len_le (n := a) (k := i)).1 (by omega))
    have h5 : (b : Int) < 65536 ^ i := by
      exact lt_pow ((dig_len_le (n := b) (k := i)).1 (by omega))
    have hp : (0 : Int) < 65536 ^ i := Int.pow_pos (by omega)
    rw [hw] at h3
    have h6 : (65536 : Int) ^ i * m.getD i 0 < 65536 ^ i * 2 := by omega
    have := Int.lt_of_mul_lt_mul_left h6 (by omega)
    omega
  have dm : Dgs m := dgs_of_getD fun j hj => by
    have := he j
    by_cases hji : j = i
    · subst hji; omega
    · omega
  refine go_callF W 0 200 [0] [] rfl trivial rfl rfl rfl rfl rfl trivial trivial ⟨trivial, rfl, hm.symm⟩ (trim_ok m (by omega)) rfl ?_
  refine go_retP W 0 200 rfl trivial rfl trivial rfl (.fi ?_)
  rw [trimL_dig dm, hw]
  congr 1

end Pf
/- Copies. -/
namespace Pf
open Go Go.Proofs

theorem cloneS_new (l : List Int) (hl : l.length ≤ 1000000000) : AFunN Try.prog 79 [.fi .i64 l] (NewI l) := by
  refine afun_of Try.func79 Try.call79 rfl Try.ntmps79 rfl ?_
  have W : Walk Try.prog TT 79 _ := Walk.of TT_ok Try.func79 Try.results79
  refine go_split W 0 200 rfl rfl rfl trivial (fun h => ?_) (fun _ => ?_)
  · subst h
    exact go_retN W 0 200 rfl trivial rfl trivial rfl _ rfl .refl ⟨rfl, rfl⟩
  · refine go_retN W 0 200 rfl ⟨trivial, by simp; omega⟩ rfl ⟨trivial, rfl, Nat.le_refl _⟩ rfl _ rfl .refl ⟨rfl, ?_⟩
    simp [blksM]
theorem clipS_any (b g off len : Nat) (H : AHeap) : AFun Try.prog 86 [.sl b g off len] H fun v H1 => v = .sl b g off len ∧ H1 = H := by
  refine afun_of Try.func86 Try.call86 rfl Try.ntmps86 rfl ?_
  have W : Walk Try.prog TT 86 _ := Walk.of TT_ok Try.func86 Try.results86
  exact go_ret W 0 200 rfl ⟨trivial, rfl, rfl⟩ ⟨rfl, rfl⟩
theorem clone_new (l : List Int) (hl : l.length ≤ 1000000000) : AFunN Try.prog 68 [.fi .i64 l] (NewI l) := by
  refine afun_of Try.func68 Try.call68 rfl Try.ntmps68 rfl ?_
  have W : Walk Try.prog TT 68 _ := Walk.of TT_ok Try.func68 Try.results68
  refine go_callN W 0 200 rfl trivial rfl trivial rfl (cloneS_new l hl) ?_
  rintro _ _ ⟨rfl, rfl⟩
  refine ⟨_, _, rfl, rfl, ?_⟩
  refine go_call W 0 200 rfl trivial (clipS_any _ _ _ _ _) ?_
  rintro _ _ ⟨rfl, rfl⟩
  refine ⟨_, rfl, ?_⟩
  refine go_retN W 0 200 rfl trivial rfl ⟨trivial, rfl, Nat.le_refl _⟩ rfl _ rfl .refl ⟨rfl, ?_⟩
  simp [blksM]
theorem clone_ok (l : List Int) (hl : l.length ≤ 1000000000) : AFunP Try.prog 68 [.fi .i64 l] (· = .fi .i64 l) :=
  (clone_new l hl).toP rfl trivial rfl fun u H2 ⟨h1, h2⟩ => by
    subst h1; subst h2
    exact ⟨_, _, _, rfl, ⟨trivial, rfl, rfl⟩, .refl, rfl, rfl⟩
theorem cloneS_ok (l : List Int) (hl : l.length ≤ 1000000000) : AFunP Try.prog 79 [.fi .i64 l] (· = .fi .i64 l) :=
  (cloneS_new l hl).toP rfl trivial rfl fun u H2 ⟨h1, h2⟩ => by
    subst h1; subst h2
    exact ⟨_, _, _, rfl, ⟨trivial, rfl, rfl⟩, .refl, rfl, rfl⟩

end Pf
/- Whole numbers: differences and products. -/
namespace Pf
open Go Go.Proofs

theorem val_split (l : List Int) (i : Nat) (h : i ≤ l.length) : val l = val (l.take i) + 65536 ^ i * val (l.drop i) := by
  conv => lhs; rw [← List.take_append_drop i l, val_app]
  simp [Nat.min_eq_left h]
theorem getD_take {l : List Int} {n j : Nat} (h : j < n) : (l.take n).getD j 0 = l.getD j 0 := by
  simp [List.getD_eq_getElem?_getD, List.getElem?_take, h]
theorem dgs_take {l : List Int} {n : Nat} (hn : n ≤ l.length) (h : ∀ j, j < n → 0 ≤ l.getD j 0 ∧ l.getD j 0 < 65536) : Dgs (l.take n) := by
  refine dgs_of_getD fun j hj => ?_
  have hj : j < n := by simp at hj; omega
  rw [getD_take hj]; exact h j hj
/-- Digits below a last one: it is not less than 0, if the number is not. -/
theorem top_nonneg {l : List Int} {n : Nat} (hn : l.length = n + 1) (h : ∀ j, j < n → 0 ≤ l.getD j 0 ∧ l.getD j 0 < 65536) (hv : 0 ≤ val l) : 0 ≤ l.getD n 0 := by
  have h1 := val_take_succ (l := l) (k := n) (by omega)
  rw [List.take_of_length_le (by omega)] at h1
  have h2 := val_lt (dgs_take (by omega) h)
  have e : (l.take n).length = n := by simp; omega
  rw [e] at h2
  have hp : (0 : Int) < 65536 ^ n := Int.pow_pos (by omega)
  rcases Int.lt_or_le (l.getD n 0) 0 with h3 | h3
  · have : (65536 : Int) ^ n * l.getD n 0 ≤ 65536 ^ n * (-1) := Int.mul_le_mul_of_nonneg_left (by omega) (by omega)
    omega
  · exact h3
theorem natSub_ok (a b : Nat) (hab : b ≤ a) (ha : (dig a).length ≤ 100000000) : AFunP Try.prog 70 [.fi .i64 (dig a), .fi .i64 (dig b)] (· = .fi .i64 (dig (a - b))) := by
  refine afun_of Try.func70 Try.call70 rfl Try.ntmps70 rfl ?_
  have W : Walk Try.prog TT 70 _ := Walk.of TT_ok Try.func70 Try.results70
  have da := dig_dgs a
  have db := dig_dgs b
  have hlen := dig_len_mono hab
  refine cn W 0 rfl rfl rfl (cloneS_new (dig a) (by omega)) ?_
  rintro _ _ ⟨rfl, rfl⟩
  refine ⟨_, _, rfl, rfl, ?_⟩
  generalize hL : (dig a).length = L at *
  -- the differences of the digits
  refine lp W 0 (σ := Nat × List Int) (fun s => [(5, .sl 0 0 0 L), (11, .fi .i64 (dig b)), (12, .int .i64 (dig b).length), (13, .int .i64 s.1)]) (fun s => [.ints 0 .i64 s.2]) (fun s => (dig b).length - s.1)
    (fun s => s.1 ≤ (dig b).length ∧ s.2.length = L ∧ val s.2 = a - val ((dig b).take s.1) ∧ ∀ j, -65536 < s.2.getD j 0 ∧ s.2.getD j 0 < 65536 ∧ (s.1 ≤ j → 0 ≤ s.2.getD j 0))
    (0, dig a) [5, 11, 12, 13] rfl rfl rfl ⟨Nat.zero_le _, hL, by simp [val, val_dig], fun j => by have := da.get j; dsimp only; omega⟩ ?_
  rintro ⟨i, l⟩ ⟨hi, hl, hv, hd⟩ ih
  dsimp only at hi hl hv hd ih ⊢
  refine sp W 0 rfl rfl rfl (fun h1 => ?_) (fun h1 => ?_)
  · have h1 : i < (dig b).length := by omega
    have g1 := hd i
    have g2 := db.get i
    refine bk W 0 [5, 11, 12, 13] rfl rfl (ih (i + 1, l.set i (l.getD i 0 - (dig b).getD i 0)) ⟨by omega, by simpa using hl, ?_, fun j => ?_⟩ (by dsimp only; omega))
    · dsimp only
      rw [val_set _ _ _ (by omega), hv, val_take_succ h1, show l.getD i 0 - (dig b).getD i 0 - l.getD i 0 = -(dig b).getD i 0 by omega, Int.mul_neg]; omega
    · dsimp only
      rw [getD_set _ _ _ _ (by omega)]
      have := hd j
      split <;> omega
  have hib : i = (dig b).length := by omega
  subst hib
  rw [List.take_length, val_dig] at hv
  -- the borrows
  refine lp W 0 (σ := Nat × List Int) (fun s => [(5, .sl 0 0 0 L), (27, .int .i64 L), (28, .int .i64 s.1)]) (fun s => [.ints 0 .i64 s.2]) (fun s => L - s.1)
    (fun s => s.1 ≤ L ∧ s.2.length = L ∧ val s.2 = (a : Int) - b ∧ ∀ j, -65537 < s.2.getD j 0 ∧ s.2.getD j 0 < 65536 ∧ (j < s.1 → 0 ≤ s.2.getD j 0) ∧ (s.1 < j → -65536 < s.2.getD j 0))
    (0, l) [5, 27, 28] rfl rfl rfl ⟨Nat.zero_le _, hl, hv, fun j => by have := hd j; dsimp only; omega⟩ ?_
  rintro ⟨i, m⟩ ⟨hi, hm, hw, he⟩ ih2
  dsimp only at hi hm hw he ih2 ⊢
  refine sp W 0 rfl rfl rfl (fun h2 => ?_) (fun h2 => ?_)
  · have h2 : i < L := by omega
    have g1 := he i
    refine sp W 0 rfl rfl rfl (fun h3 => ?_) (fun h3 => ?_)
    · simp only [addN, Int.toNat_natCast] at h3
      have h4 : i + 1 < L := by
        rcases Nat.lt_or_ge (i + 1) L with h | h
        · exact h
        · have := top_nonneg (l := m) (n := i) (by omega) (fun j hj => by have := he j; omega) (by rw [hw]; omega)
          omega
      have g2 := he (i + 1)
      have e1 : ((i : Int) + 1).toNat = i + 1 := by omega
      have g3 : (m.set i (m.getD i 0 + 65536)).getD (i + 1) 0 = m.getD (i + 1) 0 := by rw [getD_set _ _ _ _ (by omega), if_neg (by omega)]
      refine bk W 0 [5, 27, 28] rfl rfl (ih2 (i + 1, (m.set i (m.getD i 0 + 65536)).set (i + 1) ((m.set i (m.getD i 0 + 65536)).getD (i + 1) 0 - 1)) ⟨by dsimp only; omega, by simpa using hm, ?_, fun j => ?_⟩ (by dsimp only; omega)) (hc := ?_)
      · dsimp only
        rw [val_set _ _ _ (by simp; omega), val_set _ _ _ (by omega), hw, Int.pow_succ]
        rw [show m.getD i 0 + 65536 - m.getD i 0 = 65536 by omega, show (m.set i (m.getD i 0 + 65536)).getD (i + 1) 0 - 1 - (m.set i (m.getD i 0 + 65536)).getD (i + 1) 0 = -1 by omega, Int.mul_neg, Int.mul_one]; omega
      · dsimp only
        rw [getD_set _ _ _ _ (by simp; omega)]
        have hj := he j
        split
        · rw [getD_set _ _ _ _ (by omega), if_neg (by omega)]; omega
        · rw [getD_set _ _ _ _ (by omega)]
          split
          · subst j; omega
          · omega
      · simp only [AllC, e1, addN, Int.toNat_natCast, true_and, List.length_set, g3]; omega
    · simp only [addN, Int.toNat_natCast] at h3
      refine bk W 0 [5, 27, 28] rfl rfl (ih2 (i + 1, m) ⟨by dsimp only; omega, hm, hw, fun j => ?_⟩ (by dsimp only; omega))
      have hj := he j
      dsimp only
      by_cases hji : j = i
      · subst hji; omega
      · omega
  have hiL : i = L := by omega
  subst hiL
  have dm : Dgs m := dgs_of_getD fun j hj => by have := he j; omega
  refine cf W 0 [0] [] rfl rfl rfl rfl rfl rfl (trim_ok m (by omega)) rfl ?_
  refine rp W 0 rfl rfl rfl (.fi (by rw [trimL_dig dm, hw]; congr 1; omega))
theorem natMul_ok (a b : Nat) (ha : (dig a).length ≤ 10000000) (hb : (dig b).length ≤ 10000000) : AFunP Try.prog 62 [.fi .i64 (dig a), .fi .i64 (dig b)] (· = .fi .i64 (dig (a * b))) := by
  refine afun_of Try.func62 Try.call62 rfl Try.ntmps62 rfl ?_
  have W : Walk Try.prog TT 62 _ := Walk.of TT_ok Try.func62 Try.results62
  have da := dig_dgs a
  have db := dig_dgs b
  have eL : (((dig a).length : Int) + (dig b).length + 1) = (((dig a).length + (dig b).length + 1 : Nat) : Int) := by omega
  refine lp W 0 (σ := Nat × List Int) (fun s => [(1, .fi .i64 (dig b)), (5, .sl 0 0 0 ((dig a).length + (dig b).length + 1)), (19, .fi .i64 (dig a)), (20, .int .i64 (dig a).length), (21, .int .i64 s.1)]) (fun s => [.ints 0 .i64 s.2]) (fun s => (dig a).length - s.1)
    (fun s => s.1 ≤ (dig a).length ∧ s.2.length = (dig a).length + (dig b).length + 1 ∧ val s.2 = val ((dig a).take s.1) * b ∧ ∀ j, 0 ≤ s.2.getD j 0 ∧ s.2.getD j 0 < 65536 ∧ (s.1 + (dig b).length ≤ j → s.2.getD j 0 = 0))
    (0, List.replicate ((dig a).length + (dig b).length + 1) 0) [1, 5, 19, 20, 21] rfl (by rw [eL]; rfl) (by rw [eL]; rfl) ⟨Nat.zero_le _, by simp, by simp [val_replicate, val], fun j => ?_⟩ ?_ (hc := ?_)
  · have : (List.replicate ((dig a).length + (dig b).length + 1) (0 : Int)).getD j 0 = 0 := by
      rw [List.getD_eq_getElem?_getD, List.getElem?_replicate]; split <;> rfl
    dsimp only; omega
  · rintro ⟨i, l⟩ ⟨hi, hl, hv, hd⟩ ih
    dsimp only at hi hl hv hd ih ⊢
    generalize hA : (dig a).length = A at *
    refine sp W 0 rfl rfl rfl (fun h1 => ?_) (fun h1 => ?_)
    · have h1 : i < A := by omega
      have gx := da.get i
      have gl : ∀ j, i + (dig b).length ≤ j → l.getD j 0 = 0 := fun j hj => (hd j).2.2 hj
      generalize hx : (dig a).getD i 0 = x at *
      refine lp W 0 (σ := Nat × Int × List Int) (fun s => [(1, .fi .i64 (dig b)), (5, .sl 0 0 0 (A + (dig b).length + 1)), (19, .fi .i64 (dig a)), (20, .int .i64 A), (21, .int .i64 i), (6, .int .i64 i), (7, .int .i64 x), (8, .int .i64 s.2.1), (26, .fi .i64 (dig b)), (27, .int .i64 (dig b).length), (28, .int .i64 s.1)]) (fun s => [.ints 0 .i64 s.2.2]) (fun s => (dig b).length - s.1)
        (fun s => s.1 ≤ (dig b).length ∧ s.2.2.length = A + (dig b).length + 1 ∧ val s.2.2 + s.2.1 * 65536 ^ (i + s.1) = val l + x * val ((dig b).take s.1) * 65536 ^ i ∧ 0 ≤ s.2.1 ∧ s.2.1 < 65536 ∧ (∀ j, 0 ≤ s.2.2.getD j 0 ∧ s.2.2.getD j 0 < 65536) ∧ ∀ j, i + s.1 ≤ j → s.2.2.getD j 0 = l.getD j 0)
        (0, 0, l) [1, 5, 19, 20, 21, 6, 7, 8, 26, 27, 28] rfl (by rw [← hx]; rfl) rfl ⟨Nat.zero_le _, hl, by simp [val], by simp, by simp, fun j => by have := hd j; dsimp only; omega, fun j _ => rfl⟩ ?_
      rintro ⟨k, c, m⟩ ⟨hk, hm, hw, c0, c1, he, hs⟩ ih2
      dsimp only at hk hm hw c0 c1 he hs ih2 ⊢
      refine sp W 0 rfl rfl rfl (fun h2 => ?_) (fun h2 => ?_)
      · have h2 : k < (dig b).length := by omega
        have gy := db.get k
        have gm := he (i + k)
        generalize hy : (dig b).getD k 0 = y at *
        have p0 : 0 ≤ x * y := Int.mul_nonneg gx.1 gy.1
        have p1 : x * y ≤ 65535 * 65535 := Int.mul_le_mul (by omega) (by omega) gy.1 (by omega)
        have eI : ((i : Int) + (k : Int)).toNat = i + k := by omega
        have hb : band .i64 (m.getD (i + k) 0 + x * y + c) 65535 = (m.getD (i + k) 0 + x * y + c) % 65536 := band_low (by omega) (by omega)
        have nx := ih2 (k + 1, (m.getD (i + k) 0 + x * y + c) / 2 ^ 16, m.set (i + k) (band .i64 (m.getD (i + k) 0 + x * y + c) 65535)) ⟨by omega, by simpa using hm, ?_, ?_, ?_, fun j => ?_, fun j hj => ?_⟩ (by dsimp only; omega)
        · refine bk W 0 [1, 5, 19, 20, 21, 6, 7, 8, 26, 27, 28] rfl rfl (by rw [← hy] at nx; exact nx) (hc := ?_)
          simp only [AllC, eI, hy, addN, Int.toNat_natCast, true_and, List.length_set]
          omega
        · dsimp only
          rw [val_set _ _ _ (by omega), hb, val_take_succ h2, hy, pw16]
          have hq : m.getD (i + k) 0 + x * y + c = 65536 * ((m.getD (i + k) 0 + x * y + c) / 65536) + (m.getD (i + k) 0 + x * y + c) % 65536 := by omega
          generalize (m.getD (i + k) 0 + x * y + c) / 65536 = q at *
          generalize (m.getD (i + k) 0 + x * y + c) % 65536 = r at *
          rw [show i + (k + 1) = i + k + 1 by omega, Int.pow_succ, Int.mul_add, Int.add_mul, ← Int.mul_assoc x, Int.mul_comm (x * 65536 ^ k) y]
          have e2 : y * (x * 65536 ^ k) * 65536 ^ i = x * y * 65536 ^ (i + k) := by
            rw [Int.pow_add]
            simp only [Int.mul_assoc, Int.mul_comm, Int.mul_left_comm]
          rw [e2]
          have e3 : q * (65536 ^ (i + k) * 65536) = 65536 ^ (i + k) * (65536 * q) := by simp only [Int.mul_assoc, Int.mul_comm, Int.mul_left_comm]
          have e4 : 65536 ^ (i + k) * (r - m.getD (i + k) 0) + 65536 ^ (i + k) * (65536 * q) = 65536 ^ (i + k) * (x * y + c) := by
            rw [← Int.mul_add]; congr 1; omega
          rw [Int.mul_add, Int.mul_comm _ (x * y), Int.mul_comm _ c] at e4
          omega
        · dsimp only; rw [pw16]; omega
        · dsimp only; rw [pw16]; omega
        · dsimp only
          rw [getD_set _ _ _ _ (by omega), hb]
          have := he j
          split <;> omega
        · dsimp only at hj ⊢
          rw [getD_set _ _ _ _ (by omega), if_neg (by omega)]
          exact hs j (by omega)
      · have hkB : k = (dig b).length := by omega
        subst hkB
        rw [List.take_length, val_dig] at hw
        have g0 : m.getD (i + (dig b).length) 0 = 0 := by rw [hs _ (Nat.le_refl _)]; exact gl _ (Nat.le_refl _)
        have eI : ((i : Int) + ((dig b).length : Int)).toNat = i + (dig b).length := by omega
        refine bk W 0 [1, 5, 19, 20, 21] rfl rfl (ih (i + 1, m.set (i + (dig b).length) (m.getD (i + (dig b).length) 0 + c)) ⟨by dsimp only; omega, by simpa using hm, ?_, fun j => ?_⟩ (by dsimp only; omega)) (hc := ?_)
        · dsimp only
          rw [val_set _ _ _ (by omega), g0, val_take_succ (show i < (dig a).length by omega), hx, show (0 : Int) + c - 0 = c by omega, Int.mul_comm _ c, hw, hv, Int.add_mul, Int.mul_comm (65536 ^ i) x, Int.mul_assoc x, Int.mul_assoc x, Int.mul_comm (b : Int)]
        · dsimp only
          rw [getD_set _ _ _ _ (by omega), g0]
          have h1 := he j
          have h2 := hs j
          have h3 := gl j
          split
          · omega
          · refine ⟨h1.1, h1.2, fun hj => ?_⟩
            rw [h2 (by omega)]; exact h3 (by omega)
        · simp only [AllC, eI, addN, Int.toNat_natCast, true_and, List.length_set, g0]; omega
    · have hiA : i = A := by omega
      subst hiA
      rw [show (dig a).take i = dig a from List.take_of_length_le (by omega), val_dig] at hv
      have dm : Dgs l := dgs_of_getD fun j hj => by have := hd j; omega
      refine cf W 0 [0] [] rfl rfl rfl rfl rfl rfl (trim_ok l (by omega)) rfl ?_
      refine rp W 0 rfl rfl rfl (.fi (by rw [trimL_dig dm, hv]; congr 1))
  · simp only [AllC, true_and]
    omega
end Pf
/- Bits of numbers, pairs; the model's own. -/
namespace Pf
open Go Go.Proofs
theorem getD_mem {α : Type} {l : List α} {i : Nat} {d : α} (h : i < l.length) : l.getD i d ∈ l := by simp [List.getD_eq_getElem?_getD, h]
theorem mem_getD {α : Type} {l : List α} {a : α} (d : α) (h : a ∈ l) : ∃ i, i < l.length ∧ l.getD i d = a := by
  obtain ⟨i, hi, rfl⟩ := List.getElem_of_mem h
  exact ⟨i, hi, by simp [List.getD_eq_getElem?_getD, hi]⟩

def InI (n : Int) : Prop := -9223372036854775808 ≤ n ∧ n ≤ 9223372036854775807
def meetOk (w : Int) (a b : Int × Int) : Prop := pairOk w a.1 a.2 ∧ pairOk w b.1 b.2 ∧ max a.1 b.1 ≤ min a.2 b.2
theorem meet_pair {w : Int} {a b : Int × Int} (ha : pairOk w a.1 a.2) (hb : pairOk w b.1 b.2) : pairOk w (max a.1 b.1) (min a.2 b.2) ↔ max a.1 b.1 ≤ min a.2 b.2 := by
  unfold pairOk bitOk at *
  obtain ⟨⟨h1, h2⟩, ⟨_, h3⟩, h4⟩ := ha
  obtain ⟨⟨_, k2⟩, ⟨_, k3⟩, k4⟩ := hb
  constructor
  · exact fun h => h.2.2.1
  · intro h; exact ⟨⟨h1, by omega⟩, ⟨h1, by omega⟩, by omega⟩
open Classical in
noncomputable def pmeet (w : Int) (a b : Int × Int) : Int × Int := if meetOk w a b then (max a.1 b.1, min a.2 b.2) else (0, 0)
def pairV (a : Int × Int) : AV := .agg [.int .i64 a.1, .int .i64 a.2]
theorem pmeet_yes {w : Int} {a b : Int × Int} (h : meetOk w a b) : pmeet w a b = (max a.1 b.1, min a.2 b.2) := by simp [pmeet, h]
theorem pmeet_no {w : Int} {a b : Int × Int} (h : ¬ meetOk w a b) : pmeet w a b = (0, 0) := by simp [pmeet, h]
theorem pairOk_rng {w a b : Int} (h : pairOk w a b) : -9218868437227405312 ≤ a ∧ a ≤ b ∧ b ≤ 9218868437227405312 := by
  have := top_rng w
  unfold pairOk bitOk at h
  omega
/-- How many bits a number has. -/
def bitL (n : Nat) : Nat := if h : n = 0 then 0 else bitL (n / 2) + 1
termination_by n
decreasing_by omega
theorem bitL_zero : bitL 0 = 0 := by rw [bitL]; simp
theorem bitL_pos {n : Nat} (h : n ≠ 0) : bitL n = bitL (n / 2) + 1 := by rw [bitL]; simp [h]
theorem bitL_shift : ∀ (j n : Nat), 2 ^ j ≤ n → bitL n = bitL (n / 2 ^ j) + j
  | 0, n, h => by simp
  | j + 1, n, h => by
    have h2 : 2 ^ j ≤ n / 2 := by rw [Nat.pow_succ] at h; omega
    rw [bitL_pos (by have : 0 < 2 ^ (j + 1) := Nat.pow_pos (by omega)
                     omega), bitL_shift j (n / 2) h2, Nat.div_div_eq_div_mul, Nat.pow_succ, Nat.mul_comm 2]; omega
theorem bitL_lt : ∀ (k n : Nat), bitL n ≤ k ↔ n < 2 ^ k
  | 0, n => by
    by_cases h : n = 0
    · subst h; simp [bitL_zero]
    · rw [bitL_pos h]; simp; omega
  | k + 1, n => by
    by_cases h : n = 0
    · subst h; simp [bitL_zero]; exact Nat.pow_pos (by omega)
    · rw [bitL_pos h]
      have := bitL_lt k (n / 2)
      rw [Nat.pow_succ]; omega
theorem bitL_mono {a b : Nat} (h : a ≤ b) : bitL a ≤ bitL b := by
  rw [bitL_lt]
  have := (bitL_lt (bitL b) b).1 (Nat.le_refl _)
  omega
def bitLen (n : Int) : Int := bitL n.toNat
def bitF : Nat → Nat → Nat
  | 0, _ => 0
  | f + 1, n => match n with | 0 => 0 | n + 1 => bitF f ((n + 1) / 2) + 1
theorem bitF_eq : ∀ (f n : Nat), n < 2 ^ f → bitF f n = bitL n
  | 0, n, h => by have : n = 0 := by simpa using h
                  subst this; simp [bitF, bitL_zero]
  | f + 1, 0, h => by simp [bitF, bitL_zero]
  | f + 1, n + 1, h => by
    simp only [bitF]
    rw [bitL_pos (by omega), bitF_eq f _ (by rw [Nat.pow_succ] at h; omega)]
/-- The table of bits/bits_tables.go. -/
def tbl : List UInt8 := [0, 1] ++ List.replicate 2 2 ++ List.replicate 4 3 ++ List.replicate 8 4 ++ List.replicate 16 5 ++ List.replicate 32 6 ++ List.replicate 64 7 ++ List.replicate 128 8
theorem tbl_ok (k : Nat) (h : k < 256) : (tbl.getD k 0).toNat = bitL k := by
  rw [← bitF_eq 8 k (by omega)]
  exact (by decide +kernel : ∀ k, k < 256 → (tbl.getD k 0).toNat = bitF 8 k) k h
theorem tbl_len : tbl.length = 256 := by decide +kernel
theorem tbl_int (k : Int) (h0 : 0 ≤ k) (h : k < 256) : (((tbl.getD k.toNat 0).toNat : Nat) : Int) = bitLen k ∧ 0 ≤ bitLen k ∧ bitLen k ≤ 8 := by
  rw [tbl_ok k.toNat (by omega)]
  refine ⟨rfl, by unfold bitLen; omega, ?_⟩
  have := (bitL_lt 8 k.toNat).2 (by omega)
  unfold bitLen; omega
theorem bitLen_shift (j : Nat) (n : Int) (h : 2 ^ j ≤ n) : bitLen n = bitLen (n / 2 ^ j) + j := by
  have hp : (0 : Int) < 2 ^ j := Int.pow_pos (by omega)
  obtain ⟨m, rfl⟩ : ∃ m : Nat, n = m := ⟨n.toNat, by omega⟩
  have e : ((m : Int) / 2 ^ j).toNat = m / 2 ^ j := by
    have : (2 : Int) ^ j = ((2 ^ j : Nat) : Int) := by simp
    rw [this, ← Int.natCast_ediv, Int.toNat_natCast]
  unfold bitLen
  rw [e, Int.toNat_natCast, bitL_shift j m (by exact_mod_cast h)]
  omega
theorem len64_ok (n : Int) (h0 : 0 ≤ n) (h1 : n ≤ 18446744073709551615) : AFunP Try.prog 93 [.int .u64 n] (· = .int .i64 (bitLen n)) := by
  refine afun_of Try.func93 Try.call93 rfl Try.ntmps93 rfl ?_
  have W : Walk Try.prog TT 93 _ := Walk.of TT_ok Try.func93 Try.results93
  refine sp W 0 rfl rfl rfl (fun h32 => ?_) (fun h32 => ?_)
  · have h32 : 4294967296 ≤ n := h32
    refine sp W 0 rfl rfl rfl (fun h16 => ?_) (fun h16 => ?_)
    · have h16 : 65536 ≤ n / 4294967296 := h16
      refine sp W 0 rfl rfl rfl (fun h8 => ?_) (fun h8 => ?_)
      · have h8 : 256 ≤ n / 4294967296 / 65536 := h8
        obtain ⟨b1, b2, b3⟩ := tbl_int (n / 4294967296 / 65536 / 256) (by omega) (by omega)
        have e0 : bitLen (n) = bitLen (n / 4294967296) + 32 := bitLen_shift 32 (n) (by omega)
        have e1 : bitLen (n / 4294967296) = bitLen (n / 4294967296 / 65536) + 16 := bitLen_shift 16 (n / 4294967296) (by omega)
        have e2 : bitLen (n / 4294967296 / 65536) = bitLen (n / 4294967296 / 65536 / 256) + 8 := bitLen_shift 8 (n / 4294967296 / 65536) (by omega)
        have r0 : -9223372036854775808 ≤ 32 + 16 + 8 + ((tbl.getD (n / 4294967296 / 65536 / 256).toNat 0).toNat : Int) ∧ 32 + 16 + 8 + ((tbl.getD (n / 4294967296 / 65536 / 256).toNat 0).toNat : Int) ≤ 9223372036854775807 := by rw [b1]; omega
        have r1 : -9223372036854775808 ≤ ((tbl.getD (n / 4294967296 / 65536 / 256).toNat 0).toNat : Int) ∧ ((tbl.getD (n / 4294967296 / 65536 / 256).toNat 0).toNat : Int) ≤ 9223372036854775807 := by rw [b1]; omega
        have r2 : 0 ≤ n / 4294967296 / 65536 / 256 ∧ n / 4294967296 / 65536 / 256 < ((tbl.length : Nat) : Int) := by rw [tbl_len]; omega
        have r3 : 0 ≤ n / 4294967296 / 65536 / 256 ∧ n / 4294967296 / 65536 / 256 ≤ 255 := by omega
        have r : 32 + 16 + 8 + ((tbl.getD (n / 4294967296 / 65536 / 256).toNat 0).toNat : Int) = bitLen n := by rw [b1]; omega
        exact go_retP W 0 300 rfl ⟨⟨⟨⟨⟨trivial, by omega⟩, r3⟩, r2⟩, r1⟩, r0⟩ rfl trivial rfl (.int r)
      · have h8 : n / 4294967296 / 65536 < 256 := Int.not_le.1 h8
        obtain ⟨b1, b2, b3⟩ := tbl_int (n / 4294967296 / 65536) (by omega) (by omega)
        have e0 : bitLen (n) = bitLen (n / 4294967296) + 32 := bitLen_shift 32 (n) (by omega)
        have e1 : bitLen (n / 4294967296) = bitLen (n / 4294967296 / 65536) + 16 := bitLen_shift 16 (n / 4294967296) (by omega)
        have r0 : -9223372036854775808 ≤ 32 + 16 + ((tbl.getD (n / 4294967296 / 65536).toNat 0).toNat : Int) ∧ 32 + 16 + ((tbl.getD (n / 4294967296 / 65536).toNat 0).toNat : Int) ≤ 9223372036854775807 := by rw [b1]; omega
        have r1 : -9223372036854775808 ≤ ((tbl.getD (n / 4294967296 / 65536).toNat 0).toNat : Int) ∧ ((tbl.getD (n / 4294967296 / 65536).toNat 0).toNat : Int) ≤ 9223372036854775807 := by rw [b1]; omega
        have r2 : 0 ≤ n / 4294967296 / 65536 ∧ n / 4294967296 / 65536 < ((tbl.length : Nat) : Int) := by rw [tbl_len]; omega
        have r3 : 0 ≤ n / 4294967296 / 65536 ∧ n / 4294967296 / 65536 ≤ 255 := by omega
        have r : 32 + 16 + ((tbl.getD (n / 4294967296 / 65536).toNat 0).toNat : Int) = bitLen n := by rw [b1]; omega
        exact go_retP W 0 300 rfl ⟨⟨⟨⟨trivial, r3⟩, r2⟩, r1⟩, r0⟩ rfl trivial rfl (.int r)
    · have h16 : n / 4294967296 < 65536 := Int.not_le.1 h16
      refine sp W 0 rfl rfl rfl (fun h8 => ?_) (fun h8 => ?_)
      · have h8 : 256 ≤ n / 4294967296 := h8
        obtain ⟨b1, b2, b3⟩ := tbl_int (n / 4294967296 / 256) (by omega) (by omega)
        have e0 : bitLen (n) = bitLen (n / 4294967296) + 32 := bitLen_shift 32 (n) (by omega)
        have e1 : bitLen (n / 4294967296) = bitLen (n / 4294967296 / 256) + 8 := bitLen_shift 8 (n / 4294967296) (by omega)
        have r0 : -9223372036854775808 ≤ 32 + 8 + ((tbl.getD (n / 4294967296 / 256).toNat 0).toNat : Int) ∧ 32 + 8 + ((tbl.getD (n / 4294967296 / 256).toNat 0).toNat : Int) ≤ 9223372036854775807 := by rw [b1]; omega
        have r1 : -9223372036854775808 ≤ ((tbl.getD (n / 4294967296 / 256).toNat 0).toNat : Int) ∧ ((tbl.getD (n / 4294967296 / 256).toNat 0).toNat : Int) ≤ 9223372036854775807 := by rw [b1]; omega
        have r2 : 0 ≤ n / 4294967296 / 256 ∧ n / 4294967296 / 256 < ((tbl.length : Nat) : Int) := by rw [tbl_len]; omega
        have r3 : 0 ≤ n / 4294967296 / 256 ∧ n / 4294967296 / 256 ≤ 255 := by omega
        have r : 32 + 8 + ((tbl.getD (n / 4294967296 / 256).toNat 0).toNat : Int) = bitLen n := by rw [b1]; omega
        exact go_retP W 0 300 rfl ⟨⟨⟨⟨⟨trivial, by omega⟩, r3⟩, r2⟩, r1⟩, r0⟩ rfl trivial rfl (.int r)
      · have h8 : n / 4294967296 < 256 := Int.not_le.1 h8
        obtain ⟨b1, b2, b3⟩ := tbl_int (n / 4294967296) (by omega) (by omega)
        have e0 : bitLen (n) = bitLen (n / 4294967296) + 32 := bitLen_shift 32 (n) (by omega)
        have r0 : -9223372036854775808 ≤ 32 + ((tbl.getD (n / 4294967296).toNat 0).toNat : Int) ∧ 32 + ((tbl.getD (n / 4294967296).toNat 0).toNat : Int) ≤ 9223372036854775807 := by rw [b1]; omega
        have r1 : -9223372036854775808 ≤ ((tbl.getD (n / 4294967296).toNat 0).toNat : Int) ∧ ((tbl.getD (n / 4294967296).toNat 0).toNat : Int) ≤ 9223372036854775807 := by rw [b1]; omega
        have r2 : 0 ≤ n / 4294967296 ∧ n / 4294967296 < ((tbl.length : Nat) : Int) := by rw [tbl_len]; omega
        have r3 : 0 ≤ n / 4294967296 ∧ n / 4294967296 ≤ 255 := by omega
        have r : 32 + ((tbl.getD (n / 4294967296).toNat 0).toNat : Int) = bitLen n := by rw [b1]; omega
        exact go_retP W 0 300 rfl ⟨⟨⟨⟨trivial, r3⟩, r2⟩, r1⟩, r0⟩ rfl trivial rfl (.int r)
  · have h32 : n < 4294967296 := Int.not_le.1 h32
    refine sp W 0 rfl rfl rfl (fun h16 => ?_) (fun h16 => ?_)
    · have h16 : 65536 ≤ n := h16
      refine sp W 0 rfl rfl rfl (fun h8 => ?_) (fun h8 => ?_)
      · have h8 : 256 ≤ n / 65536 := h8
        obtain ⟨b1, b2, b3⟩ := tbl_int (n / 65536 / 256) (by omega) (by omega)
        have e0 : bitLen (n) = bitLen (n / 65536) + 16 := bitLen_shift 16 (n) (by omega)
        have e1 : bitLen (n / 65536) = bitLen (n / 65536 / 256) + 8 := bitLen_shift 8 (n / 65536) (by omega)
        have r0 : -9223372036854775808 ≤ 0 + 16 + 8 + ((tbl.getD (n / 65536 / 256).toNat 0).toNat : Int) ∧ 0 + 16 + 8 + ((tbl.getD (n / 65536 / 256).toNat 0).toNat : Int) ≤ 9223372036854775807 := by rw [b1]; omega
        have r1 : -9223372036854775808 ≤ ((tbl.getD (n / 65536 / 256).toNat 0).toNat : Int) ∧ ((tbl.getD (n / 65536 / 256).toNat 0).toNat : Int) ≤ 9223372036854775807 := by rw [b1]; omega
        have r2 : 0 ≤ n / 65536 / 256 ∧ n / 65536 / 256 < ((tbl.length : Nat) : Int) := by rw [tbl_len]; omega
        have r3 : 0 ≤ n / 65536 / 256 ∧ n / 65536 / 256 ≤ 255 := by omega
        have r : 0 + 16 + 8 + ((tbl.getD (n / 65536 / 256).toNat 0).toNat : Int) = bitLen n := by rw [b1]; omega
        exact go_retP W 0 300 rfl ⟨⟨⟨⟨⟨trivial, by omega⟩, r3⟩, r2⟩, r1⟩, r0⟩ rfl trivial rfl (.int r)
      · have h8 : n / 65536 < 256 := Int.not_le.1 h8
        obtain ⟨b1, b2, b3⟩ := tbl_int (n / 65536) (by omega) (by omega)
        have e0 : bitLen (n) = bitLen (n / 65536) + 16 := bitLen_shift 16 (n) (by omega)
        have r0 : -9223372036854775808 ≤ 0 + 16 + ((tbl.getD (n / 65536).toNat 0).toNat : Int) ∧ 0 + 16 + ((tbl.getD (n / 65536).toNat 0).toNat : Int) ≤ 9223372036854775807 := by rw [b1]; omega
        have r1 : -9223372036854775808 ≤ ((tbl.getD (n / 65536).toNat 0).toNat : Int) ∧ ((tbl.getD (n / 65536).toNat 0).toNat : Int) ≤ 9223372036854775807 := by rw [b1]; omega
        have r2 : 0 ≤ n / 65536 ∧ n / 65536 < ((tbl.length : Nat) : Int) := by rw [tbl_len]; omega
        have r3 : 0 ≤ n / 65536 ∧ n / 65536 ≤ 255 := by omega
        have r : 0 + 16 + ((tbl.getD (n / 65536).toNat 0).toNat : Int) = bitLen n := by rw [b1]; omega
        exact go_retP W 0 300 rfl ⟨⟨⟨⟨trivial, r3⟩, r2⟩, r1⟩, r0⟩ rfl trivial rfl (.int r)
    · have h16 : n < 65536 := Int.not_le.1 h16
      refine sp W 0 rfl rfl rfl (fun h8 => ?_) (fun h8 => ?_)
      · have h8 : 256 ≤ n := h8
        obtain ⟨b1, b2, b3⟩ := tbl_int (n / 256) (by omega) (by omega)
        have e0 : bitLen (n) = bitLen (n / 256) + 8 := bitLen_shift 8 (n) (by omega)
        have r0 : -9223372036854775808 ≤ 0 + 8 + ((tbl.getD (n / 256).toNat 0).toNat : Int) ∧ 0 + 8 + ((tbl.getD (n / 256).toNat 0).toNat : Int) ≤ 9223372036854775807 := by rw [b1]; omega
        have r1 : -9223372036854775808 ≤ ((tbl.getD (n / 256).toNat 0).toNat : Int) ∧ ((tbl.getD (n / 256).toNat 0).toNat : Int) ≤ 9223372036854775807 := by rw [b1]; omega
        have r2 : 0 ≤ n / 256 ∧ n / 256 < ((tbl.length : Nat) : Int) := by rw [tbl_len]; omega
        have r3 : 0 ≤ n / 256 ∧ n / 256 ≤ 255 := by omega
        have r : 0 + 8 + ((tbl.getD (n / 256).toNat 0).toNat : Int) = bitLen n := by rw [b1]; omega
        exact go_retP W 0 300 rfl ⟨⟨⟨⟨⟨trivial, by omega⟩, r3⟩, r2⟩, r1⟩, r0⟩ rfl trivial rfl (.int r)
      · have h8 : n < 256 := Int.not_le.1 h8
        obtain ⟨b1, b2, b3⟩ := tbl_int (n) (by omega) (by omega)
        have r0 : -9223372036854775808 ≤ 0 + ((tbl.getD (n).toNat 0).toNat : Int) ∧ 0 + ((tbl.getD (n).toNat 0).toNat : Int) ≤ 9223372036854775807 := by rw [b1]; omega
        have r1 : -9223372036854775808 ≤ ((tbl.getD (n).toNat 0).toNat : Int) ∧ ((tbl.getD (n).toNat 0).toNat : Int) ≤ 9223372036854775807 := by rw [b1]; omega
        have r2 : 0 ≤ n ∧ n < ((tbl.length : Nat) : Int) := by rw [tbl_len]; omega
        have r3 : 0 ≤ n ∧ n ≤ 255 := by omega
        have r : 0 + ((tbl.getD (n).toNat 0).toNat : Int) = bitLen n := by rw [b1]; omega
        exact go_retP W 0 300 rfl ⟨⟨⟨⟨trivial, r3⟩, r2⟩, r1⟩, r0⟩ rfl trivial rfl (.int r)

theorem bitLen_rng {n : Int} (h : n ≤ 18446744073709551615) : 0 ≤ bitLen n ∧ bitLen n ≤ 64 := by
  refine ⟨by unfold bitLen; omega, ?_⟩
  have := (bitL_lt 64 n.toNat).2 (by omega)
  unfold bitLen; omega
end Pf
/- Whole numbers: bits and shifts. -/
namespace Pf
open Go Go.Proofs

theorem bitL_mul : ∀ (k n : Nat), n ≠ 0 → bitL (n * 2 ^ k) = bitL n + k := by
  intro k n hn
  have h : 2 ^ k ≤ n * 2 ^ k := Nat.le_mul_of_pos_left _ (by omega)
  have := bitL_shift k (n * 2 ^ k) h
  rwa [Nat.mul_div_cancel _ (Nat.pow_pos (by omega))] at this
theorem bitL_dig : ∀ (n : Nat), n ≠ 0 → (bitL n : Int) = 16 * ((dig n).length - 1) + bitL ((dig n).getD ((dig n).length - 1) 0).toNat := by
  intro n
  induction n using Nat.strongRecOn with
  | ind n ih =>
    intro hn
    by_cases h : n / 65536 = 0
    · rw [dig_pos hn, h, dig_zero]
      have : n % 65536 = n := Nat.mod_eq_of_lt (by omega)
      simp [this]
    · have e := bitL_shift 16 n (by omega)
      have e2 := ih (n / 65536) (by omega) h
      have hl : 0 < (dig (n / 65536)).length := by
        cases hd : dig (n / 65536) with
        | nil => exact absurd (dig_nil.1 hd) h
        | cons a l => simp
      rw [dig_pos hn]
      simp only [List.length_cons]
      have e3 : ((((n % 65536 : Nat) : Int) :: dig (n / 65536)).getD ((dig (n / 65536)).length + 1 - 1) 0) = (dig (n / 65536)).getD ((dig (n / 65536)).length - 1) 0 := by
        obtain ⟨m, hm⟩ : ∃ m, (dig (n / 65536)).length = m + 1 := ⟨_, (Nat.sub_add_cancel hl).symm⟩
        rw [hm]; simp
      rw [e3, show (2 : Nat) ^ 16 = 65536 from rfl] at *
      omega
theorem len_ok (n : Int) (h0 : 0 ≤ n) (h1 : n ≤ 18446744073709551615) : AFunP Try.prog 78 [.int .u64 n] (· = .int .i64 (bitLen n)) := by
  refine afun_of Try.func78 Try.call78 rfl Try.ntmps78 rfl ?_
  have W : Walk Try.prog TT 78 _ := Walk.of TT_ok Try.func78 Try.results78
  (repeat' (first | (refine sp W 0 rfl rfl rfl (fun _ => ?_) (fun _ => ?_)) | (refine ce W 0 rfl rfl (len64_ok _ h0 h1) rfl ?_))) <;> (first | skip)
  all_goals refine rp W 0 rfl rfl rfl (.refl)
theorem natBits_ok (a : Nat) (ha : (dig a).length ≤ 100000000) : AFunP Try.prog 75 [.fi .i64 (dig a)] (· = .int .i64 (bitL a)) := by
  refine afun_of Try.func75 Try.call75 rfl Try.ntmps75 rfl ?_
  have W : Walk Try.prog TT 75 _ := Walk.of TT_ok Try.func75 Try.results75
  refine sp W 0 rfl rfl rfl (fun h => ?_) (fun h => ?_)
  · have : a = 0 := dig_nil.1 (List.eq_nil_of_length_eq_zero (by omega))
    subst this
    refine rp W 0 rfl rfl rfl (.int (by simp [bitL_zero]))
  have h0 : a ≠ 0 := by rintro rfl; simp [dig_zero] at h
  have g := (dig_dgs a).get (((dig a).length : Int) - 1).toNat
  have e1 : (((dig a).length : Int) - 1).toNat = (dig a).length - 1 := by omega
  have hb := bitLen_rng (n := (dig a).getD (((dig a).length : Int) - 1).toNat 0) (by omega)
  refine ce W 0 rfl rfl (len_ok ((dig a).getD (((dig a).length : Int) - 1).toNat 0) g.1 (by omega)) rfl ?_
  have hd := bitL_dig a h0
  refine rp W 0 rfl rfl rfl (.int (by rw [e1]; unfold bitLen; omega))

theorem bor_add {r : Nat} {a c : Int} (hr : r ≤ 62) (h0 : 0 ≤ a) (h1 : a < 2 ^ r) (h2 : 0 ≤ c) (h3 : 2 ^ r * c ≤ 4611686018427387903) : bor .i64 a (2 ^ r * c) = a + 2 ^ r * c ∧ bor .i64 (2 ^ r * c) a = a + 2 ^ r * c := by
  obtain ⟨m, rfl⟩ : ∃ m : Nat, a = m := ⟨a.toNat, by omega⟩
  obtain ⟨n, rfl⟩ : ∃ n : Nat, c = n := ⟨c.toNat, by omega⟩
  have e2 : (2 : Int) ^ r * n = ((2 ^ r * n : Nat) : Int) := by simp
  have h1' : m < 2 ^ r := by
    have : ((m : Nat) : Int) < ((2 ^ r : Nat) : Int) := by simpa using h1
    omega
  have h2r : (2 : Nat) ^ r ≤ 2 ^ 62 := Nat.pow_le_pow_right (by omega) hr
  rw [e2] at h3 ⊢
  have key : m ||| 2 ^ r * n = 2 ^ r * n + m := by rw [Nat.or_comm]; exact (Nat.two_pow_add_eq_or_of_lt h1' n).symm
  have key2 : 2 ^ r * n ||| m = 2 ^ r * n + m := (Nat.two_pow_add_eq_or_of_lt h1' n).symm
  have a1 : (BitVec.ofInt 64 (m : Int)).toNat = m := by rw [BitVec.toNat_ofInt]; omega
  have a2 : (BitVec.ofInt 64 ((2 ^ r * n : Nat) : Int)).toNat = 2 ^ r * n := by rw [BitVec.toNat_ofInt]; omega
  have e : bor .i64 (m : Int) ((2 ^ r * n : Nat) : Int) = IntKind.i64.wrap (((BitVec.ofInt 64 (m : Int) ||| BitVec.ofInt 64 ((2 ^ r * n : Nat) : Int)).toNat : Nat) : Int) := rfl
  have e' : bor .i64 ((2 ^ r * n : Nat) : Int) (m : Int) = IntKind.i64.wrap (((BitVec.ofInt 64 ((2 ^ r * n : Nat) : Int) ||| BitVec.ofInt 64 (m : Int)).toNat : Nat) : Int) := rfl
  rw [e, e', BitVec.toNat_or, BitVec.toNat_or, a1, a2, key, key2, wrap_id (k := .i64) rfl (by omega)]
  omega
theorem natShiftUp_ok (a k : Nat) (ha : (dig a).length ≤ 10000000) (hk : k ≤ 1000000) : AFunP Try.prog 74 [.fi .i64 (dig a), .int .i64 k] (· = .fi .i64 (dig (a * 2 ^ k))) := by
  refine afun_of Try.func74 Try.call74 rfl Try.ntmps74 rfl ?_
  have W : Walk Try.prog TT 74 _ := Walk.of TT_ok Try.func74 Try.results74
  refine sp W 0 rfl rfl rfl (fun h => ?_) (fun h => ?_)
  · omega
  have da := dig_dgs a
  have eL : ((k : Int) / 16 + (dig a).length + 1) = ((k / 16 + (dig a).length + 1 : Nat) : Int) := by omega
  refine lp W 0 (σ := Nat × List Int) (fun s => [(1, .int .i64 k), (9, .sl 0 0 0 (k / 16 + (dig a).length + 1)), (75, .fi .i64 (dig a)), (76, .int .i64 (dig a).length), (77, .int .i64 s.1)]) (fun s => [.ints 0 .i64 s.2]) (fun s => (dig a).length - s.1)
    (fun s => s.1 ≤ (dig a).length ∧ s.2.length = k / 16 + (dig a).length + 1 ∧ val s.2 = val ((dig a).take s.1) * 2 ^ (k % 16) * 65536 ^ (k / 16) ∧ (∀ j, 0 ≤ s.2.getD j 0 ∧ s.2.getD j 0 < 65536 ∧ (k / 16 + s.1 < j → s.2.getD j 0 = 0)) ∧ s.2.getD (k / 16 + s.1) 0 < 2 ^ (k % 16))
    (0, List.replicate (k / 16 + (dig a).length + 1) 0) [1, 9, 75, 76, 77] rfl (by rw [eL]; rfl) (by rw [eL]; rfl) ⟨Nat.zero_le _, by simp, by simp [val_replicate, val], fun j => ?_, ?_⟩ ?_ (hc := ?_)
  · have : (List.replicate (k / 16 + (dig a).length + 1) (0 : Int)).getD j 0 = 0 := by
      rw [List.getD_eq_getElem?_getD, List.getElem?_replicate]; split <;> rfl
    dsimp only; omega
  · have : (List.replicate (k / 16 + (dig a).length + 1) (0 : Int)).getD (k / 16) 0 = 0 := by
      rw [List.getD_eq_getElem?_getD, List.getElem?_replicate]; split <;> rfl
    rw [show k / 16 + 0 = k / 16 from rfl] at *; dsimp only; rw [this]; exact Int.pow_pos (by omega)
  · rintro ⟨i, l⟩ ⟨hi, hl, hv, hd, hc⟩ ih
    dsimp only at hi hl hv hd hc ih ⊢
    generalize hA : (dig a).length = A at *
    refine sp W 0 rfl rfl rfl (fun h1 => ?_) (fun h1 => ?_)
    · have h1 : i < A := by omega
      have gx := da.get i
      have hr : k % 16 < 16 := Nat.mod_lt _ (by omega)
      obtain ⟨r1, r2, r3, r4, r5⟩ := (by decide : ∀ r, r < 16 → (1 : Int) ≤ 2 ^ r ∧ (2 : Int) ^ r ≤ 32768 ∧ (2 : Int) ^ r * 2 ^ (16 - r) = 65536 ∧ (1 : Int) ≤ 2 ^ (16 - r) ∧ r ≤ 62) (k % 16) hr
      have eq1 : ((k : Int) / 16 + i).toNat = k / 16 + i := by omega
      have eq2 : ((k : Int) / 16 + i + 1).toNat = k / 16 + i + 1 := by omega
      have eq3 : ((k : Int) % 16).toNat = k % 16 := by omega
      have g1 := hd (k / 16 + i)
      have g2 := (hd (k / 16 + i + 1)).2.2 (by omega)
      generalize hdd : (dig a).getD i 0 = d at *
      have n0 : 0 ≤ d * 2 ^ (k % 16) := Int.mul_nonneg gx.1 (by omega)
      have n1 : d * 2 ^ (k % 16) ≤ 65535 * 32768 := Int.mul_le_mul (by omega) r2 (by omega) (by omega)
      have eb : band .i64 (d * 2 ^ (k % 16)) 65535 = 2 ^ (k % 16) * (d % 2 ^ (16 - k % 16)) := by
        rw [band_low n0 (by omega), Int.mul_comm, ← r3, Int.mul_emod_mul_of_pos _ _ (by omega)]
      have ed : d * 2 ^ (k % 16) / 65536 = d / 2 ^ (16 - k % 16) := by
        rw [Int.mul_comm, ← r3, Int.mul_ediv_mul_of_pos _ _ (by omega)]
      have m0 := Int.emod_nonneg d (b := 2 ^ (16 - k % 16)) (by omega)
      have m1 := Int.emod_lt_of_pos d (b := 2 ^ (16 - k % 16)) (by omega)
      have m2 := Int.mul_ediv_add_emod d (2 ^ (16 - k % 16))
      have m3 : 0 ≤ d / 2 ^ (16 - k % 16) := Int.ediv_nonneg gx.1 (by omega)
      have m4 : d / 2 ^ (16 - k % 16) < 2 ^ (k % 16) := Int.ediv_lt_of_lt_mul (by omega) (by rw [r3]; exact gx.2)
      have m5 : 2 ^ (k % 16) * (d % 2 ^ (16 - k % 16)) ≤ 65536 - 2 ^ (k % 16) := by
        have : 2 ^ (k % 16) * (d % 2 ^ (16 - k % 16)) ≤ 2 ^ (k % 16) * (2 ^ (16 - k % 16) - 1) := Int.mul_le_mul_of_nonneg_left (by omega) (by omega)
        rw [Int.mul_sub, r3] at this
        omega
      have m6 : 0 ≤ 2 ^ (k % 16) * (d % 2 ^ (16 - k % 16)) := Int.mul_nonneg (by omega) m0
      have eo := (bor_add r5 g1.1 hc m0 (by omega)).1
      have nx := ih (i + 1, (l.set (k / 16 + i) (bor .i64 (l.getD (k / 16 + i) 0) (band .i64 (d * 2 ^ (k % 16)) 65535))).set (k / 16 + i + 1) (d * 2 ^ (k % 16) / 2 ^ 16)) ⟨by dsimp only; omega, by simpa using hl, ?_, fun j => ?_, ?_⟩ (by dsimp only; omega)
      · refine bk W 2 [1, 9, 75, 76, 77] rfl rfl (by rw [← hdd] at nx; exact nx) (hc := ?_)
        simp only [AllC, eq1, eq2, eq3, hdd, addN, Int.toNat_natCast, true_and, List.length_set]
        have : (IntKind.i64.bits : Int) = 64 := rfl
        omega
      · dsimp only
        have g3 : (l.set (k / 16 + i) (bor .i64 (l.getD (k / 16 + i) 0) (band .i64 (d * 2 ^ (k % 16)) 65535))).getD (k / 16 + i + 1) 0 = 0 := by rw [getD_set _ _ _ _ (by omega), if_neg (by omega), g2]
        rw [val_set _ _ _ (by simp; omega), g3, val_set _ _ _ (by omega), eb, eo, hv, val_take_succ (show i < (dig a).length by omega), hdd, pw16, ed]
        have e2 : d * 2 ^ (k % 16) = 65536 * (d / 2 ^ (16 - k % 16)) + 2 ^ (k % 16) * (d % 2 ^ (16 - k % 16)) := by
          conv => lhs; rw [← m2]
          rw [Int.add_mul, Int.mul_comm (2 ^ (16 - k % 16)) _, Int.mul_assoc, Int.mul_comm (2 ^ (16 - k % 16)), r3]
          rw [Int.mul_comm _ 65536, Int.mul_comm (d % _)]
        have e3 : (val (List.take i (dig a)) + 65536 ^ i * d) * 2 ^ (k % 16) * 65536 ^ (k / 16) = val (List.take i (dig a)) * 2 ^ (k % 16) * 65536 ^ (k / 16) + 65536 ^ (k / 16 + i) * (d * 2 ^ (k % 16)) := by
          rw [Int.add_mul, Int.add_mul, Int.pow_add]
          congr 1
          simp only [Int.mul_assoc, Int.mul_comm, Int.mul_left_comm]
        rw [e3, e2, Int.pow_succ, Int.mul_add]
        generalize 2 ^ (k % 16) * (d % 2 ^ (16 - k % 16)) = y at *
        generalize d / 2 ^ (16 - k % 16) = z at *
        rw [show l.getD (k / 16 + i) 0 + y - l.getD (k / 16 + i) 0 = y by omega, show z - 0 = z by omega, Int.mul_assoc (65536 ^ (k / 16 + i)) 65536 z]
        omega
      · dsimp only
        rw [getD_set _ _ _ _ (by simp; omega), pw16, ed, eb, eo]
        have := hd j
        split
        · omega
        · rw [getD_set _ _ _ _ (by omega)]
          split <;> omega
      · dsimp only
        rw [show k / 16 + (i + 1) = k / 16 + i + 1 by omega, getD_set _ _ _ _ (by simp; omega), if_pos rfl, pw16, ed]
        exact m4
    · have hiA : i = A := by omega
      subst hiA
      rw [show (dig a).take i = dig a from List.take_of_length_le (by omega), val_dig] at hv
      have dm : Dgs l := dgs_of_getD fun j hj => by have := hd j; omega
      refine cf W 0 [0] [] rfl rfl rfl rfl rfl rfl (trim_ok l (by omega)) rfl ?_
      refine rp W 0 rfl rfl rfl (.fi ?_)
      rw [trimL_dig dm, hv]
      have e : ((a : Int) * 2 ^ (k % 16) * 65536 ^ (k / 16)) = ((a * 2 ^ k : Nat) : Int) := by
        rw [show (65536 : Int) = 2 ^ 16 from rfl, ← Int.pow_mul, Int.mul_assoc, ← Int.pow_add, show k % 16 + 16 * (k / 16) = k by omega]
        simp
      rw [e, Int.toNat_natCast]
  · simp only [AllC, true_and]
    omega

/-- Digits shifted down, each with what comes from the next. -/
def shr (r : Nat) : List Int → List Int
  | [] => []
  | d :: l => (d / 2 ^ r + l.getD 0 0 * 2 ^ (16 - r) % 65536) :: shr r l
theorem shr_len (r : Nat) : ∀ l, (shr r l).length = l.length
  | [] => rfl
  | d :: l => by simp [shr, shr_len r l]
theorem shr_get (r : Nat) : ∀ (l : List Int) (i : Nat), i < l.length → (shr r l).getD i 0 = l.getD i 0 / 2 ^ r + l.getD (i + 1) 0 * 2 ^ (16 - r) % 65536
  | [], i, h => by simp at h
  | d :: l, 0, h => by simp [shr]
  | d :: l, i + 1, h => by simpa [shr] using shr_get r l i (by simpa using h)
theorem shr_ok {r : Nat} (hr : r < 16) : ∀ {l : List Int}, Dgs l → Dgs (shr r l) ∧ val (shr r l) = val l / 2 ^ r
  | [], h => ⟨Dgs.nil, by simp [shr, val]⟩
  | d :: l, h => by
    obtain ⟨r1, r2, r3, r4, r5⟩ := (by decide : ∀ r, r < 16 → (1 : Int) ≤ 2 ^ r ∧ (2 : Int) ^ r ≤ 32768 ∧ (2 : Int) ^ r * 2 ^ (16 - r) = 65536 ∧ (1 : Int) ≤ 2 ^ (16 - r) ∧ r ≤ 62) r hr
    obtain ⟨i1, i2⟩ := shr_ok hr h.tail
    have hd := h.head
    have hv : val l = l.getD 0 0 + 65536 * val l.tail := by cases l <;> simp [val]
    have g0 := h.tail.get 0
    generalize hee : l.getD 0 0 = e at *
    have em : e * 2 ^ (16 - r) % 65536 = 2 ^ (16 - r) * (e % 2 ^ r) := by
      rw [Int.mul_comm, ← r3, Int.mul_comm (2 ^ r) (2 ^ (16 - r)), Int.mul_emod_mul_of_pos _ _ (by omega)]
    have m0 := Int.emod_nonneg e (b := 2 ^ r) (by omega)
    have m1 := Int.emod_lt_of_pos e (b := 2 ^ r) (by omega)
    have d0 : 0 ≤ d / 2 ^ r := Int.ediv_nonneg hd.1 (by omega)
    have d1 : d / 2 ^ r < 2 ^ (16 - r) := Int.ediv_lt_of_lt_mul (by omega) (by rw [Int.mul_comm, r3]; exact hd.2)
    have m5 : 2 ^ (16 - r) * (e % 2 ^ r) ≤ 65536 - 2 ^ (16 - r) := by
      have : 2 ^ (16 - r) * (e % 2 ^ r) ≤ 2 ^ (16 - r) * (2 ^ r - 1) := Int.mul_le_mul_of_nonneg_left (by omega) (by omega)
      rw [Int.mul_sub, Int.mul_comm (2 ^ (16 - r)) (2 ^ r), r3] at this
      omega
    have m6 : 0 ≤ 2 ^ (16 - r) * (e % 2 ^ r) := Int.mul_nonneg (by omega) m0
    refine ⟨?_, ?_⟩
    · simp only [shr, hee]
      exact i1.cons (by rw [em]; omega) (by rw [em]; omega)
    · simp only [shr, hee, val, i2]
      have e1 : (d + 65536 * val l) / 2 ^ r = d / 2 ^ r + 2 ^ (16 - r) * val l := by
        rw [← r3, Int.mul_assoc, Int.add_mul_ediv_left _ _ (by omega)]
      have e2 : val l % 2 ^ r = e % 2 ^ r := by
        rw [hv, ← r3, Int.mul_assoc, Int.add_mul_emod_self_left]
      have e3 := Int.mul_ediv_add_emod (val l) (2 ^ r)
      have e4 : 2 ^ (16 - r) * val l = 65536 * (val l / 2 ^ r) + 2 ^ (16 - r) * (e % 2 ^ r) := by
        conv => lhs; rw [← e3, e2, Int.mul_add, ← Int.mul_assoc, Int.mul_comm (2 ^ (16 - r)) (2 ^ r), r3]
      rw [e1, e4, em]; omega
theorem val_drop {a : Nat} {q : Nat} : val ((dig a).drop q) = (a : Int) / 65536 ^ q := by
  induction q generalizing a with
  | zero => simp [val_dig]
  | succ q ih =>
    by_cases h : a = 0
    · subst h; simp [dig_zero, val]
    · rw [dig_pos h, List.drop_succ_cons, ih, Int.pow_succ, Int.mul_comm, ← Int.ediv_ediv_of_nonneg (by omega)]
      simp
theorem natShiftDown_ok (a k : Nat) (ha : (dig a).length ≤ 10000000) (hk : 0 < k) (hk2 : k ≤ 1000000) : AFunP Try.prog 74 [.fi .i64 (dig a), .int .i64 (-(k : Int))] (· = .fi .i64 (dig (a / 2 ^ k))) := by
  refine afun_of Try.func74 Try.call74 rfl Try.ntmps74 rfl ?_
  have W : Walk Try.prog TT 74 _ := Walk.of TT_ok Try.func74 Try.results74
  have da := dig_dgs a
  refine sp W 0 rfl rfl rfl (fun h => ?_) (fun h => ?_)
  case refine_2 => omega
  have nn : - -(k : Int) = k := Int.neg_neg _
  have hlt := (dig_len_le (n := a) (k := (dig a).length)).1 (Nat.le_refl _)
  refine sp W 0 rfl rfl rfl (fun h2 => ?_) (fun h2 => ?_)
  · rw [nn] at h2
    refine rp W 0 rfl rfl rfl (.trans .nils_fi (.fi ?_))
    have : a / 2 ^ k = 0 := by
      refine Nat.div_eq_of_lt (Nat.lt_of_lt_of_le hlt ?_)
      rw [show (65536 : Nat) = 2 ^ 16 from rfl, ← Nat.pow_mul]
      exact Nat.pow_le_pow_right (by omega) (by omega)
    rw [this, dig_zero]
  rw [nn] at h2
  refine cn W 0 rfl rfl rfl (cloneS_new ((dig a).drop (- -(k : Int) / 16).toNat) (by simp; omega)) ?_
  rintro _ _ ⟨rfl, rfl⟩
  refine ⟨_, _, rfl, rfl, ?_⟩
  generalize hQ : - -(k : Int) / 16 = Q at *
  generalize hR : - -(k : Int) % 16 = S at *
  rw [nn] at hQ hR
  obtain rfl : Q = ((k / 16 : Nat) : Int) := by omega
  obtain rfl : S = ((k % 16 : Nat) : Int) := by omega
  clear hQ hR
  have hr : k % 16 < 16 := Nat.mod_lt _ (by omega)
  generalize hq : k / 16 = q at *
  generalize hrr : k % 16 = r at *
  simp only [Int.toNat_natCast]
  have hD : Dgs ((dig a).drop q) := da.drop q
  have hDl : ((dig a).drop q).length = (dig a).length - q := List.length_drop
  have hDg : ∀ j, ((dig a).drop q).getD j 0 = (dig a).getD (q + j) 0 := fun j => by simp [List.getD_eq_getElem?_getD]
  obtain ⟨s1, s2⟩ := shr_ok hr hD
  rw [val_drop] at s2
  generalize hDD : (dig a).drop q = D at *
  refine lp W 0 (σ := Nat × List Int) (fun s => [(0, .fi .i64 (dig a)), (5, .int .i64 q), (6, .int .i64 r), (7, .sl 0 0 0 D.length), (30, .int .i64 D.length), (31, .int .i64 s.1)]) (fun s => [.ints 0 .i64 s.2]) (fun s => D.length - s.1)
    (fun s => s.1 ≤ D.length ∧ s.2.length = D.length ∧ (∀ j, j < s.1 → s.2.getD j 0 = (shr r D).getD j 0) ∧ ∀ j, s.1 ≤ j → s.2.getD j 0 = D.getD j 0)
    (0, D) [0, 5, 6, 7, 30, 31] rfl rfl rfl ⟨Nat.zero_le _, rfl, fun j hj => by omega, fun j _ => rfl⟩ ?_
  rintro ⟨i, l⟩ ⟨hi, hl, hd1, hd2⟩ ih
  dsimp only at hi hl hd1 hd2 ih ⊢
  refine sp W 0 rfl rfl rfl (fun h3 => ?_) (fun h3 => ?_)
  · have h3 : i < D.length := by omega
    have g1 := hD.get i
    have g2 := hD.get (i + 1)
    have hbits : (IntKind.i64.bits : Int) = 64 := rfl
    have eq1 : ((q : Int) + i + 1).toNat = q + i + 1 := by omega
    have eq2 : ((16 : Int) - r).toNat = 16 - r := by omega
    obtain ⟨r1, r2, r3, r4, r5⟩ := (by decide : ∀ r, r < 16 → (1 : Int) ≤ 2 ^ r ∧ (2 : Int) ^ (16 - r) ≤ 65536 ∧ (2 : Int) ^ r * 2 ^ (16 - r) = 65536 ∧ (1 : Int) ≤ 2 ^ (16 - r) ∧ 16 - r ≤ 62) r hr
    have gi : l.getD i 0 = D.getD i 0 := hd2 i (Nat.le_refl _)
    have ge : (dig a).getD (q + i + 1) 0 = D.getD (i + 1) 0 := (hDg (i + 1)).symm
    have gs := shr_get r D i h3
    have d0 : 0 ≤ D.getD i 0 / 2 ^ r := Int.ediv_nonneg g1.1 (by omega)
    have d1 : D.getD i 0 / 2 ^ r < 2 ^ (16 - r) := Int.ediv_lt_of_lt_mul (by omega) (by rw [Int.mul_comm, r3]; exact g1.2)
    refine sp W 2 rfl rfl rfl (fun h4 => ?_) (fun h4 => ?_)
    · have n0 : 0 ≤ D.getD (i + 1) 0 * 2 ^ (16 - r) := Int.mul_nonneg g2.1 (by omega)
      have n1 : D.getD (i + 1) 0 * 2 ^ (16 - r) ≤ 65535 * 65536 := Int.mul_le_mul (by omega) r2 (by omega) (by omega)
      have eb : band .i64 (D.getD (i + 1) 0 * 2 ^ (16 - r)) 65535 = D.getD (i + 1) 0 * 2 ^ (16 - r) % 65536 := band_low n0 (by omega)
      have em : D.getD (i + 1) 0 * 2 ^ (16 - r) % 65536 = 2 ^ (16 - r) * (D.getD (i + 1) 0 % 2 ^ r) := by
        rw [Int.mul_comm, ← r3, Int.mul_comm (2 ^ r) (2 ^ (16 - r)), Int.mul_emod_mul_of_pos _ _ (by omega)]
      have m0 := Int.emod_nonneg (D.getD (i + 1) 0) (b := 2 ^ r) (by omega)
      have eo := (bor_add (r := 16 - r) r5 d0 d1 m0 (by rw [← em]; omega)).1
      have gset : (l.set i (D.getD i 0 / 2 ^ r)).getD i 0 = D.getD i 0 / 2 ^ r := by rw [getD_set _ _ _ _ (by omega), if_pos rfl]
      refine dre W 2 15 [] [] rfl rfl rfl trivial rfl ?_ (hp := ?_)
      · have nx := ih (i + 1, (l.set i (l.getD i 0 / 2 ^ r)).set i (bor .i64 ((l.set i (l.getD i 0 / 2 ^ r)).getD i 0) (band .i64 ((dig a).getD ((q : Int) + i + 1).toNat 0 * 2 ^ ((16 : Int) - r).toNat) 65535))) ⟨by dsimp only; omega, by simpa using hl, fun j hj => ?_, fun j hj => ?_⟩ (by dsimp only; omega)
        · refine bk W 2 [0, 5, 6, 7, 30, 31] rfl rfl nx (hc := ?_)
          simp only [AllC, eq1, eq2, addN, Int.toNat_natCast, true_and, List.length_set]
          omega
        · dsimp only at hj ⊢
          rw [getD_set _ _ _ _ (by simp; omega)]
          split
          · rename_i hji
            rw [gi, gset, eq1, eq2, ge, eb, em, eo, hji, gs, em]
          · rw [getD_set _ _ _ _ (by omega), if_neg (by assumption)]; exact hd1 j (by omega)
        · dsimp only at hj ⊢
          rw [getD_set _ _ _ _ (by simp; omega), if_neg (by omega), getD_set _ _ _ _ (by omega), if_neg (by omega)]; exact hd2 j (by omega)
      · simp only [AllP, Option.getD, eq1, eq2, addN, Int.toNat_natCast, true_and, and_true, List.length_set, ge]
        omega
    · have g0 : D.getD (i + 1) 0 = 0 := getD_over (by omega)
      have nx := ih (i + 1, l.set i (l.getD i 0 / 2 ^ r)) ⟨by dsimp only; omega, by simpa using hl, fun j hj => ?_, fun j hj => ?_⟩ (by dsimp only; omega)
      · exact bk W 2 [0, 5, 6, 7, 30, 31] rfl rfl nx
      · dsimp only at hj ⊢
        rw [getD_set _ _ _ _ (by omega)]
        split
        · rename_i hji
          rw [gi, hji, gs, g0]; simp
        · exact hd1 j (by omega)
      · dsimp only at hj ⊢
        rw [getD_set _ _ _ _ (by omega), if_neg (by omega)]; exact hd2 j (by omega)
  · have hiD : i = D.length := by omega
    subst hiD
    have e : l = shr r D := by
      refine List.ext_getElem (by rw [shr_len, hl]) fun j q1 q2 => ?_
      have := hd1 j (by omega)
      simpa [List.getD_eq_getElem?_getD, q1, q2] using this
    subst e
    refine cf W 0 [0] [] rfl rfl rfl rfl rfl rfl (trim_ok (shr r D) (by rw [shr_len]; omega)) rfl ?_
    refine rp W 0 rfl rfl rfl (.fi ?_)
    rw [trimL_dig s1, s2]
    congr 1
    have e1 : (a : Int) / 65536 ^ q / 2 ^ r = ((a / 2 ^ k : Nat) : Int) := by
      rw [Int.ediv_ediv_of_nonneg (by exact Int.pow_nonneg (by omega)), show (65536 : Int) = 2 ^ 16 from rfl, ← Int.pow_mul, ← Int.pow_add, show 16 * q + r = k by omega]
      simp
    rw [e1, Int.toNat_natCast]
end Pf
/- Whole numbers: guesses of a quotient's digit. -/
namespace Pf
open Go Go.Proofs

/-- A number w = w0 + P X by a number B = v0 + P Y. -/
structure Gs (P X Y w B : Int) : Prop where
  p : 0 < P
  w0 : P * X ≤ w
  w1 : w < P * (X + 1)
  b0 : P * Y ≤ B
  b1 : B < P * (Y + 1)
theorem Gs.over {P X Y w B : Int} (h : Gs P X Y w B) {q : Int} (hq : 0 ≤ q) (hx : X + 1 ≤ q * Y) : w < q * B := by
  have h1 := Int.mul_le_mul_of_nonneg_left hx (Int.le_of_lt h.p)
  have h2 := Int.mul_le_mul_of_nonneg_left h.b0 hq
  have e : q * (P * Y) = P * (q * Y) := by rw [← Int.mul_assoc, Int.mul_comm q P, Int.mul_assoc]
  have := h.w1
  omega
theorem Gs.under {P X Y w B : Int} (h : Gs P X Y w B) {q : Int} (hq : 0 ≤ q) (hx : q * (Y + 1) ≤ X) : q * B ≤ w := by
  have h1 := Int.mul_le_mul_of_nonneg_left hx (Int.le_of_lt h.p)
  have h2 := Int.mul_le_mul_of_nonneg_left (Int.le_of_lt h.b1) hq
  have e : q * (P * (Y + 1)) = P * (q * (Y + 1)) := by rw [← Int.mul_assoc, Int.mul_comm q P, Int.mul_assoc]
  have := h.w0
  omega
theorem Gs.top {P X Y w B : Int} (h : Gs P X Y w B) (hw : w < 65536 * B) : X < 65536 * (Y + 1) := by
  rcases Int.lt_or_le X (65536 * (Y + 1)) with h1 | h1
  · exact h1
  · have h2 := Int.mul_le_mul_of_nonneg_left h1 (Int.le_of_lt h.p)
    have e : P * (65536 * (Y + 1)) = 65536 * (P * (Y + 1)) := by rw [← Int.mul_assoc, Int.mul_comm P 65536, Int.mul_assoc]
    have := h.w0; have := h.b1
    omega
/-- What the guesses keep: T the two highest digits, x the third; v, z the highest digits of the divisor. -/
structure Gd (T x v z w B Q : Int) : Prop where
  g : ∃ P, Gs P (65536 * T + x) (65536 * v + z) w B
  x0 : 0 ≤ x
  x1 : x < 65536
  v0 : 32768 ≤ v
  v1 : v < 65536
  z0 : 0 ≤ z
  z1 : z < 65536
  t0 : 0 ≤ T
  w1 : w < 65536 * B
  q0 : 0 ≤ Q
  qw : Q * B ≤ w
  wq : w < (Q + 1) * B
theorem Gd.bpos {T x v z w B Q : Int} (h : Gd T x v z w B Q) : 0 < B := by
  rcases Int.lt_or_le 0 B with h1 | h1
  · exact h1
  · have := h.wq; have := h.qw; rw [Int.add_mul] at *; omega
theorem Gd.t1 {T x v z w B Q : Int} (h : Gd T x v z w B Q) : T ≤ 65536 * v + z := by
  obtain ⟨P, g⟩ := h.g
  have := g.top h.w1; have := h.x0; omega
theorem Gd.lt {T x v z w B Q q : Int} (h : Gd T x v z w B Q) (hq : w < q * B) : Q + 1 ≤ q := by
  rcases Int.lt_or_le Q q with h1 | h1
  · omega
  · have := Int.mul_le_mul_of_nonneg_right h1 (Int.le_of_lt h.bpos)
    have := h.qw; omega
theorem Gd.q1 {T x v z w B Q : Int} (h : Gd T x v z w B Q) : Q + 1 ≤ 65536 := h.lt h.w1
theorem Gd.first {T x v z w B Q : Int} (h : Gd T x v z w B Q) : Q ≤ T / v ∧ T / v ≤ 65537 ∧ 0 ≤ T % v ∧ T % v < 65536 ∧ T / v * v + T % v = T := by
  obtain ⟨P, g⟩ := h.g
  have hv : 0 < v := by have := h.v0; omega
  refine ⟨?_, ?_, Int.emod_nonneg _ (by omega), by have := Int.emod_lt_of_pos T hv; have := h.v1; omega, by rw [Int.mul_comm]; exact Int.mul_ediv_add_emod T v⟩
  · refine (Int.le_ediv_iff_mul_le hv).2 ?_
    rcases Int.lt_or_le T (Q * v) with h1 | h1
    · have h2 := g.over h.q0 (by
        have e : Q * (65536 * v + z) = 65536 * (Q * v) + Q * z := by rw [Int.mul_add]; congr 1; rw [← Int.mul_assoc, Int.mul_comm Q, Int.mul_assoc]
        have := Int.mul_nonneg h.q0 h.z0
        have := h.x1; omega)
      have := h.qw; omega
    · exact h1
  · have h2 : T / v < 65538 := Int.ediv_lt_of_lt_mul hv (by have := h.t1; have := h.z1; have := h.v0; omega)
    omega
theorem Gd.less {T x v z w B Q q r : Int} (h : Gd T x v z w B Q) (he : q * v + r = T) (hq : Q ≤ q) (hx : 65536 ≤ q ∨ 65536 * r + x < q * z) : Q ≤ q - 1 := by
  rcases hx with hx | hx
  · have := h.q1; omega
  · obtain ⟨P, g⟩ := h.g
    have h2 := g.over (q := q) (by have := h.q0; omega) (by
      have e : q * (65536 * v + z) = 65536 * (q * v) + q * z := by rw [Int.mul_add]; congr 1; rw [← Int.mul_assoc, Int.mul_comm q, Int.mul_assoc]
      omega)
    have := h.lt h2; omega
theorem Gd.done {T x v z w B Q q r : Int} (h : Gd T x v z w B Q) (he : q * v + r = T) (hq : Q ≤ q) (h1 : q < 65536) (hx : q * z ≤ 65536 * r + x) : q ≤ Q + 1 := by
  rcases Int.lt_or_le q 1 with h0 | h0
  · have := h.q0; omega
  obtain ⟨P, g⟩ := h.g
  have h2 := g.under (q := q - 1) (by omega) (by
    have e : q * (65536 * v + z) = 65536 * (q * v) + q * z := by rw [Int.mul_add]; congr 1; rw [← Int.mul_assoc, Int.mul_comm q, Int.mul_assoc]
    rw [Int.sub_mul, Int.mul_add q, e]
    have := h.v0; have := h.z0
    omega)
  rcases Int.lt_or_le (Q + 1) q with h3 | h3
  · have h4 : (Q + 1) * B ≤ (q - 1) * B := Int.mul_le_mul_of_nonneg_right (by omega) (Int.le_of_lt h.bpos)
    have := h.wq; omega
  · exact h3
/-- A guess whose rest is past the base. -/
theorem Gd.past {T x v z w B Q q r : Int} (h : Gd T x v z w B Q) (he : q * v + r = T) (hq : Q ≤ q) (hr : 65536 ≤ r) : q < 65536 ∧ q * z ≤ 65536 * r + x := by
  have hv := h.v0
  have h1 : q < 65536 := by
    rcases Int.lt_or_le q 65536 with h1 | h1
    · exact h1
    · have h2 : 65536 * v ≤ q * v := Int.mul_le_mul_of_nonneg_right h1 (by omega)
      have := h.t1; have := h.z1; omega
  refine ⟨h1, ?_⟩
  have h2 : q * z ≤ 65535 * 65535 := Int.mul_le_mul (by omega) (by have := h.z1; omega) h.z0 (by omega)
  have := h.x0; omega
theorem getD_drop {l : List Int} {n j : Nat} : (l.drop n).getD j 0 = l.getD (n + j) 0 := by
  simp [List.getD_eq_getElem?_getD]
theorem lt_pow_mul {k : Nat} {x y c : Int} (hc : 0 ≤ c) (h : c + 65536 ^ k * x < 65536 ^ k * y) : x < y := by
  rcases Int.lt_or_le x y with h1 | h1
  · exact h1
  · have := Int.mul_le_mul_of_nonneg_left h1 (show (0 : Int) ≤ 65536 ^ k from Int.pow_nonneg (by omega))
    omega
theorem Gd.of {V u : List Int} {p j : Nat} (dV : Dgs V) (hV : V.length = p + 2) (hv : 32768 ≤ V.getD (p + 1) 0) (du : Dgs u) (hj : j + (p + 2) < u.length) (hu : val u < 65536 ^ (j + 1) * val V) :
    val u = val (u.take j) + 65536 ^ j * val (u.drop j) ∧ val (u.drop (j + (p + 3))) = 0 ∧
    Gd (65536 * u.getD (j + (p + 2)) 0 + u.getD (j + (p + 1)) 0) (u.getD (j + p) 0) (V.getD (p + 1) 0) (V.getD p 0) (val (u.drop j)) (val V) (val (u.drop j) / val V) := by
  have hs := val_split u j (by omega)
  have l0 := val_nonneg (du.take j)
  have hW := val_nonneg (du.drop j)
  have dW := du.drop j
  have hwl : val (u.drop j) < 65536 * val V := by
    refine lt_pow_mul (k := j) l0 ?_
    rw [← hs, ← Int.mul_assoc, ← Int.pow_succ]; exact hu
  have V1 : val V = val (V.take p) + 65536 ^ p * (65536 * V.getD (p + 1) 0 + V.getD p 0) := by
    have h1 := val_take_succ (l := V) (k := p + 1) (by omega)
    have h2 := val_take_succ (l := V) (k := p) (by omega)
    rw [List.take_of_length_le (by omega)] at h1
    rw [h1, h2, Int.pow_succ, Int.mul_add, ← Int.mul_assoc]; omega
  have V2 := val_lt (dV.take p)
  rw [show (V.take p).length = p by simp; omega] at V2
  have V3 := val_nonneg (dV.take p)
  have gv0 := dV.get p
  have gv1 := dV.get (p + 1)
  have u0 := du.get (j + p)
  have u1 := du.get (j + (p + 1))
  have u2 := du.get (j + (p + 2))
  have hP : (0 : Int) < 65536 ^ p := Int.pow_pos (by omega)
  have Vp : 0 < val V := by
    have : 0 < (65536 : Int) ^ p * (65536 * V.getD (p + 1) 0 + V.getD p 0) := Int.mul_pos hP (by omega)
    omega
  have Vlt := val_lt dV
  rw [hV] at Vlt
  have top0 : val (u.drop (j + (p + 3))) = 0 := by
    have h1 := val_split (u.drop j) (p + 3) (by simp; omega)
    rw [List.drop_drop] at h1
    have h2 := val_nonneg (dW.take (p + 3))
    have h3 := val_nonneg (du.drop (j + (p + 3)))
    have h4 : val (u.drop (j + (p + 3))) < 1 := by
      refine lt_pow_mul (k := p + 3) h2 ?_
      rw [← h1, Int.mul_one, Int.pow_succ]; omega
    omega
  have W1 : val (u.drop j) = val ((u.drop j).take p) + 65536 ^ p * (65536 * (65536 * u.getD (j + (p + 2)) 0 + u.getD (j + (p + 1)) 0) + u.getD (j + p) 0) := by
    have h0 := val_split (u.drop j) (p + 3) (by simp; omega)
    rw [List.drop_drop, top0] at h0
    have h1 : val ((u.drop j).take (p + 3)) = val ((u.drop j).take (p + 2)) + 65536 ^ (p + 2) * (u.drop j).getD (p + 2) 0 := val_take_succ (by simp; omega)
    have h2 : val ((u.drop j).take (p + 2)) = val ((u.drop j).take (p + 1)) + 65536 ^ (p + 1) * (u.drop j).getD (p + 1) 0 := val_take_succ (by simp; omega)
    have h3 := val_take_succ (l := u.drop j) (k := p) (by simp; omega)
    simp only [getD_drop] at h1 h2 h3
    have e2 : (65536 : Int) ^ (p + 1) = 65536 ^ p * 65536 := Int.pow_succ ..
    have e3 : (65536 : Int) ^ (p + 2) = 65536 ^ p * 65536 * 65536 := by rw [Int.pow_succ, e2]
    rw [h0, h1, h2, h3, Int.mul_zero, e3, e2]
    simp only [Int.mul_add, Int.mul_assoc]
    omega
  have W2 := val_lt (dW.take p)
  rw [show ((u.drop j).take p).length = p by simp; omega] at W2
  have W3 := val_nonneg (dW.take p)
  refine ⟨hs, top0, ⟨⟨65536 ^ p, ⟨hP, by omega, by rw [Int.mul_add, Int.mul_one]; omega, by omega, by rw [Int.mul_add, Int.mul_one]; omega⟩⟩, u0.1, u0.2, hv, gv1.2, gv0.1, gv0.2, by omega, hwl, Int.ediv_nonneg hW (by omega), Int.ediv_mul_le _ (by omega), Int.lt_ediv_add_one_mul_self _ Vp⟩⟩

end Pf
/- Whole numbers: quotients. -/
namespace Pf
open Go Go.Proofs

theorem addN0 (k : Nat) : addN 0 k = k := by simp [addN]
theorem Dgs.set {l : List Int} (h : Dgs l) {k : Nat} {x : Int} (x0 : 0 ≤ x) (x1 : x < 65536) : Dgs (l.set k x) := fun d hd => by
  rcases List.mem_or_eq_of_mem_set hd with h1 | h1
  · exact h d h1
  · subst h1; exact ⟨x0, x1⟩
/-- A rest that is met in several places: it is told by its first use. -/
structure Later (X : Prop) : Prop where
  get : X
theorem cutK {X G : Prop} (main : Later X → G) (k : X) : G := main ⟨k⟩
theorem divmod {a b : Nat} {x y : Int} (h : x * b + y = a) (y0 : 0 ≤ y) (y1 : y < b) : x = ((a / b : Nat) : Int) ∧ y = ((a % b : Nat) : Int) := by
  have e1 : (a : Int) / b = x := by
    rw [← h, Int.add_comm, Int.add_mul_ediv_right _ _ (by omega), Int.ediv_eq_zero_of_lt y0 y1]; omega
  have e2 : (a : Int) % b = y := by
    rw [← h, Int.add_comm, Int.add_mul_emod_self_right, Int.emod_eq_of_lt y0 y1]
  exact ⟨by rw [← e1]; simp, by rw [← e2]; simp⟩
theorem natDiv_ok (a b : Nat) (hb : b ≠ 0) (ha : (dig a).length ≤ 1000000) (hbl : (dig b).length ≤ 1000000) : AFunP Try.prog 53 [.fi .i64 (dig a), .fi .i64 (dig b)] (· = .tup [.fi .i64 (dig (a / b)), .fi .i64 (dig (a % b))]) := by
  refine afun_of Try.func53 Try.call53 rfl Try.ntmps53 rfl ?_
  have W : Walk Try.prog TT 53 _ := Walk.of TT_ok Try.func53 Try.results53
  have da := dig_dgs a
  have db := dig_dgs b
  refine ce W 0 rfl rfl (natCmp_ok a b (by omega) (by omega)) rfl ?_
  refine sp W 0 rfl rfl rfl (fun h1 => ?_) (fun h1 => ?_)
  · have : a < b := by unfold sgn at h1; omega
    refine rp W 0 rfl rfl rfl (.tup ⟨.trans .nils_fi (.fi (by rw [Nat.div_eq_of_lt this, dig_zero])), .fi (by rw [Nat.mod_eq_of_lt this]), trivial⟩)
  have hab : b ≤ a := by unfold sgn at h1; omega
  have hlen := dig_len_mono hab
  have hlb : 0 < (dig b).length := by
    cases hd : dig b with
    | nil => exact absurd (dig_nil.1 hd) hb
    | cons x l => simp
  refine sp W 0 rfl rfl rfl (fun h2 => ?_) (fun h2 => ?_)
  · have gb := db.get 0
    have eb : (dig b).getD 0 0 = b := by
      have := val_dig b
      rw [val_split (dig b) 1 (by omega), val_take_succ (k := 0) (by omega), List.drop_of_length_le (by omega)] at this
      simpa [val] using this
    rw [eb] at gb
    refine lp W 0 (σ := Nat × Int × List Int) (fun s => [(1, .fi .i64 (dig b)), (6, .sl 0 0 0 (dig a).length), (7, .int .i64 s.2.1), (8, .int .i64 ((s.1 : Int) - 1)), (0, .fi .i64 (dig a))]) (fun s => [.ints 0 .i64 s.2.2]) (fun s => s.1)
      (fun s => s.1 ≤ (dig a).length ∧ s.2.2.length = (dig a).length ∧ 0 ≤ s.2.1 ∧ s.2.1 < b ∧ val s.2.2 * b + s.2.1 * 65536 ^ s.1 + val ((dig a).take s.1) = a ∧ ∀ j, 0 ≤ s.2.2.getD j 0 ∧ s.2.2.getD j 0 < 65536 ∧ (j < s.1 → s.2.2.getD j 0 = 0))
      ((dig a).length, 0, List.replicate (dig a).length 0) [1, 6, 7, 8, 0] rfl rfl rfl ⟨Nat.le_refl _, by simp, by simp, by dsimp only; omega, by simp [val_replicate, val, List.take_length, val_dig], fun j => ?_⟩ ?_
    · have : (List.replicate (dig a).length (0 : Int)).getD j 0 = 0 := by
        rw [List.getD_eq_getElem?_getD, List.getElem?_replicate]; split <;> rfl
      dsimp only; omega
    rintro ⟨t, r, l⟩ ⟨ht, hl, r0, r1, hv, hd⟩ ih
    dsimp only at ht hl r0 r1 hv hd ih ⊢
    refine sp W 0 rfl rfl rfl (fun h3 => ?_) (fun h3 => ?_)
    · obtain ⟨t, rfl⟩ : ∃ m, t = m + 1 := ⟨t - 1, by omega⟩
      have et : (((t + 1 : Nat) : Int) - 1) = (t : Int) := by omega
      have ga := da.get t
      have eo := (bor_add (r := 16) (a := (dig a).getD t 0) (c := r) (by omega) ga.1 ga.2 r0 (by rw [pw16]; omega)).2
      rw [Int.mul_comm] at eo
      rw [et]
      have hN : ∃ N : Int, bor .i64 (r * 2 ^ 16) ((dig a).getD (t : Int).toNat 0) = N ∧ N = 65536 * r + (dig a).getD t 0 := ⟨_, rfl, by rw [Int.toNat_natCast, eo, pw16]; omega⟩
      obtain ⟨N, hN1, hN⟩ := hN
      have n0 : 0 ≤ N := by omega
      have q0 : 0 ≤ N / b := Int.ediv_nonneg n0 (by omega)
      have q1 : N / b < 65536 := Int.ediv_lt_of_lt_mul (by omega) (by omega)
      have m0 := Int.emod_nonneg N (b := b) (by omega)
      have m1 := Int.emod_lt_of_pos N (b := b) (by omega)
      have eb' : (dig b).getD (Int.toNat 0) 0 = b := eb
      refine phg W 0 14 [13] rfl rfl (fun PW => ?_)
      · refine pho PW 0 13 [] [] rfl rfl trivial rfl rfl ?_ (hp := by simp only [AllP, hN1, eb', addN, Int.toNat_natCast, true_and, and_true, Option.getD]; omega)
        refine phe PW 0 [] [] rfl trivial rfl ?_ (hp := by simp only [AllP, hN1, eb', addN, Int.toNat_natCast, true_and, and_true, Option.getD]; omega)
        rw [hN1, eb']
        have gl := (hd t).2.2 (by omega)
        refine bk W 0 [1, 6, 7, 8, 0] rfl rfl (ih (t, N % b, l.set t (N / b)) ⟨by dsimp only; omega, by simpa using hl, m0, m1, ?_, fun j => ?_⟩ (by dsimp only; omega))
        · dsimp only
          rw [val_take_succ (show t < (dig a).length by omega), Int.pow_succ] at hv
          rw [val_set _ _ _ (by omega), gl, Int.sub_zero, Int.add_mul, Int.mul_assoc (65536 ^ t), Int.mul_comm (N % b)]
          have e1 : N / b * b + N % b = 65536 * r + (dig a).getD t 0 := by rw [Int.mul_comm]; rw [← hN]; exact Int.mul_ediv_add_emod N b
          have e2 : 65536 ^ t * (N / b * b) + 65536 ^ t * (N % b) = r * (65536 ^ t * 65536) + 65536 ^ t * (dig a).getD t 0 := by
            rw [← Int.mul_add, e1, Int.mul_add]; congr 1; simp only [Int.mul_assoc, Int.mul_comm, Int.mul_left_comm]
          omega
        · dsimp only
          rw [getD_set _ _ _ _ (by omega)]
          have := hd j
          split <;> omega
    · obtain rfl : t = 0 := by omega
      have dl : Dgs l := dgs_of_getD fun j hj => by have := hd j; omega
      have dr : Dgs [r] := Dgs.nil.cons r0 (by omega)
      simp only [List.take_zero, val, Int.pow_zero, Int.mul_one, Int.add_zero] at hv
      have v0 := val_nonneg dl
      refine cf W 0 [0] [7] rfl rfl rfl rfl rfl rfl (trim_ok l (by omega)) rfl ?_
      refine cf W 0 [1] [66] rfl rfl rfl rfl rfl rfl (trim_ok [r] (by simp)) rfl ?_
      obtain ⟨u1, u2⟩ := divmod hv r0 r1
      refine rp W 0 rfl rfl rfl (.tup ⟨.fi (by rw [trimL_dig dl, u1, Int.toNat_natCast]), .fi (by rw [trimL_dig dr, show val [r] = r by simp [val], u2, Int.toNat_natCast]), trivial⟩)
  have gb := db.get ((dig b).length - 1)
  have eb1 : (((dig b).length : Int) - 1).toNat = (dig b).length - 1 := by omega
  rw [show (dig b).getD ((dig b).length - 1) 0 = (dig b).getD (((dig b).length : Int) - 1).toNat 0 by rw [eb1]] at gb
  refine ce W 0 rfl rfl (len_ok ((dig b).getD (((dig b).length : Int) - 1).toNat 0) gb.1 (by omega)) rfl ?_
  rw [eb1]
  have hbd := bitL_dig b hb
  obtain ⟨s, es, hs⟩ : ∃ s : Nat, (16 : Int) - bitLen ((dig b).getD ((dig b).length - 1) 0) = (s : Int) ∧ s ≤ 15 := by
    have gl := db.get ((dig b).length - 1)
    refine ⟨16 - bitL ((dig b).getD ((dig b).length - 1) 0).toNat, ?_, ?_⟩
    · have := (bitL_lt 16 ((dig b).getD ((dig b).length - 1) 0).toNat).2 (by rw [show (2 : Nat) ^ 16 = 65536 from rfl]; omega)
      unfold bitLen; omega
    · have h0 : ¬ bitL b ≤ 16 * ((dig b).length - 1) := by
        rw [bitL_lt, Nat.pow_mul, show (2 : Nat) ^ 16 = 65536 from rfl, ← dig_len_le]; omega
      omega
  have k1 : AFunP Try.prog 74 [.fi .i64 (dig b), .int .i64 ((16 : Int) - bitLen ((dig b).getD ((dig b).length - 1) 0))] (· = .fi .i64 (dig (b * 2 ^ s))) := by
    rw [es]; exact natShiftUp_ok b s (by omega) (by omega)
  have k2 : AFunP Try.prog 74 [.fi .i64 (dig a), .int .i64 ((16 : Int) - bitLen ((dig b).getD ((dig b).length - 1) 0))] (· = .fi .i64 (dig (a * 2 ^ s))) := by
    rw [es]; exact natShiftUp_ok a s (by omega) (by omega)
  refine ce W 0 rfl rfl (k1) rfl ?_
  refine ce W 0 rfl rfl (k2) rfl ?_
  obtain ⟨hVl, hVt⟩ : (dig (b * 2 ^ s)).length = (dig b).length ∧ 32768 ≤ (dig (b * 2 ^ s)).getD ((dig b).length - 1) 0 := by
    have h1 := bitL_mul s b hb
    have h2 : bitL (b * 2 ^ s) = 16 * (dig b).length := by unfold bitLen at es; omega
    have h3 : b * 2 ^ s ≠ 0 := Nat.mul_ne_zero hb (by have := Nat.pow_pos (n := s) (show 0 < 2 by omega); omega)
    have h4 : (dig (b * 2 ^ s)).length = (dig b).length := by
      have h5 : (dig (b * 2 ^ s)).length ≤ (dig b).length := by
        rw [dig_len_le, show (65536 : Nat) = 2 ^ 16 from rfl, ← Nat.pow_mul, ← bitL_lt]; omega
      have h6 : ¬ (dig (b * 2 ^ s)).length ≤ (dig b).length - 1 := by
        rw [dig_len_le, show (65536 : Nat) = 2 ^ 16 from rfl, ← Nat.pow_mul, ← bitL_lt]; omega
      omega
    refine ⟨h4, ?_⟩
    have h7 := bitL_dig _ h3
    rw [h4] at h7
    have h8 := bitL_lt 15 ((dig (b * 2 ^ s)).getD ((dig b).length - 1) 0).toNat
    rw [show (2 : Nat) ^ 15 = 32768 from rfl] at h8
    omega
  have hUl : (dig a).length ≤ (dig (a * 2 ^ s)).length ∧ (dig (a * 2 ^ s)).length ≤ (dig a).length + 1 := by
    refine ⟨dig_len_mono (Nat.le_mul_of_pos_right _ (Nat.pow_pos (by omega))), ?_⟩
    rw [dig_len_le, Nat.pow_succ]
    have h1 := (dig_len_le (n := a) (k := (dig a).length)).1 (Nat.le_refl _)
    have h2 : 2 ^ s ≤ 65536 := by
      rw [show (65536 : Nat) = 2 ^ 16 from rfl]; exact Nat.pow_le_pow_right (by omega) (by omega)
    exact Nat.lt_of_lt_of_le (Nat.mul_lt_mul_of_pos_right h1 (Nat.pow_pos (by omega))) (Nat.mul_le_mul_left _ h2)
  have hUs : ∀ x, x ≤ a * 2 ^ s → (dig x).length ≤ (dig a).length + 1 := fun x hx => Nat.le_trans (dig_len_mono hx) hUl.2
  have hVne : b * 2 ^ s ≠ 0 := Nat.mul_ne_zero hb (by have := Nat.pow_pos (n := s) (show 0 < 2 by omega); omega)
  have dU := dig_dgs (a * 2 ^ s)
  have dV := dig_dgs (b * 2 ^ s)
  have uV := val_dig (b * 2 ^ s)
  have uU := val_dig (a * 2 ^ s)
  generalize hn : (dig b).length = n at *
  generalize dig (b * 2 ^ s) = V at *
  generalize dig (a * 2 ^ s) = U at *
  refine cn W 0 rfl rfl rfl (cloneS_new U (by omega)) ?_
  rintro _ _ ⟨rfl, rfl⟩
  refine ⟨_, _, rfl, rfl, ?_⟩
  obtain ⟨u, hu⟩ : ∃ u, U ++ [0] = u := ⟨_, rfl⟩
  have hul : u.length = U.length + 1 := by rw [← hu]; simp
  have du : Dgs u := by rw [← hu]; exact dU.app (Dgs.nil.cons (by omega) (by omega))
  have uu : val u = (a * 2 ^ s : Nat) := by rw [← hu, val_app]; simp [val, uU]
  have ut : u.getD (u.length - 1) 0 = 0 := by rw [hul, ← hu]; simp
  refine lp W 0 (σ := Unit) (fun _ => [(0, .fi .i64 (dig a)), (10, .int .i64 (16 - bitLen ((dig b).getD (n - 1) 0))), (11, .fi .i64 V), (12, .sl 0 1 0 u.length), (13, .int .i64 V.length)]) (fun _ => [.ints 1 .i64 u, .ints 0 .i64 [0]]) (fun _ => 0)
    (fun _ => True) () [0, 10, 11, 12, 13] rfl (by rw [hul]; rfl) (by rw [hu]) trivial ?_ (hc := by simp only [AllC, true_and]; simp only [List.length_cons, List.length_nil, Nat.zero_add, true_and, and_true]; omega)
  rintro _ _ _
  refine sp W 0 rfl rfl rfl (fun h3 => ?_) (fun h3 => ?_)
  · omega
  obtain ⟨M, hM⟩ : ∃ M, U.length + 1 = M + n := ⟨U.length + 1 - n, by omega⟩
  have hul2 : u.length = M + n := by omega
  have eMn : ((u.length : Int) - V.length) = (M : Nat) := by omega
  clear hul
  obtain ⟨p, rfl⟩ : ∃ p, n = p + 2 := ⟨n - 2, by omega⟩
  rw [show p + 2 - 1 = p + 1 by omega] at hVt
  have hin : val u < 65536 ^ M * val V := by
    have h1 := val_lt dU
    rw [uU, ← uu, show U.length = M + (p + 1) by omega, Int.pow_add] at h1
    have h2 := val_take_succ (l := V) (k := p + 1) (by omega)
    rw [List.take_of_length_le (by omega)] at h2
    have h3 := val_nonneg (dV.take (p + 1))
    have h4 : (65536 : Int) ^ (p + 1) * 1 ≤ 65536 ^ (p + 1) * V.getD (p + 1) 0 := Int.mul_le_mul_of_nonneg_left (by omega) (Int.pow_nonneg (by omega))
    have h5 : (65536 : Int) ^ M * 65536 ^ (p + 1) ≤ 65536 ^ M * val V := Int.mul_le_mul_of_nonneg_left (by omega) (Int.pow_nonneg (by omega))
    omega
  refine lp W 0 (σ := Nat × List Int × List Int) (fun s => [(10, .int .i64 (16 - bitLen ((dig b).getD (p + 2 - 1) 0))), (11, .fi .i64 V), (12, .sl 0 1 0 (M + (p + 2))), (13, .int .i64 ((p + 2 : Nat) : Int)), (14, .sl 2 0 0 M), (15, .int .i64 ((s.1 : Int) - 1))]) (fun s => [.ints 1 .i64 s.2.1, .ints 0 .i64 [0], .ints 0 .i64 s.2.2]) (fun s => s.1)
    (fun s => s.1 ≤ M ∧ s.2.1.length = M + (p + 2) ∧ s.2.2.length = M ∧ val s.2.2 * val V + val s.2.1 = val u ∧ Dgs s.2.1 ∧ val s.2.1 < 65536 ^ s.1 * val V ∧ ∀ j, 0 ≤ s.2.2.getD j 0 ∧ s.2.2.getD j 0 < 65536 ∧ (j < s.1 → s.2.2.getD j 0 = 0))
    (M, u, List.replicate M 0) [10, 11, 12, 13, 14, 15] rfl (by rw [eMn, hul2, hVl]; rfl) (by rw [eMn]; rfl) ⟨Nat.le_refl _, hul2, by simp, by simp [val_replicate], du, hin, fun j => ?_⟩ ?_ (hc := ?_)
  · have : (List.replicate M (0 : Int)).getD j 0 = 0 := by
      rw [List.getD_eq_getElem?_getD, List.getElem?_replicate]; split <;> rfl
    dsimp only; omega
  · rintro ⟨t, w, o⟩ ⟨ht, hw, ho, hv, dw, hlt, hd⟩ ih
    dsimp only at ht hw ho hv dw hlt hd ih ⊢
    refine sp W 0 rfl rfl rfl (fun h4 => ?_) (fun h4 => ?_)
    · obtain ⟨t, rfl⟩ : ∃ m, t = m + 1 := ⟨t - 1, by omega⟩
      have et : (((t + 1 : Nat) : Int) - 1) = (t : Int) := by omega
      have ht : t < M := by omega
      obtain ⟨ws, wz, g⟩ := Gd.of (j := t) dV hVl hVt dw (by omega) hlt
      generalize hQ : val (w.drop t) / val V = Q at *
      have x0 := dw.get (t + (p + 2))
      have x1 := dw.get (t + (p + 1))
      have x2 := dw.get (t + p)
      have i1 : ((t : Int) + ((p + 2 : Nat) : Int)).toNat = t + (p + 2) := by omega
      have i2 : ((t : Int) + ((p + 2 : Nat) : Int) - 1).toNat = t + (p + 1) := by omega
      have i3 : ((t : Int) + ((p + 2 : Nat) : Int) - 2).toNat = t + p := by omega
      have i4 : (((p + 2 : Nat) : Int) - 1).toNat = p + 1 := by omega
      have i5 : (((p + 2 : Nat) : Int) - 2).toNat = p := by omega
      have eo := (bor_add (r := 16) (a := w.getD (t + (p + 1)) 0) (c := w.getD (t + (p + 2)) 0) (by omega) x1.1 x1.2 x0.1 (by rw [pw16]; omega)).2
      rw [Int.mul_comm] at eo
      obtain ⟨T, hT1, hT⟩ : ∃ T : Int, bor .i64 (w.getD (t + (p + 2)) 0 * 2 ^ 16) (w.getD (t + (p + 1)) 0) = T ∧ T = 65536 * w.getD (t + (p + 2)) 0 + w.getD (t + (p + 1)) 0 := ⟨_, rfl, by rw [eo, pw16]; omega⟩
      rw [← hT] at g
      rw [et]
      refine dre W 0 15 [] [] rfl rfl rfl trivial rfl ?_ (hp := by simp only [AllP, i1, i2, addN, Int.toNat_natCast, true_and, and_true, Option.getD, hw]; omega)
      have zz : ∀ k, addN 0 k = k := addN0
      rw [i1, i2, zz, zz, hT1]
      have gv := dV.get (p + 1)
      have T0 := g.t0
      have T1 : T ≤ 4294967295 := by omega
      obtain ⟨f1, f2, f3, f4, f5⟩ := g.first
      have q0 := g.q0
      generalize hq0 : T / V.getD (p + 1) 0 = q1 at *
      generalize hr0 : T % V.getD (p + 1) 0 = r1 at *
      refine dre W 0 16 [] [] rfl rfl rfl trivial rfl ?_ (hp := by simp only [AllP, i4, hq0, hr0, hVl, addN, Int.toNat_natCast, true_and, and_true, Option.getD, hw]; omega)
      rw [i4, hq0, hr0]
      refine' cutK (fun K => ?main) ?k
      case main =>
        refine lp W 0 (σ := Int × Int) (fun s => [(10, .int .i64 (16 - bitLen ((dig b).getD (p + 2 - 1) 0))), (11, .fi .i64 V), (12, .sl 0 1 0 (M + (p + 2))), (13, .int .i64 ((p + 2 : Nat) : Int)), (14, .sl 2 0 0 M), (15, .int .i64 t), (17, .int .i64 s.1), (18, .int .i64 s.2)]) (fun s => [.ints 1 .i64 w, .ints 0 .i64 [0], .ints 0 .i64 o]) (fun s => s.1.toNat)
          (fun s => s.1 * V.getD (p + 1) 0 + s.2 = T ∧ Q ≤ s.1 ∧ s.1 ≤ 65537 ∧ 0 ≤ s.2 ∧ s.2 < 65536) (q1, r1) [10, 11, 12, 13, 14, 15, 17, 18] rfl rfl rfl ⟨f5, f1, f2, f3, f4⟩ ?_
        rintro ⟨q, r⟩ ⟨e1, e2, e3, e4, e5⟩ ih2
        dsimp only at e1 e2 e3 e4 e5 ih2 ⊢
        have qz0 : 0 ≤ q * V.getD p 0 := Int.mul_nonneg (by omega) (dV.get p).1
        have qz1 : q * V.getD p 0 ≤ 65537 * 65535 := Int.mul_le_mul (by omega) (by have := dV.get p; omega) (dV.get p).1 (by omega)
        have eo2 := (bor_add (r := 16) (a := w.getD (t + p) 0) (c := r) (by omega) x2.1 x2.2 e4 (by rw [pw16]; omega)).2
        rw [Int.mul_comm] at eo2
        have eo2 : bor .i64 (r * 2 ^ 16) (w.getD (t + p) 0) = 65536 * r + w.getD (t + p) 0 := by rw [eo2, pw16]; omega
        rcases Int.lt_or_le q 65536 with h5 | h5
        · refine dre W 0 21 [(144, false)] [] rfl rfl rfl trivial rfl ?_ (hp := by simp only [AllP, Holds, i3, i5, hVl, addN, eo2, Int.toNat_natCast, true_and, and_true, Option.getD, hw]; omega)
          rw [i3, i5, zz, eo2]
          refine sp W 0 rfl rfl rfl (fun h6 => ?_) (fun h6 => ?_)
          · refine sp W 0 rfl rfl rfl (fun h7 => ?_) (fun h7 => ?_) (hc := by simp only [AllC, i4, hVl, and_true, true_and]; omega)
            · obtain ⟨p1, p2⟩ := g.past (q := q - 1) (r := r + V.getD (p + 1) 0) (by rw [Int.sub_mul]; omega) (g.less e1 e2 (.inr h6)) (by rw [i4] at h7; exact h7)
              refine lp W 0 (σ := Int × Nat × Int × List Int) (fun s => [(10, .int .i64 (16 - bitLen ((dig b).getD (p + 2 - 1) 0))), (11, .fi .i64 V), (12, .sl 0 1 0 (M + (p + 2))), (13, .int .i64 ((p + 2 : Nat) : Int)), (14, .sl 2 0 0 M), (15, .int .i64 t), (17, .int .i64 s.1), (19, .int .i64 s.2.2.1), (175, .fi .i64 V), (176, .int .i64 V.length), (177, .int .i64 s.2.1)]) (fun s => [.ints 1 .i64 s.2.2.2, .ints 0 .i64 [0], .ints 0 .i64 o]) (fun s => V.length - s.2.1)
                (fun s => (Q ≤ s.1 ∧ s.1 ≤ Q + 1 ∧ s.1 ≤ 65535) ∧ s.2.1 ≤ V.length ∧ s.2.2.2.length = M + (p + 2) ∧ Dgs s.2.2.2 ∧ (0 ≤ s.2.2.1 ∧ s.2.2.1 ≤ 65535) ∧ (∀ j, t + s.2.1 ≤ j → s.2.2.2.getD j 0 = w.getD j 0) ∧ val s.2.2.2 - 65536 ^ (t + s.2.1) * s.2.2.1 = val w - 65536 ^ t * (s.1 * val (V.take s.2.1))) (q - 1, 0, 0, w) [10, 11, 12, 13, 14, 15, 17, 19, 175, 176, 177] rfl rfl rfl ⟨⟨g.less e1 e2 (.inr h6), g.done (q := q - 1) (r := r + V.getD (p + 1) 0) (by rw [Int.sub_mul]; omega) (g.less e1 e2 (.inr h6)) p1 p2, by dsimp only; omega⟩, Nat.zero_le _, hw, dw, by simp, fun j _ => rfl, by simp [val]⟩ K.get (hc := trivial)
            · rw [i4] at h7 ⊢
              refine bk W 0 [10, 11, 12, 13, 14, 15, 17, 18] rfl rfl (ih2 (q - 1, r + V.getD (p + 1) 0) ⟨by dsimp only; rw [Int.sub_mul]; omega, g.less e1 e2 (.inr h6), by dsimp only; omega, by dsimp only; omega, by dsimp only; omega⟩ (by have := g.q0; have := g.less e1 e2 (.inr h6); dsimp only; omega))
          · refine lp W 0 (σ := Int × Nat × Int × List Int) (fun s => [(10, .int .i64 (16 - bitLen ((dig b).getD (p + 2 - 1) 0))), (11, .fi .i64 V), (12, .sl 0 1 0 (M + (p + 2))), (13, .int .i64 ((p + 2 : Nat) : Int)), (14, .sl 2 0 0 M), (15, .int .i64 t), (17, .int .i64 s.1), (19, .int .i64 s.2.2.1), (175, .fi .i64 V), (176, .int .i64 V.length), (177, .int .i64 s.2.1)]) (fun s => [.ints 1 .i64 s.2.2.2, .ints 0 .i64 [0], .ints 0 .i64 o]) (fun s => V.length - s.2.1)
                (fun s => (Q ≤ s.1 ∧ s.1 ≤ Q + 1 ∧ s.1 ≤ 65535) ∧ s.2.1 ≤ V.length ∧ s.2.2.2.length = M + (p + 2) ∧ Dgs s.2.2.2 ∧ (0 ≤ s.2.2.1 ∧ s.2.2.1 ≤ 65535) ∧ (∀ j, t + s.2.1 ≤ j → s.2.2.2.getD j 0 = w.getD j 0) ∧ val s.2.2.2 - 65536 ^ (t + s.2.1) * s.2.2.1 = val w - 65536 ^ t * (s.1 * val (V.take s.2.1))) (q, 0, 0, w) [10, 11, 12, 13, 14, 15, 17, 19, 175, 176, 177] rfl rfl rfl ⟨⟨e2, g.done e1 e2 h5 (Int.not_lt.1 h6), by omega⟩, Nat.zero_le _, hw, dw, by simp, fun j _ => rfl, by simp [val]⟩ K.get (hc := trivial)
        · refine dre W 0 21 [(144, true)] [] rfl rfl rfl trivial rfl ?_ (hp := by simp only [AllP, Holds, i3, i5, hVl, addN, eo2, Int.toNat_natCast, true_and, and_true, Option.getD, hw]; omega)
          refine sp W 0 rfl rfl rfl (fun h7 => ?_) (fun h7 => ?_) (hc := by simp only [AllC, i4, hVl, and_true, true_and]; omega)
          · obtain ⟨p1, p2⟩ := g.past (q := q - 1) (r := r + V.getD (p + 1) 0) (by rw [Int.sub_mul]; omega) (g.less e1 e2 (.inl h5)) (by rw [i4] at h7; exact h7)
            refine lp W 0 (σ := Int × Nat × Int × List Int) (fun s => [(10, .int .i64 (16 - bitLen ((dig b).getD (p + 2 - 1) 0))), (11, .fi .i64 V), (12, .sl 0 1 0 (M + (p + 2))), (13, .int .i64 ((p + 2 : Nat) : Int)), (14, .sl 2 0 0 M), (15, .int .i64 t), (17, .int .i64 s.1), (19, .int .i64 s.2.2.1), (175, .fi .i64 V), (176, .int .i64 V.length), (177, .int .i64 s.2.1)]) (fun s => [.ints 1 .i64 s.2.2.2, .ints 0 .i64 [0], .ints 0 .i64 o]) (fun s => V.length - s.2.1)
                (fun s => (Q ≤ s.1 ∧ s.1 ≤ Q + 1 ∧ s.1 ≤ 65535) ∧ s.2.1 ≤ V.length ∧ s.2.2.2.length = M + (p + 2) ∧ Dgs s.2.2.2 ∧ (0 ≤ s.2.2.1 ∧ s.2.2.1 ≤ 65535) ∧ (∀ j, t + s.2.1 ≤ j → s.2.2.2.getD j 0 = w.getD j 0) ∧ val s.2.2.2 - 65536 ^ (t + s.2.1) * s.2.2.1 = val w - 65536 ^ t * (s.1 * val (V.take s.2.1))) (q - 1, 0, 0, w) [10, 11, 12, 13, 14, 15, 17, 19, 175, 176, 177] rfl rfl rfl ⟨⟨g.less e1 e2 (.inl h5), g.done (q := q - 1) (r := r + V.getD (p + 1) 0) (by rw [Int.sub_mul]; omega) (g.less e1 e2 (.inl h5)) p1 p2, by dsimp only; omega⟩, Nat.zero_le _, hw, dw, by simp, fun j _ => rfl, by simp [val]⟩ K.get (hc := trivial)
          · rw [i4] at h7 ⊢
            refine bk W 0 [10, 11, 12, 13, 14, 15, 17, 18] rfl rfl (ih2 (q - 1, r + V.getD (p + 1) 0) ⟨by dsimp only; rw [Int.sub_mul]; omega, g.less e1 e2 (.inl h5), by dsimp only; omega, by dsimp only; omega, by dsimp only; omega⟩ (by have := g.q0; have := g.less e1 e2 (.inl h5); dsimp only; omega))
      case k =>
        have hV0 := g.bpos
        have hot := (hd t).2.2 (by omega)
        have fin : ∀ l : List Int, l.length = M + (p + 2) → Dgs l → val l = val w - 65536 ^ t * (Q * val V) → t ≤ M ∧ l.length = M + (p + 2) ∧ (o.set t Q).length = M ∧ val (o.set t Q) * val V + val l = val u ∧ Dgs l ∧ val l < 65536 ^ t * val V ∧ ∀ j, 0 ≤ (o.set t Q).getD j 0 ∧ (o.set t Q).getD j 0 < 65536 ∧ (j < t → (o.set t Q).getD j 0 = 0) := by
          intro l h1 h2 h3
          refine ⟨by omega, h1, by simpa using ho, ?_, h2, ?_, fun j => ?_⟩
          · rw [val_set _ _ _ (by omega), hot, Int.sub_zero, h3, Int.add_mul, Int.mul_assoc (65536 ^ t)]; omega
          · have h4 := val_lt (dw.take t)
            rw [show (w.take t).length = t by simp; omega] at h4
            have h5 : 65536 ^ t * val (w.drop t) + 65536 ^ t ≤ 65536 ^ t * (Q * val V) + 65536 ^ t * val V := by
              have h6 := g.wq
              rw [Int.add_mul, Int.one_mul] at h6
              have h7 := Int.mul_le_mul_of_nonneg_left (show val (w.drop t) + 1 ≤ Q * val V + val V by omega) (show (0 : Int) ≤ 65536 ^ t from Int.pow_nonneg (by omega))
              rw [Int.mul_add, Int.mul_add, Int.mul_one] at h7; exact h7
            rw [h3, ws]; omega
          · rw [getD_set _ _ _ _ (by omega)]
            have := hd j; have := g.q0; have := g.q1
            split <;> omega
        have top1 : ∀ l : List Int, l.length = M + (p + 2) → (∀ j, j ≠ t + (p + 2) → 0 ≤ l.getD j 0 ∧ l.getD j 0 < 65536) → l.drop (t + (p + 3)) = w.drop (t + (p + 3)) → 0 ≤ val l → 0 ≤ l.getD (t + (p + 2)) 0 := by
          intro l h1 h2 h3 h4
          have h5 := val_split l (t + (p + 3)) (by omega)
          rw [h3, wz, Int.mul_zero] at h5
          have h6 := top_nonneg (l := l.take (t + (p + 3))) (n := t + (p + 2)) (by simp; omega) (fun j hj => by rw [getD_take (by omega)]; exact h2 j (by omega)) (by omega)
          rwa [getD_take (by omega)] at h6
        have low : 0 ≤ val w - 65536 ^ t * (Q * val V) := by
          have h1 := val_nonneg (dw.take t)
          have h2 := Int.mul_le_mul_of_nonneg_left g.qw (show (0 : Int) ≤ 65536 ^ t from Int.pow_nonneg (by omega))
          omega
        have high : val w - 65536 ^ t * ((Q + 1) * val V) < 0 := by
          have h4 := val_lt (dw.take t)
          rw [show (w.take t).length = t by simp; omega] at h4
          have h7 := Int.mul_le_mul_of_nonneg_left (show val (w.drop t) + 1 ≤ (Q + 1) * val V from g.wq) (show (0 : Int) ≤ 65536 ^ t from Int.pow_nonneg (by omega))
          rw [Int.mul_add, Int.mul_one] at h7
          omega
        rintro ⟨q, i, c, m⟩ ⟨⟨k1, k2, k3⟩, hi, hm, dm, ⟨c0, c1⟩, hsame, hval⟩ ih3
        dsimp only at k1 k2 k3 hi hm dm c0 c1 hsame hval ih3 ⊢
        refine sp W 0 rfl rfl rfl (fun h5 => ?_) (fun h5 => ?_)
        · have h5 : i < V.length := by omega
          have gd := dV.get i
          have gm := dm.get (t + i)
          have q0 := g.q0
          have i6 : ((t : Int) + (i : Int)).toNat = t + i := by omega
          have z0 : 0 ≤ q * V.getD i 0 := Int.mul_nonneg (by omega) gd.1
          have z1 : q * V.getD i 0 ≤ 65535 * 65535 := Int.mul_le_mul (by omega) (by omega) gd.1 (by omega)
          have hvs := val_take_succ h5
          have e1 : (65536 : Int) ^ (t + i) = 65536 ^ t * 65536 ^ i := Int.pow_add ..
          have e2 : (65536 : Int) ^ (t + (i + 1)) = 65536 ^ (t + i) * 65536 := by rw [show t + (i + 1) = t + i + 1 by omega, Int.pow_succ]
          have e3 : 65536 ^ t * (q * (val (V.take i) + 65536 ^ i * V.getD i 0)) = 65536 ^ t * (q * val (V.take i)) + 65536 ^ (t + i) * (q * V.getD i 0) := by
            rw [Int.mul_add, Int.mul_add, e1]; congr 1; simp only [Int.mul_assoc, Int.mul_comm, Int.mul_left_comm]
          refine sp W 0 rfl rfl rfl (fun h6 => ?_) (fun h6 => ?_) (hc := by simp only [AllC, i6, addN, hm, hVl, Int.toNat_natCast, true_and, and_true]; omega)
          all_goals
            simp only [i6, addN, Int.toNat_natCast] at h6
            rw [i6, zz, Int.toNat_natCast] at *
            obtain ⟨x, hx⟩ : ∃ x, m.getD (t + i) 0 - c - q * V.getD i 0 = x := ⟨_, rfl⟩
            rw [hx] at h6 ⊢
          · refine bk W 0 [10, 11, 12, 13, 14, 15, 17, 19, 175, 176, 177] rfl rfl (ih3 (q, i + 1, (-x + 65536 - 1) / 65536, m.set (t + i) (x + (-x + 65536 - 1) / 65536 * 65536)) ⟨⟨k1, k2, k3⟩, h5, by simpa using hm, ?_, by dsimp only; omega, fun j hj => ?_, ?_⟩ (by dsimp only; omega))
            · exact dm.set (by omega) (by omega)
            · dsimp only at hj ⊢
              rw [getD_set _ _ _ _ (by omega), if_neg (by omega)]; exact hsame j (by omega)
            · dsimp only
              rw [val_set _ _ _ (by omega), hvs, e3, e2]
              have e4 : 65536 ^ (t + i) * 65536 * ((-x + 65536 - 1) / 65536) = 65536 ^ (t + i) * ((-x + 65536 - 1) / 65536 * 65536) := by rw [Int.mul_assoc, Int.mul_comm 65536]
              rw [e4]
              generalize (-x + 65536 - 1) / 65536 * 65536 = y at *
              rw [← hx, show m.getD (t + i) 0 - c - q * V.getD i 0 + y - m.getD (t + i) 0 = y - c - q * V.getD i 0 by omega, Int.mul_sub, Int.mul_sub]
              omega
          · refine bk W 0 [10, 11, 12, 13, 14, 15, 17, 19, 175, 176, 177] rfl rfl (ih3 (q, i + 1, 0, m.set (t + i) x) ⟨⟨k1, k2, k3⟩, h5, by simpa using hm, ?_, by dsimp only; omega, fun j hj => ?_, ?_⟩ (by dsimp only; omega))
            · exact dm.set (by omega) (by omega)
            · dsimp only at hj ⊢
              rw [getD_set _ _ _ _ (by omega), if_neg (by omega)]; exact hsame j (by omega)
            · dsimp only
              rw [val_set _ _ _ (by omega), hvs, e3, Int.mul_zero]
              rw [← hx, show m.getD (t + i) 0 - c - q * V.getD i 0 - m.getD (t + i) 0 = - c - q * V.getD i 0 by omega, Int.mul_sub, Int.mul_neg]
              omega
        · have hi : i = p + 2 := by omega
          subst hi
          have hK : t + (p + 2) < M + (p + 2) := by omega
          have wv := hsame (t + (p + 2)) (Nat.le_refl _)
          have i6 : ((t : Int) + ((p + 2 : Nat) : Int)).toNat = t + (p + 2) := by omega
          rw [List.take_of_length_le (by omega)] at hval
          obtain ⟨m2, hm2⟩ : ∃ m2, m.set (t + (p + 2)) (w.getD (t + (p + 2)) 0 - c) = m2 := ⟨_, rfl⟩
          have hl2 : m2.length = M + (p + 2) := by rw [← hm2]; simpa using hm
          have hy2 : m2.getD (t + (p + 2)) 0 = w.getD (t + (p + 2)) 0 - c := by rw [← hm2, getD_set _ _ _ _ (by omega), if_pos rfl]
          have hd2 : ∀ j, j ≠ t + (p + 2) → 0 ≤ m2.getD j 0 ∧ m2.getD j 0 < 65536 := fun j hj => by
            rw [← hm2, getD_set _ _ _ _ (by omega), if_neg hj]; exact dm.get j
          have hz2 : m2.drop (t + (p + 3)) = w.drop (t + (p + 3)) := by
            refine List.ext_getElem (by simp; omega) fun j q1 q2 => ?_
            have h1 : m2.getD (t + (p + 3) + j) 0 = w.getD (t + (p + 3) + j) 0 := by
              rw [← hm2, getD_set _ _ _ _ (by omega), if_neg (by omega)]; exact hsame _ (by omega)
            simp only [List.length_drop] at q1 q2
            rw [List.getElem_drop, List.getElem_drop]
            simp only [List.getD_eq_getElem?_getD] at h1
            rw [List.getElem?_eq_getElem (by omega), List.getElem?_eq_getElem (by omega)] at h1
            exact h1
          have hv2 : val m2 = val w - 65536 ^ t * (q * val V) := by
            rw [← hm2, val_set _ _ _ (by omega), wv, show w.getD (t + (p + 2)) 0 - c - w.getD (t + (p + 2)) 0 = -c by omega, Int.mul_neg]; omega
          refine sp W 0 rfl rfl rfl (fun h6 => ?_) (fun h6 => ?_) (hc := by simp only [AllC, i6, addN, hm, hVl, Int.toNat_natCast, true_and, and_true, List.length_set, wv]; omega)
          all_goals
            rw [i6, zz, wv, hm2, hy2] at h6 ⊢
          · have hq : q = Q + 1 := by
              rcases Int.lt_or_le Q q with h | h
              · omega
              · obtain rfl : q = Q := by omega
                have := top1 m2 hl2 hd2 hz2 (by omega)
                omega
            subst hq
            refine lp W 0 (σ := Nat × Int × List Int) (fun s => [(10, .int .i64 (16 - bitLen ((dig b).getD (p + 2 - 1) 0))), (11, .fi .i64 V), (12, .sl 0 1 0 (M + (p + 2))), (13, .int .i64 ((p + 2 : Nat) : Int)), (14, .sl 2 0 0 M), (15, .int .i64 t), (17, .int .i64 (Q + 1 - 1)), (23, .int .i64 s.2.1), (230, .fi .i64 V), (231, .int .i64 V.length), (232, .int .i64 s.1)]) (fun s => [.ints 1 .i64 s.2.2, .ints 0 .i64 [0], .ints 0 .i64 o]) (fun s => V.length - s.1)
              (fun s => s.1 ≤ V.length ∧ s.2.2.length = M + (p + 2) ∧ (0 ≤ s.2.1 ∧ s.2.1 ≤ 1) ∧ (∀ j, j ≠ t + (p + 2) → 0 ≤ s.2.2.getD j 0 ∧ s.2.2.getD j 0 < 65536) ∧ s.2.2.getD (t + (p + 2)) 0 = w.getD (t + (p + 2)) 0 - c ∧ s.2.2.drop (t + (p + 3)) = w.drop (t + (p + 3)) ∧ val s.2.2 + 65536 ^ (t + s.1) * s.2.1 = val m2 + 65536 ^ t * val (V.take s.1))
              (0, 0, m2) [10, 11, 12, 13, 14, 15, 17, 23, 230, 231, 232] rfl rfl rfl ⟨Nat.zero_le _, hl2, by simp, hd2, hy2, hz2, by simp [val]⟩ ?_
            rintro ⟨i, e, l⟩ ⟨hi, hl, ⟨e0, e1⟩, hdl, hyl, hzl, hvl⟩ ih4
            dsimp only at hi hl e0 e1 hdl hyl hzl hvl ih4 ⊢
            refine sp W 0 rfl rfl rfl (fun h7 => ?_) (fun h7 => ?_)
            · have h7 : i < V.length := by omega
              have gd := dV.get i
              have gl := hdl (t + i) (by omega)
              have i7 : ((t : Int) + (i : Int)).toNat = t + i := by omega
              obtain ⟨x, hx⟩ : ∃ x, l.getD (t + i) 0 + V.getD i 0 + e = x := ⟨_, rfl⟩
              have hb := band_low (n := x) (by omega) (by omega)
              have hvs := val_take_succ h7
              have nx := ih4 (i + 1, x / 2 ^ 16, l.set (t + i) (band .i64 x 65535)) ⟨h7, by simpa using hl, by dsimp only; rw [pw16]; omega, fun j hj => ?_, ?_, ?_, ?_⟩ (by dsimp only; omega)
              · refine bk W 0 [10, 11, 12, 13, 14, 15, 17, 23, 230, 231, 232] rfl rfl (by rw [← hx] at nx; exact nx) (hc := ?_)
                simp only [AllC, i7, hx, addN, hl, hVl, Int.toNat_natCast, true_and, and_true]; omega
              · dsimp only
                rw [getD_set _ _ _ _ (by omega), hb]
                have := hdl j hj
                split <;> omega
              · dsimp only
                rw [getD_set _ _ _ _ (by omega), if_neg (by omega)]; exact hyl
              · dsimp only
                rw [List.drop_set_of_lt (by omega)]; exact hzl
              · dsimp only
                rw [val_set _ _ _ (by omega), hb, hvs, show t + (i + 1) = t + i + 1 by omega, Int.pow_succ, pw16, Int.mul_add (65536 ^ t), ← Int.mul_assoc (65536 ^ t), ← Int.pow_add]
                have e4 : 65536 ^ (t + i) * (x % 65536) + 65536 ^ (t + i) * (65536 * (x / 65536)) = 65536 ^ (t + i) * x := by
                  rw [← Int.mul_add]; congr 1; omega
                rw [Int.mul_assoc (65536 ^ (t + i)) 65536, Int.mul_sub]
                rw [← hx, Int.mul_add, Int.mul_add] at e4
                rw [← hx]
                omega
            · obtain rfl : i = V.length := by omega
              have i7 : ((t : Int) + ((p + 2 : Nat) : Int)).toNat = t + (p + 2) := by omega
              rw [List.take_length, hVl] at hvl
              have hdn : Q + 1 - 1 = Q := by omega
              have hvn : val (l.set (t + (p + 2)) (l.getD (t + (p + 2)) 0 + e)) = val w - 65536 ^ t * (Q * val V) := by
                rw [val_set _ _ _ (by omega), show l.getD (t + (p + 2)) 0 + e - l.getD (t + (p + 2)) 0 = e by omega]
                rw [Int.add_mul, Int.one_mul, Int.mul_add] at hv2
                omega
              have hln : (l.set (t + (p + 2)) (l.getD (t + (p + 2)) 0 + e)).length = M + (p + 2) := by simpa using hl
              have hdd : ∀ j, j ≠ t + (p + 2) → 0 ≤ (l.set (t + (p + 2)) (l.getD (t + (p + 2)) 0 + e)).getD j 0 ∧ (l.set (t + (p + 2)) (l.getD (t + (p + 2)) 0 + e)).getD j 0 < 65536 := fun j hj => by
                rw [getD_set _ _ _ _ (by omega), if_neg hj]; exact hdl j hj
              have htop := top1 _ hln hdd (by rw [List.drop_set_of_lt (by omega)]; exact hzl) (by omega)
              have dl : Dgs (l.set (t + (p + 2)) (l.getD (t + (p + 2)) 0 + e)) := dgs_of_getD fun j hj => by
                by_cases hjt : j = t + (p + 2)
                · subst hjt
                  refine ⟨htop, ?_⟩
                  rw [getD_set _ _ _ _ (by omega), if_pos rfl, hyl]; omega
                · exact hdd j hjt
              refine bk W 0 [10, 11, 12, 13, 14, 15] rfl rfl (by rw [i7, zz, hdn]; exact ih (t, l.set (t + (p + 2)) (l.getD (t + (p + 2)) 0 + e), o.set t Q) (fin _ hln dl hvn) (by dsimp only; omega)) (hc := ?_)
              simp only [AllC, i7, addN, hl, ho, hVl, Int.toNat_natCast, true_and, and_true, List.length_set]; omega
          · have hq : q = Q := by
              rcases Int.lt_or_le Q q with h | h
              · obtain rfl : q = Q + 1 := by omega
                have dm2 : Dgs m2 := dgs_of_getD fun j hj => by
                  by_cases hjt : j = t + (p + 2)
                  · subst hjt; omega
                  · exact hd2 j hjt
                have := val_nonneg dm2
                omega
              · omega
            subst hq
            have dm2 : Dgs m2 := dgs_of_getD fun j hj => by
              by_cases hjt : j = t + (p + 2)
              · subst hjt; omega
              · exact hd2 j hjt
            refine bk W 0 [10, 11, 12, 13, 14, 15] rfl rfl (ih (t, m2, o.set t q) (fin m2 hl2 dm2 hv2) (by dsimp only; omega))
    · obtain rfl : t = 0 := by omega
      have do' : Dgs o := dgs_of_getD fun j hj => by have := hd j; omega
      have vo := val_nonneg do'
      have vw := val_nonneg dw
      rw [Int.pow_zero, Int.one_mul, uV] at hlt
      rw [uV, uu] at hv
      obtain ⟨u1, u2⟩ := divmod hv vw hlt
      rw [Nat.mul_div_mul_right _ _ (Nat.pow_pos (by omega))] at u1
      rw [Nat.mul_mod_mul_right] at u2
      have k3 : AFunP Try.prog 74 [.fi .i64 (dig (a % b * 2 ^ s)), .int .i64 (-((16 : Int) - bitLen ((dig b).getD (p + 2 - 1) 0)))] (· = .fi .i64 (dig (a % b))) := by
        rw [es]
        have hl := hUs (a % b * 2 ^ s) (Nat.mul_le_mul_right _ (Nat.mod_le _ _))
        rcases Nat.eq_zero_or_pos s with h | h
        · subst h
          have := natShiftUp_ok (a % b * 2 ^ 0) 0 (by omega) (by omega)
          simpa using this
        · have := natShiftDown_ok (a % b * 2 ^ s) s (by omega) h (by omega)
          rwa [Nat.mul_div_cancel _ (Nat.pow_pos (by omega))] at this
      refine cf W 0 [2] [10, 12] rfl rfl rfl rfl rfl rfl (trim_ok o (by omega)) rfl ?_
      refine cf W 0 [0] [10, 271] rfl rfl rfl rfl rfl rfl (trim_ok w (by omega)) rfl ?_
      rw [trimL_dig do', u1, Int.toNat_natCast, trimL_dig dw, u2, Int.toNat_natCast]
      refine ce W 0 rfl rfl (k3) rfl ?_
      refine rp W 0 rfl rfl rfl (.tup ⟨.refl, .refl, trivial⟩)
  · simp only [AllC, true_and]; omega
end Pf
/- Whole numbers: common divisors and roots. -/
namespace Pf
open Go Go.Proofs

theorem natGcd_ok (a b : Nat) (ha : (dig a).length ≤ 1000000) (hb : (dig b).length ≤ 1000000) : AFunP Try.prog 72 [.fi .i64 (dig a), .fi .i64 (dig b)] (· = .fi .i64 (dig (Nat.gcd a b))) := by
  refine afun_of Try.func72 Try.call72 rfl Try.ntmps72 rfl ?_
  have W : Walk Try.prog TT 72 _ := Walk.of TT_ok Try.func72 Try.results72
  refine lp W 0 (σ := Nat × Nat) (fun s => [(0, .fi .i64 (dig s.1)), (1, .fi .i64 (dig s.2))]) (fun _ => []) (fun s => s.2)
    (fun s => Nat.gcd s.1 s.2 = Nat.gcd a b ∧ (dig s.1).length ≤ 1000000 ∧ (dig s.2).length ≤ 1000000) (a, b) [0, 1] rfl rfl rfl ⟨rfl, ha, hb⟩ ?_
  rintro ⟨x, y⟩ ⟨h1, h2, h3⟩ ih
  dsimp only at h1 h2 h3 ih ⊢
  refine sp W 0 rfl rfl rfl (fun h4 => ?_) (fun h4 => ?_)
  · have hy : y ≠ 0 := by rintro rfl; simp [dig_zero] at h4
    refine ce W 0 rfl rfl (natDiv_ok x y hy h2 h3) rfl ?_
    have hm := Nat.mod_lt x (show 0 < y by omega)
    refine bk W 0 [0, 1] rfl rfl (ih (y, x % y) ⟨by dsimp only; rw [← h1, Nat.gcd_comm, ← Nat.gcd_rec, Nat.gcd_comm], h3, Nat.le_trans (dig_len_mono (Nat.le_of_lt hm)) h3⟩ hm)
  · have hy : y = 0 := dig_nil.1 (List.eq_nil_of_length_eq_zero (by omega))
    subst hy
    rw [Nat.gcd_zero_right] at h1
    refine rp W 0 rfl rfl rfl (.fi (by rw [h1]))
theorem newton {a x q y : Nat} (hq : a < (q + 1) * x) (hy : x + q ≤ 2 * y + 1) : a < (y + 1) * (y + 1) := by
  have h1 : 4 * (((q : Int) + 1) * x) ≤ (x + (q + 1)) * (x + (q + 1)) := by
    have h2 : 0 ≤ ((x : Int) - (q + 1)) * (x - (q + 1)) := by
      rcases Int.le_total 0 ((x : Int) - (q + 1)) with h | h
      · exact Int.mul_nonneg h h
      · exact Int.mul_nonneg_of_nonpos_of_nonpos h h
    generalize ((q : Int) + 1) = z at *
    simp only [Int.sub_mul, Int.mul_sub, Int.add_mul, Int.mul_add, Int.mul_comm z x] at *
    omega
  have h3 : (x + (q + 1)) * (x + (q + 1)) ≤ (2 * (y + 1)) * (2 * (y + 1)) := Nat.mul_le_mul (by omega) (by omega)
  have h4 : (2 * (y + 1)) * (2 * (y + 1)) = 4 * ((y + 1) * (y + 1)) := by
    rw [Nat.mul_assoc, ← Nat.mul_assoc (y + 1) 2, Nat.mul_comm (y + 1) 2, Nat.mul_assoc 2, ← Nat.mul_assoc 2 2]
  have h5 : 4 * ((q + 1) * x) ≤ (x + (q + 1)) * (x + (q + 1)) := by
    have e1 : ((4 * ((q + 1) * x) : Nat) : Int) = 4 * (((q : Int) + 1) * x) := by simp
    have e2 : (((x + (q + 1)) * (x + (q + 1)) : Nat) : Int) = ((x : Int) + (q + 1)) * (x + (q + 1)) := by simp
    omega
  omega
theorem root_ex : ∀ a : Nat, ∃ r, r * r ≤ a ∧ a < (r + 1) * (r + 1)
  | 0 => ⟨0, by omega, by omega⟩
  | a + 1 => by
    obtain ⟨r, h1, h2⟩ := root_ex a
    by_cases h : (r + 1) * (r + 1) ≤ a + 1
    · refine ⟨r + 1, h, ?_⟩
      have : (r + 1 + 1) * (r + 1 + 1) = (r + 1) * (r + 1) + 2 * (r + 1) + 1 := by simp only [Nat.add_mul, Nat.mul_add]; omega
      omega
    · exact ⟨r, by omega, by omega⟩
/-- The root, down. -/
noncomputable def isq (a : Nat) : Nat := Classical.choose (root_ex a)
theorem isq_le (a : Nat) : isq a * isq a ≤ a := (Classical.choose_spec (root_ex a)).1
theorem isq_lt (a : Nat) : a < (isq a + 1) * (isq a + 1) := (Classical.choose_spec (root_ex a)).2
theorem isq_eq {a r : Nat} (h1 : r * r ≤ a) (h2 : a < (r + 1) * (r + 1)) : isq a = r := by
  have lt : ∀ {x y : Nat}, x * x < (y + 1) * (y + 1) → x ≤ y := fun {x y} h => by
    rcases Nat.lt_or_ge y x with h3 | h3
    · have := Nat.mul_le_mul (show y + 1 ≤ x by omega) (show y + 1 ≤ x by omega); omega
    · exact h3
  have := lt (Nat.lt_of_le_of_lt (isq_le a) h2)
  have := lt (Nat.lt_of_le_of_lt h1 (isq_lt a))
  omega
theorem dig_one : dig 1 = [1] := by rw [dig_pos (by omega)]; simp [dig_zero]
theorem natRoot_ok (a : Nat) (ha : (dig a).length ≤ 100000) : AFunP Try.prog 48 [.fi .i64 (dig a)] (· = .tup [.fi .i64 (dig (isq a)), .pr (isq a * isq a = a)]) := by
  refine afun_of Try.func48 Try.call48 rfl Try.ntmps48 rfl ?_
  have W : Walk Try.prog TT 48 _ := Walk.of TT_ok Try.func48 Try.results48
  refine sp W 0 rfl rfl rfl (fun h0 => ?_) (fun h0 => ?_)
  · have : a = 0 := dig_nil.1 (List.eq_nil_of_length_eq_zero (by omega))
    subst this
    have e : isq 0 = 0 := isq_eq (by omega) (by omega)
    refine rp W 0 rfl rfl rfl (.tup ⟨.trans .nils_fi (.fi (by rw [e, dig_zero])), .yes (by rw [e]), trivial⟩)
  have ha0 : a ≠ 0 := by rintro rfl; simp [dig_zero] at h0
  have hbd : bitL a ≤ 1600000 := by
    obtain ⟨k, hk⟩ : ∃ k, k = 1600000 := ⟨_, rfl⟩
    rw [← hk, bitL_lt]
    have := (dig_len_le (n := a) (k := (dig a).length)).1 (Nat.le_refl _)
    refine Nat.lt_of_lt_of_le this ?_
    rw [show (65536 : Nat) = 2 ^ 16 from rfl, ← Nat.pow_mul]; exact Nat.pow_le_pow_right (by omega) (by omega)
  obtain ⟨k, hk⟩ : ∃ k, (bitL a + 1) / 2 = k := ⟨_, rfl⟩
  have k0 : AFunP Try.prog 74 [.fi .i64 [1], .int .i64 (((bitL a : Int) + 1) / 2)] (· = .fi .i64 (dig (2 ^ k))) := by
    rw [show ((bitL a : Int) + 1) / 2 = (k : Nat) by omega]
    have := natShiftUp_ok 1 k (by rw [dig_one]; simp) (by omega)
    rwa [dig_one, Nat.one_mul] at this
  refine ce W 0 rfl rfl (natBits_ok a (by omega)) rfl ?_
  refine cf W 0 [0] [0] rfl rfl rfl rfl rfl rfl (k0) rfl ?_
  have x0 : (dig (2 ^ k)).length ≤ 200000 := by
    obtain ⟨n, hn⟩ : ∃ n, n = 200000 := ⟨_, rfl⟩
    rw [← hn, dig_len_le, show (65536 : Nat) = 2 ^ 16 from rfl, ← Nat.pow_mul]; exact Nat.pow_lt_pow_right (by omega) (by omega)
  have x1 : a < 2 ^ k * 2 ^ k := by
    have h1 := (bitL_lt (bitL a) a).1 (Nat.le_refl _)
    refine Nat.lt_of_lt_of_le h1 ?_
    rw [← Nat.pow_add]; exact Nat.pow_le_pow_right (by omega) (by omega)
  have xp : 0 < 2 ^ k := Nat.pow_pos (by omega)
  refine lp W 0 (σ := Nat) (fun s => [(0, .fi .i64 (dig a)), (4, .fi .i64 (dig s))]) (fun _ => [.dead]) (fun s => s)
    (fun s => 0 < s ∧ (dig s).length ≤ 200000 ∧ a < (s + 1) * (s + 1)) (2 ^ k) [0, 4] rfl rfl rfl ⟨xp, x0, Nat.lt_of_lt_of_le x1 (Nat.mul_le_mul (by omega) (by omega))⟩ ?_
  rintro x ⟨h1, h2, h3⟩ ih
  have hq := Nat.le_trans (dig_len_mono (Nat.div_le_self a x)) ha
  refine ce W 0 rfl rfl (natDiv_ok a x (by omega) (by omega) (by omega)) rfl ?_
  refine ce W 0 rfl rfl (natAdd_ok x (a / x) (by omega) (by omega)) rfl ?_
  have hxq : (dig (x + a / x)).length ≤ 400000 := by
    obtain ⟨n, hn⟩ : ∃ n, n = 200000 := ⟨_, rfl⟩
    have g1 := dig_len_le.1 (show (dig x).length ≤ n by omega)
    have g2 := dig_len_le.1 (show (dig (a / x)).length ≤ n by omega)
    have g3 : (dig (x + a / x)).length ≤ n + 1 := by
      rw [dig_len_le, Nat.pow_succ]
      generalize 65536 ^ n = z at *
      omega
    omega
  have k1 : AFunP Try.prog 74 [.fi .i64 (dig (x + a / x)), .int .i64 (-1)] (· = .fi .i64 (dig ((x + a / x) / 2))) := by
    have := natShiftDown_ok (x + a / x) 1 (by omega) (by omega) (by omega)
    simpa using this
  refine ce W 0 rfl rfl (k1) rfl ?_
  refine ce W 0 rfl rfl (natCmp_ok ((x + a / x) / 2) x (Nat.le_trans (dig_len_mono (Nat.div_le_self _ 2)) (by omega)) (by omega)) rfl ?_
  have hy : a < ((x + a / x) / 2 + 1) * ((x + a / x) / 2 + 1) := newton (q := a / x) (x := x) (by
    have := Nat.div_add_mod a x; have := Nat.mod_lt a h1; rw [Nat.add_mul, Nat.mul_comm]; omega) (by omega)
  refine sp W 0 rfl rfl rfl (fun h4 => ?_) (fun h4 => ?_)
  · have h5 : x ≤ (x + a / x) / 2 := by unfold sgn at h4; omega
    have h6 : x * x ≤ a := Nat.le_trans (Nat.mul_le_mul_right x (show x ≤ a / x by omega)) (Nat.div_mul_le_self a x)
    have e : isq a = x := isq_eq h6 h3
    refine ce W 0 rfl rfl (natMul_ok x x (by omega) (by omega)) rfl ?_
    refine ce W 0 rfl rfl (natCmp_ok (x * x) a (Nat.le_trans (dig_len_mono h6) (by omega)) (by omega)) rfl ?_
    refine rp W 0 rfl rfl rfl (.tup ⟨.fi (by rw [e]), .pr (by rw [e]; unfold sgn; omega), trivial⟩)
  · have h5 : (x + a / x) / 2 < x := by unfold sgn at h4; omega
    have h6 : 0 < (x + a / x) / 2 := by
      rcases Nat.eq_zero_or_pos ((x + a / x) / 2) with h | h
      · rw [h] at hy; omega
      · exact h
    refine bk W 0 [0, 4] rfl rfl (ih ((x + a / x) / 2) ⟨h6, Nat.le_trans (dig_len_mono (Nat.le_of_lt h5)) h2, hy⟩ h5)
end Pf
/- Boxes: slices of pairs. -/
namespace Pf
open Go Go.Proofs

/-- Rows of pairs. -/
def prow (l : List (Int × Int)) : Nat → List AV := fun i => [.int .i64 (l.getD i (0, 0)).1, .int .i64 (l.getD i (0, 0)).2]
def bx (l : List (Int × Int)) : AV := .agg [.fz l.length (prow l)]
def boxOk (w : Int) (l : List (Int × Int)) : Prop := 1 ≤ l.length ∧ l.length ≤ 6 ∧ ∀ a ∈ l, pairOk w a.1 a.2
end Pf
/- Whole numbers: which digits are one. -/
namespace Pf
open Go Go.Proofs

theorem indexInt_ok (l : List Int) (g : FuncId) (cs : List AV) (p : Int → Prop) (hl : l.length ≤ 9223372036854775806) (hc : cloL cs = true)
    (h : ∀ a ∈ l, AFunP Try.prog g (.int .i64 a :: cs) (· = .pr (p a))) :
    AFunP Try.prog 98 [.fi .i64 l, .fn g [] cs] (fun u => ∃ r, u = .int .i64 r ∧ (0 ≤ r ↔ ∃ a ∈ l, p a)) := by
  refine afun_of Try.func98 Try.call98 rfl Try.ntmps98 rfl ?_
  have W : Walk Try.prog TT 98 _ := Walk.of TT_ok Try.func98 Try.results98
  refine go_loop W 0 200 (σ := Nat) (fun i => [(0, .fi .i64 l), (1, .fn g [] cs), (7, .int .i64 l.length), (8, .int .i64 i)]) (fun _ => []) (fun i => l.length - i) (fun i => i ≤ l.length ∧ ∀ j, j < i → ¬ p (l.getD j 0)) 0 [0, 1, 7, 8] rfl rfl rfl trivial
    ⟨Nat.zero_le _, fun j hj => by omega⟩ ?_
  rintro i ⟨hi, he⟩ ih
  refine sp W 0 rfl rfl rfl (fun h1 => ?_) (fun h1 => ?_)
  · have h1 : i < l.length := by omega
    refine go_callE W 0 300 rfl (by first | exact True.intro | (simp only [AllC, AllP, addN, Int.toNat_natCast, true_and, and_true, Option.getD, List.length_set, wrapU, pw1, pw7, pw8, pw16, pw23, pw32, pw52, Holds] <;> first | omega | ((repeat' apply And.intro) <;> first | omega | (intros; rfl))) | (simp [AllC, AllP, addN, cloL, clo, mrgL, mrg, wrapU, Holds] <;> omega)) (by simp [cloL, clo, hc]) (h (l.getD i 0) (getD_mem h1)) rfl ?_
    refine sp W 0 rfl rfl rfl (fun h2 => ?_) (fun h2 => ?_)
    · refine rq W 0 rfl rfl (.int .i64 (i : Int)) (⟨_, rfl, ?_⟩) rfl .refl
      simp only [Int.natCast_nonneg, true_iff]
      exact ⟨_, getD_mem h1, h2⟩
    · refine go_back W 0 200 (ds := [0, 1, 7, 8]) rfl rfl (by first | exact True.intro | (simp only [AllC, AllP, addN, Int.toNat_natCast, true_and, and_true, Option.getD, List.length_set, wrapU, pw1, pw7, pw8, pw16, pw23, pw32, pw52, Holds] <;> first | omega | ((repeat' apply And.intro) <;> first | omega | (intros; rfl))) | (simp [AllC, AllP, addN, cloL, clo, mrgL, mrg, wrapU, Holds] <;> omega)) (ih (i + 1) ⟨by omega, fun j hj => ?_⟩ (by omega))
      by_cases hji : j = i
      · subst hji; exact h2
      · exact he j (by omega)
  · refine rq W 0 rfl rfl (.int .i64 (-1)) (⟨_, rfl, ?_⟩) rfl .refl
    constructor
    · intro h; omega
    · rintro ⟨a, ha, hp⟩
      obtain ⟨j, hj, rfl⟩ := mem_getD 0 ha
      exact absurd hp (he j (by omega))
theorem containsInt_ok (l : List Int) (g : FuncId) (cs : List AV) (p : Int → Prop) (hl : l.length ≤ 9223372036854775806) (hc : cloL cs = true)
    (h : ∀ a ∈ l, AFunP Try.prog g (.int .i64 a :: cs) (· = .pr (p a))) :
    AFunP Try.prog 95 [.fi .i64 l, .fn g [] cs] (· = .pr (∃ a ∈ l, p a)) := by
  refine afun_of Try.func95 Try.call95 rfl Try.ntmps95 rfl ?_
  have W : Walk Try.prog TT 95 _ := Walk.of TT_ok Try.func95 Try.results95
  refine go_callQ W 0 300 rfl (by first | exact True.intro | (simp only [AllC, AllP, addN, Int.toNat_natCast, true_and, and_true, Option.getD, List.length_set, wrapU, pw1, pw7, pw8, pw16, pw23, pw32, pw52, Holds] <;> first | omega | ((repeat' apply And.intro) <;> first | omega | (intros; rfl))) | (simp [AllC, AllP, addN, cloL, clo, mrgL, mrg, wrapU, Holds] <;> omega)) (by simp [cloL, clo, hc]) (indexInt_ok l g cs p hl hc h) ?_
  rintro _ ⟨r, rfl, hr⟩
  refine ⟨_, rfl, ?_⟩
  refine rp W 0 rfl rfl rfl (.pr hr)
/-- Digits of a number that is not too long. -/
def natOk (l : List Int) : Prop := l.length ≤ 256 ∧ (l.length = 0 ∨ l.getD (l.length - 1) 0 ≠ 0) ∧ Dgs l
theorem natOk1_ok (d : Int) : AFunP Try.prog 96 [.int .i64 d] (· = .pr ¬(0 ≤ d ∧ d ≤ 65535)) := by
  refine afun_of Try.func96 Try.call96 rfl Try.ntmps96 rfl ?_
  have W : Walk Try.prog TT 96 _ := Walk.of TT_ok Try.func96 Try.results96
  refine ce W 0 rfl rfl (in_ok _ _ _) rfl ?_
  refine rp W 0 rfl rfl rfl (.refl)
theorem implNatOk_ok (l : List Int) (hl : l.length ≤ 9223372036854775806) : AFunP Try.prog 89 [.fi .i64 l] (· = .pr (natOk l)) := by
  refine afun_of Try.func89 Try.call89 rfl Try.ntmps89 rfl ?_
  have W : Walk Try.prog TT 89 _ := Walk.of TT_ok Try.func89 Try.results89
  have hD : (¬ ∃ a ∈ l, ¬ (0 ≤ a ∧ a ≤ 65535)) ↔ Dgs l := by
    constructor
    · intro h d hd
      have := Classical.byContradiction fun h3 => h ⟨d, hd, h3⟩
      omega
    · rintro h ⟨a, ha, h4⟩
      have := h a ha
      omega
  have hC := containsInt_ok l 96 [] (fun d => ¬ (0 ≤ d ∧ d ≤ 65535)) hl rfl fun d _ => natOk1_ok d
  refine sp W 0 rfl rfl rfl (fun h1 => ?_) (fun h1 => ?_)
  · refine sp W 0 rfl rfl rfl (fun h2 => ?_) (fun h2 => ?_)
    · refine ce W 0 rfl rfl (hC) rfl ?_
      refine rp W 0 rfl rfl rfl (.pr (by unfold natOk; rw [← hD]; constructor <;> intro h <;> first | exact ⟨by omega, .inl (by omega), h⟩ | exact h.2.2))
    · have e : ((l.length : Int) - 1).toNat = l.length - 1 := by omega
      refine sp W 0 rfl rfl rfl (fun h3 => ?_) (fun h3 => ?_)
      · rw [e] at h3
        refine ce W 0 rfl rfl (hC) rfl ?_
        refine rp W 0 rfl rfl rfl (.pr (by unfold natOk; rw [← hD]; constructor <;> intro h <;> first | exact ⟨by omega, .inr h3, h⟩ | exact h.2.2))
      · rw [e] at h3
        refine rp W 0 rfl rfl rfl (.no (by unfold natOk; omega))
  · refine rp W 0 rfl rfl rfl (.no (by unfold natOk; omega))
/-- They are the digits of a number. -/
theorem natOk_dig {l : List Int} (h : natOk l) : ∃ n : Nat, l = dig n ∧ (dig n).length ≤ 256 := by
  obtain ⟨h1, h2, h3⟩ := h
  have e : l = dig (val l).toNat := by
    rw [← trimL_dig h3]
    rcases h2 with h2 | h2
    · rw [List.eq_nil_of_length_eq_zero h2, trimL_nil]
    · rcases List.eq_nil_or_concat l with h4 | ⟨m, d, h4⟩
      · subst h4; rfl
      · subst h4
        have h5 : d ≠ 0 := by simpa using h2
        simp only [List.concat_eq_append] at *
        rw [trimL_snoc, if_neg h5]
  exact ⟨_, e, by rw [← e]; exact h1⟩
theorem dig_top : ∀ n : Nat, n ≠ 0 → (dig n).getD ((dig n).length - 1) 0 ≠ 0 := by
  intro n
  induction n using Nat.strongRecOn with
  | ind n ih =>
    intro hn
    by_cases h : n / 65536 = 0
    · rw [dig_pos hn, h, dig_zero]; simp; omega
    · have := ih (n / 65536) (by omega) h
      have hl : 0 < (dig (n / 65536)).length := by
        cases hd : dig (n / 65536) with
        | nil => exact absurd (dig_nil.1 hd) h
        | cons a l => simp
      rw [dig_pos hn]
      simp only [List.length_cons]
      obtain ⟨m, hm⟩ : ∃ m, (dig (n / 65536)).length = m + 1 := ⟨_, (Nat.sub_add_cancel hl).symm⟩
      rw [hm] at this ⊢
      simpa using this
theorem natOk_of {n : Nat} (h : (dig n).length ≤ 256) : natOk (dig n) := by
  refine ⟨h, ?_, dig_dgs n⟩
  by_cases hn : n = 0
  · left; rw [hn, dig_zero]; rfl
  · right; exact dig_top n hn
theorem indexInts_ok (l : List (List Int)) (g : FuncId) (cs : List AV) (p : List Int → Prop) (hl : l.length ≤ 9223372036854775806) (hc : cloL cs = true)
    (h : ∀ a ∈ l, AFunP Try.prog g (.fi .i64 a :: cs) (· = .pr (p a))) :
    AFunP Try.prog 94 [.fz l.length (fun i => [.fi .i64 (l.getD i [])]), .fn g [] cs] (fun u => ∃ r, u = .int .i64 r ∧ (0 ≤ r ↔ ∃ a ∈ l, p a)) := by
  refine afun_of Try.func94 Try.call94 rfl Try.ntmps94 rfl ?_
  have W : Walk Try.prog TT 94 _ := Walk.of TT_ok Try.func94 Try.results94
  refine go_loop W 0 200 (σ := Nat) (fun i => [(0, .fz l.length (fun i => [.fi .i64 (l.getD i [])])), (1, .fn g [] cs), (7, .int .i64 l.length), (8, .int .i64 i)]) (fun _ => []) (fun i => l.length - i) (fun i => i ≤ l.length ∧ ∀ j, j < i → ¬ p (l.getD j [])) 0 [0, 1, 7, 8] rfl rfl rfl trivial
    ⟨Nat.zero_le _, fun j hj => by omega⟩ ?_
  rintro i ⟨hi, he⟩ ih
  refine sp W 0 rfl rfl rfl (fun h1 => ?_) (fun h1 => ?_)
  · have h1 : i < l.length := by omega
    refine go_callE W 0 300 rfl (by first | exact True.intro | (simp only [AllC, AllP, addN, Int.toNat_natCast, true_and, and_true, Option.getD, List.length_set, wrapU, pw1, pw7, pw8, pw16, pw23, pw32, pw52, Holds] <;> first | omega | ((repeat' apply And.intro) <;> first | omega | (intros; rfl))) | (simp [AllC, AllP, addN, cloL, clo, mrgL, mrg, wrapU, Holds] <;> omega)) (by simp [cloL, clo, hc]) (h (l.getD i []) (getD_mem h1)) rfl ?_
    refine sp W 0 rfl rfl rfl (fun h2 => ?_) (fun h2 => ?_)
    · refine rq W 0 rfl rfl (.int .i64 (i : Int)) (⟨_, rfl, ?_⟩) rfl .refl
      simp only [Int.natCast_nonneg, true_iff]
      exact ⟨_, getD_mem h1, h2⟩
    · refine go_back W 0 200 (ds := [0, 1, 7, 8]) rfl rfl (by first | exact True.intro | (simp only [AllC, AllP, addN, Int.toNat_natCast, true_and, and_true, Option.getD, List.length_set, wrapU, pw1, pw7, pw8, pw16, pw23, pw32, pw52, Holds] <;> first | omega | ((repeat' apply And.intro) <;> first | omega | (intros; rfl))) | (simp [AllC, AllP, addN, cloL, clo, mrgL, mrg, wrapU, Holds] <;> omega)) (ih (i + 1) ⟨by omega, fun j hj => ?_⟩ (by omega))
      by_cases hji : j = i
      · subst hji; exact h2
      · exact he j (by omega)
  · refine rq W 0 rfl rfl (.int .i64 (-1)) (⟨_, rfl, ?_⟩) rfl .refl
    constructor
    · intro h; omega
    · rintro ⟨a, ha, hp⟩
      obtain ⟨j, hj, rfl⟩ := mem_getD [] ha
      exact absurd hp (he j (by omega))
theorem containsInts_ok (l : List (List Int)) (g : FuncId) (cs : List AV) (p : List Int → Prop) (hl : l.length ≤ 9223372036854775806) (hc : cloL cs = true)
    (h : ∀ a ∈ l, AFunP Try.prog g (.fi .i64 a :: cs) (· = .pr (p a))) :
    AFunP Try.prog 87 [.fz l.length (fun i => [.fi .i64 (l.getD i [])]), .fn g [] cs] (· = .pr (∃ a ∈ l, p a)) := by
  refine afun_of Try.func87 Try.call87 rfl Try.ntmps87 rfl ?_
  have W : Walk Try.prog TT 87 _ := Walk.of TT_ok Try.func87 Try.results87
  refine go_callQ W 0 300 rfl (by first | exact True.intro | (simp only [AllC, AllP, addN, Int.toNat_natCast, true_and, and_true, Option.getD, List.length_set, wrapU, pw1, pw7, pw8, pw16, pw23, pw32, pw52, Holds] <;> first | omega | ((repeat' apply And.intro) <;> first | omega | (intros; rfl))) | (simp [AllC, AllP, addN, cloL, clo, mrgL, mrg, wrapU, Holds] <;> omega)) (by simp [cloL, clo, hc]) (indexInts_ok l g cs p hl hc h) ?_
  rintro _ ⟨r, rfl, hr⟩
  refine ⟨_, rfl, ?_⟩
  refine rp W 0 rfl rfl rfl (.pr hr)
theorem nats1_ok (l : List Int) (hl : l.length ≤ 9223372036854775806) : AFunP Try.prog 88 [.fi .i64 l] (· = .pr ¬natOk l) := by
  refine afun_of Try.func88 Try.call88 rfl Try.ntmps88 rfl ?_
  have W : Walk Try.prog TT 88 _ := Walk.of TT_ok Try.func88 Try.results88
  refine ce W 0 rfl rfl (implNatOk_ok l hl) rfl ?_
  refine rp W 0 rfl rfl rfl (.refl)
theorem nats_ok (l : List (List Int)) (hl : l.length ≤ 9223372036854775806) (hs : ∀ a ∈ l, a.length ≤ 9223372036854775806) : AFunP Try.prog 71 [.fz l.length (fun i => [.fi .i64 (l.getD i [])])] (· = .pr (∀ a ∈ l, natOk a)) := by
  refine afun_of Try.func71 Try.call71 rfl Try.ntmps71 rfl ?_
  have W : Walk Try.prog TT 71 _ := Walk.of TT_ok Try.func71 Try.results71
  refine ce W 0 rfl rfl (containsInts_ok l 88 [] (fun a => ¬ natOk a) hl rfl fun a ha => nats1_ok a (hs a ha)) rfl ?_
  refine rp W 0 rfl rfl rfl (.pr ⟨fun h a ha => Classical.byContradiction fun h2 => h ⟨a, ha, h2⟩, fun h ⟨a, ha, h2⟩ => h2 (h a ha)⟩)
end Pf
/- Fractions: which are one. -/
namespace Pf
open Go Go.Proofs

theorem AFun.sub {P : Program} {f : FuncId} {args args' : List AV} {H : AHeap} {R : AV → AHeap → Prop} (h : AFun P f args' H R) (s : Subs args args') : AFun P f args H R :=
  ⟨h.enters, fun FM β cs w cargs hv hh => h.run FM β cs w cargs ⟨by rw [s.len]; exact hv.1, fun i hi => s.get i (by rw [← s.len]; exact hi) hi _ _ _ (hv.2 i (by rw [← s.len]; exact hi))⟩ hh⟩
theorem nats2_ok (t u : List Int) (ht : t.length ≤ 9223372036854775806) (hu : u.length ≤ 9223372036854775806) : AFunP Try.prog 71 [.fz 2 fun i => [[AV.fi .i64 t], [AV.fi .i64 u]].getD i []] (· = .pr (natOk t ∧ natOk u)) := by
  have h := nats_ok [t, u] (by simp) (by simp; exact ⟨ht, hu⟩)
  have h2 : AFunP Try.prog 71 [.fz 2 fun i => [[AV.fi .i64 t], [AV.fi .i64 u]].getD i []] _ := AFun.sub h ⟨.fzn rfl fun i hi => by
    rcases (by omega : i = 0 ∨ i = 1) with rfl | rfl <;> rfl, trivial⟩
  refine h2.mono fun v hv => ?_
  rw [hv]; simp
theorem implFracOk_ok (p : Prop) (t u : List Int) (ht : t.length ≤ 9223372036854775806) (hu : u.length ≤ 9223372036854775806) : AFunP Try.prog 40 [.agg [.pr p, .fi .i64 t, .fi .i64 u]] (· = .pr (natOk t ∧ natOk u ∧ u ≠ [] ∧ (t = [] → ¬ p) ∧ Nat.gcd (val t).toNat (val u).toNat = 1)) := by
  refine afun_of Try.func40 Try.call40 rfl Try.ntmps40 rfl ?_
  have W : Walk Try.prog TT 40 _ := Walk.of TT_ok Try.func40 Try.results40
  refine cf W 0 [1] [0, 1] rfl rfl rfl rfl rfl rfl (nats2_ok t u ht hu) rfl ?_
  refine sp W 0 rfl rfl rfl (fun h1 => ?_) (fun h1 => ?_)
  · obtain ⟨a, rfl, ha⟩ := natOk_dig h1.1
    obtain ⟨b, rfl, hb⟩ := natOk_dig h1.2
    have va : (val (dig a)).toNat = a := by rw [val_dig]; simp
    have vb : (val (dig b)).toNat = b := by rw [val_dig]; simp
    rw [va, vb]
    refine sp W 0 rfl rfl rfl (fun h2 => ?_) (fun h2 => ?_)
    · have hb0 : b ≠ 0 := by rintro rfl; simp [dig_zero] at h2
      have hg := dig_len_mono (Nat.gcd_le_right a (show 0 < b by omega))
      have kc : AFunP Try.prog 61 [.fi .i64 (dig (Nat.gcd a b)), .fi .i64 [1]] (· = .int .i64 (sgn ((Nat.gcd a b : Int) - (1 : Nat)))) := by
        have := natCmp_ok (Nat.gcd a b) 1 (by omega) (by rw [dig_one]; simp)
        rwa [dig_one] at this
      have nb : dig b ≠ [] := fun h => hb0 (dig_nil.1 h)
      refine sp W 0 rfl rfl rfl (fun h3 => ?_) (fun h3 => ?_)
      · have na : dig a ≠ [] := by intro h; rw [h] at h3; simp at h3
        refine ce W 0 rfl rfl (natGcd_ok a b (by omega) (by omega)) rfl ?_
        refine cf W 0 [2] [24, 25, 26] rfl rfl rfl rfl rfl rfl (kc) rfl ?_
        refine rp W 0 rfl rfl rfl (.pr (by unfold sgn; constructor <;> intro h <;> first | exact ⟨h1.1, h1.2, nb, fun h => absurd h na, by omega⟩ | (have := h.2.2.2.2; omega)))
      · have na : dig a = [] := List.eq_nil_of_length_eq_zero (by omega)
        refine sp W 0 rfl rfl rfl (fun h4 => ?_) (fun h4 => ?_)
        · refine ce W 0 rfl rfl (natGcd_ok a b (by omega) (by omega)) rfl ?_
          refine cf W 0 [2] [24, 25, 26] rfl rfl rfl rfl rfl rfl (kc) rfl ?_
          refine rp W 0 rfl rfl rfl (.pr (by unfold sgn; constructor <;> intro h <;> first | exact ⟨h1.1, h1.2, nb, fun _ => h4, by omega⟩ | (have := h.2.2.2.2; omega)))
        · refine rp W 0 rfl rfl rfl (.no (by rintro ⟨_, _, _, h, _⟩; exact h4 (h na)))
    · refine rp W 0 rfl rfl rfl (.no (by rintro ⟨_, _, h, _⟩; exact h (List.eq_nil_of_length_eq_zero (by omega))))
  · refine rp W 0 rfl rfl rfl (.no (by rintro ⟨h2, h3, _⟩; exact h1 ⟨h2, h3⟩))
end Pf
/- Fractions: impl's own functions. -/
namespace Pf
open Go Go.Proofs

theorem lowest_ok (p : Prop) (a b : Nat) (hb : b ≠ 0) (ha : (dig a).length ≤ 100000) (hbl : (dig b).length ≤ 100000) : AFunP Try.prog 69 [.pr p, .fi .i64 (dig a), .fi .i64 (dig b)] (· = frF (p ∧ a ≠ 0) (dig (a / Nat.gcd a b)) (dig (b / Nat.gcd a b))) := by
  refine afun_of Try.func69 Try.call69 rfl Try.ntmps69 rfl ?_
  have W : Walk Try.prog TT 69 _ := Walk.of TT_ok Try.func69 Try.results69
  have hg := dig_len_mono (Nat.gcd_le_right a (show 0 < b by omega))
  have hg0 : Nat.gcd a b ≠ 0 := by have := Nat.gcd_pos_of_pos_right a (show 0 < b by omega); omega
  have kc : AFunP Try.prog 61 [.fi .i64 (dig (Nat.gcd a b)), .fi .i64 [1]] (· = .int .i64 (sgn ((Nat.gcd a b : Int) - (1 : Nat)))) := by
    have := natCmp_ok (Nat.gcd a b) 1 (by omega) (by rw [dig_one]; simp)
    rwa [dig_one] at this
  refine ce W 0 rfl rfl (natGcd_ok a b (by omega) (by omega)) rfl ?_
  refine cf W 0 [1] [0, 1, 2, 6, 7] rfl rfl rfl rfl rfl rfl (kc) rfl ?_
  have ha' := Nat.div_le_self a (Nat.gcd a b)
  have hz : (dig (a / Nat.gcd a b)).length = 0 ↔ a = 0 := by
    constructor
    · intro h
      have h2 := dig_nil.1 (List.eq_nil_of_length_eq_zero h)
      have h3 := Nat.div_mul_cancel (Nat.gcd_dvd_left a b)
      rw [h2] at h3; omega
    · intro h; subst h; simp [dig_zero]
  refine sp W 0 rfl rfl rfl (fun h1 => ?_) (fun h1 => ?_)
  · refine ce W 0 rfl rfl (natDiv_ok a (Nat.gcd a b) hg0 (by omega) (by omega)) rfl ?_
    refine ce W 0 rfl rfl (natDiv_ok b (Nat.gcd a b) hg0 (by omega) (by omega)) rfl ?_
    refine sp W 0 rfl rfl rfl (fun h3 => ?_) (fun h3 => ?_)
    · refine rp W 0 rfl rfl rfl (.agg ⟨.pr (by constructor <;> intro h <;> first | exact ⟨h3, fun h2 => by rw [hz.2 h2] at h; simp at h⟩ | (have : ¬ (dig (a / Nat.gcd a b)).length = 0 := fun h4 => h.2 (hz.1 h4); omega)), .refl, .refl, trivial⟩)
    · refine rp W 0 rfl rfl rfl (.agg ⟨.no (fun h => h3 h.1), .refl, .refl, trivial⟩)
  · have h2 : Nat.gcd a b = 1 := by unfold sgn at h1; omega
    rw [h2, Nat.div_one] at hz
    rw [h2, Nat.div_one, Nat.div_one]
    refine sp W 0 rfl rfl rfl (fun h3 => ?_) (fun h3 => ?_)
    · refine rp W 0 rfl rfl rfl (.agg ⟨.pr (by constructor <;> intro h <;> first | exact ⟨h3, fun h2 => by rw [hz.2 h2] at h; simp at h⟩ | (have : ¬ (dig a).length = 0 := fun h4 => h.2 (hz.1 h4); omega)), .refl, .refl, trivial⟩)
    · refine rp W 0 rfl rfl rfl (.agg ⟨.no (fun h => h3 h.1), .refl, .refl, trivial⟩)
theorem len_nil {t : List Int} : (0 : Int) < (t.length : Int) ↔ t ≠ [] := by
  cases t <;> simp
theorem fneg_ok (p : Prop) (t u : List Int) (ht : t.length ≤ 9223372036854775806) : AFunP Try.prog 39 [frF p t u] (· = frF (¬ p ∧ t ≠ []) t u) := by
  refine afun_of Try.func39 Try.call39 rfl Try.ntmps39 rfl ?_
  have W : Walk Try.prog TT 39 _ := Walk.of TT_ok Try.func39 Try.results39
  refine sp W 0 rfl rfl rfl (fun h => ?_) (fun h => ?_)
  · refine rp W 0 rfl rfl rfl (.agg ⟨.pr (by rw [len_nil]; exact ⟨fun h2 => ⟨h, h2⟩, fun h2 => h2.2⟩), .refl, .refl, trivial⟩)
  · refine rp W 0 rfl rfl rfl (.agg ⟨.no (fun h2 => h h2.1), .refl, .refl, trivial⟩)
open Classical in
/-- The sign of a fraction. -/
noncomputable def fsgn (p : Prop) (t : List Int) : Int := if p then -1 else if t = [] then 0 else 1
theorem sign_ok (p : Prop) (t u : List Int) (ht : t.length ≤ 9223372036854775806) : AFunP Try.prog 41 [frF p t u] (· = .int .i64 (fsgn p t)) := by
  refine afun_of Try.func41 Try.call41 rfl Try.ntmps41 rfl ?_
  have W : Walk Try.prog TT 41 _ := Walk.of TT_ok Try.func41 Try.results41
  refine sp W 0 rfl rfl rfl (fun h => ?_) (fun h => ?_)
  · refine rp W 0 rfl rfl rfl (.int (by simp [fsgn, h]))
  · refine sp W 0 rfl rfl rfl (fun h2 => ?_) (fun h2 => ?_)
    · have : t = [] := List.eq_nil_of_length_eq_zero (by omega)
      refine rp W 0 rfl rfl rfl (.int (by simp [fsgn, h, this]))
    · have : t ≠ [] := by rintro rfl; simp at h2
      refine rp W 0 rfl rfl rfl (.int (by simp [fsgn, h, this]))
theorem dig_len_mul {a b m n : Nat} (ha : (dig a).length ≤ m) (hb : (dig b).length ≤ n) : (dig (a * b)).length ≤ m + n := by
  rw [dig_len_le] at *
  rw [Nat.pow_add]
  exact Nat.mul_lt_mul'' ha hb
theorem mul_ok (p q : Prop) (a b c d : Nat) (hb : b ≠ 0) (hd : d ≠ 0) (ha : (dig a).length ≤ 1000) (hbl : (dig b).length ≤ 1000) (hc : (dig c).length ≤ 1000) (hdl : (dig d).length ≤ 1000) :
    AFunP Try.prog 43 [frF p (dig a) (dig b), frF q (dig c) (dig d)] (· = frF (¬ (p ↔ q) ∧ a * c ≠ 0) (dig (a * c / Nat.gcd (a * c) (b * d))) (dig (b * d / Nat.gcd (a * c) (b * d)))) := by
  refine afun_of Try.func43 Try.call43 rfl Try.ntmps43 rfl ?_
  have W : Walk Try.prog TT 43 _ := Walk.of TT_ok Try.func43 Try.results43
  have l1 : (dig (a * c)).length ≤ 1000 + 1000 := dig_len_mul ha hc
  have l2 : (dig (b * d)).length ≤ 1000 + 1000 := dig_len_mul hbl hdl
  refine dre W 0 15 [] [.fi .i64 (dig (a * c)), .fi .i64 (dig (b * d))] rfl rfl rfl ⟨(natMul_ok a c (by omega) (by omega)).at rfl _, (natMul_ok b d (by omega) (by omega)).at rfl _, trivial⟩ rfl ?_
  refine ce W 0 rfl rfl (lowest_ok (¬ (p ↔ q)) (a * c) (b * d) (Nat.mul_ne_zero hb hd) (by omega) (by omega)) rfl ?_
  refine rp W 0 rfl rfl rfl (.refl)
theorem div_ok (p q : Prop) (a b c d : Nat) (hb : b ≠ 0) (hc0 : c ≠ 0) (ha : (dig a).length ≤ 1000) (hbl : (dig b).length ≤ 1000) (hc : (dig c).length ≤ 1000) (hdl : (dig d).length ≤ 1000) :
    AFunP Try.prog 45 [frF p (dig a) (dig b), frF q (dig c) (dig d)] (· = frF (¬ (p ↔ q) ∧ a * d ≠ 0) (dig (a * d / Nat.gcd (a * d) (b * c))) (dig (b * c / Nat.gcd (a * d) (b * c)))) := by
  refine afun_of Try.func45 Try.call45 rfl Try.ntmps45 rfl ?_
  have W : Walk Try.prog TT 45 _ := Walk.of TT_ok Try.func45 Try.results45
  have l1 : (dig (a * d)).length ≤ 1000 + 1000 := dig_len_mul ha hdl
  have l2 : (dig (b * c)).length ≤ 1000 + 1000 := dig_len_mul hbl hc
  refine dre W 0 15 [] [.fi .i64 (dig (a * d)), .fi .i64 (dig (b * c))] rfl rfl rfl ⟨(natMul_ok a d (by omega) (by omega)).at rfl _, (natMul_ok b c (by omega) (by omega)).at rfl _, trivial⟩ rfl ?_
  refine ce W 0 rfl rfl (lowest_ok (¬ (p ↔ q)) (a * d) (b * c) (Nat.mul_ne_zero hb hc0) (by omega) (by omega)) rfl ?_
  refine rp W 0 rfl rfl rfl (.refl)
end Pf
/- Fractions: sums. -/
namespace Pf
open Go Go.Proofs

open Classical in
/-- The numerator of a sum, and whether it is below 0: of a/b and c/d, x = a d and y = c b. -/
noncomputable def sumT (p q : Prop) (x y : Nat) : Nat := if (p ↔ q) then x + y else if y ≤ x then x - y else y - x
def sumP (p q : Prop) (x y : Nat) : Prop := if (y ≤ x) then p else q
theorem add_ok (p q : Prop) (a b c d : Nat) (hb : b ≠ 0) (hd : d ≠ 0) (ha : (dig a).length ≤ 1000) (hbl : (dig b).length ≤ 1000) (hc : (dig c).length ≤ 1000) (hdl : (dig d).length ≤ 1000) :
    AFunP Try.prog 38 [frF p (dig a) (dig b), frF q (dig c) (dig d)] (· = frF (sumP p q (a * d) (c * b) ∧ sumT p q (a * d) (c * b) ≠ 0) (dig (sumT p q (a * d) (c * b) / Nat.gcd (sumT p q (a * d) (c * b)) (b * d))) (dig (b * d / Nat.gcd (sumT p q (a * d) (c * b)) (b * d)))) := by
  refine afun_of Try.func38 Try.call38 rfl Try.ntmps38 rfl ?_
  have W : Walk Try.prog TT 38 _ := Walk.of TT_ok Try.func38 Try.results38
  have l1 : (dig (a * d)).length ≤ 1000 + 1000 := dig_len_mul ha hdl
  have l2 : (dig (c * b)).length ≤ 1000 + 1000 := dig_len_mul hc hbl
  have l3 : (dig (b * d)).length ≤ 1000 + 1000 := dig_len_mul hbl hdl
  refine dre W 0 10 [] [.fi .i64 (dig (a * d)), .fi .i64 (dig (c * b))] rfl rfl rfl ⟨(natMul_ok a d (by omega) (by omega)).at rfl _, (natMul_ok c b (by omega) (by omega)).at rfl _, trivial⟩ rfl ?_
  refine ce W 0 rfl rfl (natMul_ok b d (by omega) (by omega)) rfl ?_
  have l4 : (dig (a * d + c * b)).length ≤ 2001 := by
    obtain ⟨n, hn⟩ : ∃ n, n = 1000 + 1000 := ⟨_, rfl⟩
    rw [← hn] at l1 l2
    have g1 := dig_len_le.1 l1
    have g2 := dig_len_le.1 l2
    rw [show 2001 = n + 1 by omega, dig_len_le, Nat.pow_succ]
    generalize 65536 ^ n = z at *
    omega
  refine sp W 0 rfl rfl rfl (fun h1 => ?_) (fun h1 => ?_)
  · have e : sumT p q (a * d) (c * b) = a * d + c * b := by simp [sumT, h1]
    have e2 : p ↔ sumP p q (a * d) (c * b) := by unfold sumP; split <;> simp [h1]
    refine dre W 0 6 [] [.fi .i64 (dig (a * d + c * b))] rfl rfl rfl ⟨(natAdd_ok (a * d) (c * b) (by omega) (by omega)).at rfl _, trivial⟩ rfl ?_
    refine ce W 0 rfl rfl (lowest_ok p (a * d + c * b) (b * d) (Nat.mul_ne_zero hb hd) (by omega) (by omega)) rfl ?_
    refine rp W 0 rfl rfl rfl (.agg ⟨.pr (by rw [e, ← e2]), .fi (by rw [e]), .fi (by rw [e]), trivial⟩)
  · refine ce W 0 rfl rfl (natCmp_ok (a * d) (c * b) (by omega) (by omega)) rfl ?_
    refine sp W 0 rfl rfl rfl (fun h2 => ?_) (fun h2 => ?_)
    · have h3 : c * b ≤ a * d := by unfold sgn at h2; omega
      have e : sumT p q (a * d) (c * b) = a * d - c * b := by simp [sumT, h1, h3]
      have e2 : p ↔ sumP p q (a * d) (c * b) := by simp [sumP, h3]
      have l5 := dig_len_mono (Nat.sub_le (a * d) (c * b))
      refine dre W 0 6 [] [.fi .i64 (dig (a * d - c * b))] rfl rfl rfl ⟨(natSub_ok (a * d) (c * b) h3 (by omega)).at rfl _, trivial⟩ rfl ?_
      refine ce W 0 rfl rfl (lowest_ok p (a * d - c * b) (b * d) (Nat.mul_ne_zero hb hd) (by omega) (by omega)) rfl ?_
      refine rp W 0 rfl rfl rfl (.agg ⟨.pr (by rw [e, ← e2]), .fi (by rw [e]), .fi (by rw [e]), trivial⟩)
    · have h3 : ¬ c * b ≤ a * d := by unfold sgn at h2; omega
      have e : sumT p q (a * d) (c * b) = c * b - a * d := by simp [sumT, h1, h3]
      have e2 : q ↔ sumP p q (a * d) (c * b) := by simp [sumP, h3]
      have l5 := dig_len_mono (Nat.sub_le (c * b) (a * d))
      refine dre W 0 6 [] [.fi .i64 (dig (c * b - a * d))] rfl rfl rfl ⟨(natSub_ok (c * b) (a * d) (by omega) (by omega)).at rfl _, trivial⟩ rfl ?_
      refine ce W 0 rfl rfl (lowest_ok q (c * b - a * d) (b * d) (Nat.mul_ne_zero hb hd) (by omega) (by omega)) rfl ?_
      refine rp W 0 rfl rfl rfl (.agg ⟨.pr (by rw [e, ← e2]), .fi (by rw [e]), .fi (by rw [e]), trivial⟩)
end Pf
/- Fractions: what is handed out. -/
namespace Pf
open Go Go.Proofs

section
variable {P : Program} {TT : TypeId → Option TI} {f N n0 : Nat} {k : List Item} {T : Env} {H : AHeap} {R : AV → AHeap → Prop}
variable {nf : Nat} {ops : Array Oper} {past op pend' : List Nat} {vin ws vs' : List (Option Nat × AV)} {ps : List Prop} {cl : List CallM}
/-- An effect that is a call which makes blocks. -/
theorem phx (W : PW P TT N ops nf) (m e : Nat) (hs : List (Nat × Bool)) (us : List AV) {d : Option Nat} {g : FuncId} {args : List AV} {Q : AV → AHeap → Prop}
    (hd : phM TT m ops.toList (dropD (dstsM nf ops.toList) T) H hs past (needsAll ops.toList past []) (e :: pend') op vin nf 0 [] us = some (ps, cl, ws)) (hch : (chainM ops.toList nf e pend' && subM (e :: pend') op) = true) (hcl : AllCalls P H cl)
    (he : effC ops.toList (dropD (dstsM nf ops.toList) T) ws e = some (d, g, args)) (hc : cloL args = true) (hq : AFun P g args [] Q) (hfl : ∀ u H2, Q u H2 → flat u = true ∧ flatH H2)
    (next : ∀ u H2, Q u H2 → ∃ vs' H1, setM (d, shf (lenM H) u) ws e = some vs' ∧ appM H (H2.map (shfB (lenM H))) = some H1 ∧ Ph1 P f N n0 nf ops k T R (e :: past) pend' (e :: pend') vs' H1) (hp : AllP ps := by first | exact True.intro | (simp only [AllC, AllP, addN, Int.toNat_natCast, true_and, and_true, Option.getD, List.length_set, wrapU, pw1, pw7, pw8, pw16, pw23, pw32, pw52, Holds] <;> first | omega | ((repeat' apply And.intro) <;> first | omega | (intros; rfl))) | (simp [AllC, AllP, addN, cloL, clo, mrgL, mrg, wrapU, Holds] <;> omega)) : Ph1 P f N n0 nf ops k T R past (e :: pend') op vin H :=
  ph_call W m e hs us hd hch hp hcl he (hq.frame hc hfl H) fun v H1 ⟨u, H2, r1, r2, r3⟩ => by
    obtain ⟨vs', H1', q1, q2, q3⟩ := next u H2 r1
    rw [appM_eq] at q2
    rw [lenM_eq] at q1 q2
    cases q2
    subst r2; subst r3
    exact ⟨vs', q1, q3⟩
/-- .. that makes blocks of whole numbers. -/
theorem phn (W : PW P TT N ops nf) (m e : Nat) (hs : List (Nat × Bool)) (us : List AV) {d : Option Nat} {g : FuncId} {args args' : List AV} {ss : List Prop} {Q : AV → AHeap → Prop}
    (hd : phM TT m ops.toList (dropD (dstsM nf ops.toList) T) H hs past (needsAll ops.toList past []) (e :: pend') op vin nf 0 [] us = some (ps, cl, ws)) (hch : (chainM ops.toList nf e pend' && subM (e :: pend') op) = true) (hcl : AllCalls P H cl)
    (he : effC ops.toList (dropD (dstsM nf ops.toList) T) ws e = some (d, g, args)) (ef : mapF (frz (fun _ => true) H 9) args = some (ss, args')) (hc : cloL args' = true) (hq : AFunN P g args' Q)
    (next : ∀ u H2, Q u H2 → ∃ vs' H1, setM (d, shf (lenM H) u) ws e = some vs' ∧ appM H H2 = some H1 ∧ Ph1 P f N n0 nf ops k T R (e :: past) pend' (e :: pend') vs' H1) (hp : AllP ps := by first | exact True.intro | (simp only [AllC, AllP, addN, Int.toNat_natCast, true_and, and_true, Option.getD, List.length_set, wrapU, pw1, pw7, pw8, pw16, pw23, pw32, pw52, Holds] <;> first | omega | ((repeat' apply And.intro) <;> first | omega | (intros; rfl))) | (simp [AllC, AllP, addN, cloL, clo, mrgL, mrg, wrapU, Holds] <;> omega)) (hss : AllC ss := by first | exact True.intro | (simp only [AllC, AllP, addN, Int.toNat_natCast, true_and, and_true, Option.getD, List.length_set, wrapU, pw1, pw7, pw8, pw16, pw23, pw32, pw52, Holds] <;> first | omega | ((repeat' apply And.intro) <;> first | omega | (intros; rfl))) | (simp [AllC, AllP, addN, cloL, clo, mrgL, mrg, wrapU, Holds] <;> omega)) : Ph1 P f N n0 nf ops k T R past (e :: pend') op vin H :=
  ph_call W m e hs us hd hch hp hcl he (hq.at ef hss hc) fun v H1 ⟨u, H2, r1, r2, r3⟩ => by
    obtain ⟨vs', H1', q1, q2, q3⟩ := next u H2 r1
    rw [r3] at q2
    cases q2
    subst r2
    exact ⟨vs', q1, q3⟩
end
theorem given_new (p : Prop) (t u : List Int) (ht : t.length ≤ 256) (hu : u.length ≤ 256) : AFunN Try.prog 37 [frF p t u] (fun v H => v = .tup [.agg [.pr p, .sl 0 0 0 t.length, .sl 1 0 0 u.length], .pr True] ∧ H = [.ints 0 .i64 t, .ints 0 .i64 u]) := by
  refine afun_of Try.func37 Try.call37 rfl Try.ntmps37 rfl ?_
  have W : Walk Try.prog TT 37 _ := Walk.of TT_ok Try.func37 Try.results37
  refine sp W 0 rfl rfl rfl (fun h1 => ?_) (fun h1 => ?_)
  · omega
  refine sp W 0 rfl rfl rfl (fun h2 => ?_) (fun h2 => ?_)
  · omega
  refine phg W 0 8 [4, 7] rfl rfl (fun PW => ?_)
  · refine phn PW 0 4 [] [] rfl rfl trivial rfl rfl rfl (clone_new t (by omega)) ?_
    rintro _ _ ⟨rfl, rfl⟩
    refine ⟨_, _, rfl, rfl, ?_⟩
    refine phn PW 0 7 [] [] rfl rfl trivial rfl rfl rfl (clone_new u (by omega)) ?_
    rintro _ _ ⟨rfl, rfl⟩
    refine ⟨_, _, rfl, rfl, ?_⟩
    refine phe PW 0 [] [] rfl trivial rfl ?_
    refine rn W 0 rfl rfl rfl (.tup [.agg [.pr p, .sl 0 0 0 t.length, .sl 1 0 0 u.length], .pr True]) rfl (.tup ⟨.refl, .yes trivial, trivial⟩) ⟨rfl, by simp [blksM]⟩
end Pf
/- Fractions: impl's exported functions. -/
namespace Pf
open Go Go.Proofs

/-- The digits are those of a fraction. -/
def frOk (p : Prop) (t u : List Int) : Prop := natOk t ∧ natOk u ∧ u ≠ [] ∧ (t = [] → ¬ p) ∧ Nat.gcd (val t).toNat (val u).toNat = 1
/-- No fraction, as it stands in memory. -/
abbrev nilF : AV := .tup [.agg [.bool false, .nils, .nils], .bool false]
theorem AFunP.subv {P : Program} {f : FuncId} {args : List AV} {v u : AV} (h : AFunP P f args (· = v)) (hs : Sub v u) (hc : clo u = true) : AFunP P f args (· = u) :=
  AFun.mono h fun _ _ ⟨ps, u0, u1, h1, h2, h3, _, h5⟩ => ⟨ps, u0, u, h1, h2, fun FM β cv h => hs FM β cv (by have := h3 FM β cv h; rwa [h5] at this), hc, rfl⟩
theorem one_no (p : Prop) (t u : List Int) (g : FuncId) (ht : t.length ≤ 9223372036854775806) (hu : u.length ≤ 9223372036854775806) (h : ¬ frOk p t u) : AFunP Try.prog 50 [frF p t u, .fn g [] []] (· = nilF) := by
  refine afun_of Try.func50 Try.call50 rfl Try.ntmps50 rfl ?_
  have W : Walk Try.prog TT 50 _ := Walk.of TT_ok Try.func50 Try.results50
  refine ce W 0 rfl rfl (implFracOk_ok p t u ht hu) rfl ?_
  refine sp W 0 rfl rfl rfl (fun h1 => ?_) (fun h1 => ?_)
  · refine rp W 0 rfl rfl rfl (.refl)
  · exact absurd (Classical.not_not.1 h1) h
/-- A new fraction and true. -/
def NewFT (p : Prop) (t u : List Int) (v : AV) (H : AHeap) : Prop := v = .tup [.agg [.pr p, .sl 0 0 0 t.length, .sl 1 0 0 u.length], .pr True] ∧ H = [.ints 0 .i64 t, .ints 0 .i64 u]
theorem one_yes (p q : Prop) (t u t' u' : List Int) (g : FuncId) (ht : t'.length ≤ 256) (hu : u'.length ≤ 256) (h : frOk p t u) (hg : AFunP Try.prog g [frF p t u] (· = frF q t' u')) : AFunN Try.prog 50 [frF p t u, .fn g [] []] (NewFT q t' u') := by
  refine afun_of Try.func50 Try.call50 rfl Try.ntmps50 rfl ?_
  have W : Walk Try.prog TT 50 _ := Walk.of TT_ok Try.func50 Try.results50
  have l1 := h.1.1
  have l2 := h.2.1.1
  refine ce W 0 rfl rfl (implFracOk_ok p t u (by omega) (by omega)) rfl ?_
  refine sp W 0 rfl rfl rfl (fun h1 => ?_) (fun h1 => ?_)
  · exact absurd h h1
  · refine ce W 0 rfl rfl (hg) rfl ?_
    refine cn W 0 rfl rfl rfl (given_new q t' u' ht hu) ?_
    rintro _ _ ⟨rfl, rfl⟩
    refine ⟨_, _, rfl, rfl, ?_⟩
    refine rn W 0 rfl rfl rfl (.tup [.agg [.pr q, .sl 0 0 0 t'.length, .sl 1 0 0 u'.length], .pr True]) rfl .refl ⟨rfl, by simp [blksM]⟩
end Pf
/- A nil slice in a temporary, as an empty block of its own. -/
namespace Pf
open Go
variable {P : Program} {TT : TypeId → Option TI} {f N n0 : Nat} {k : List Item} {T : Env} {H : AHeap} {R : AV → AHeap → Prop}

/-- The temporary 'd' holds no cells: from here on it is a slice of an empty block, at the heap's end. -/
theorem go_nilT (d : Nat) (blk : ABlk) {v : AV} {rowE : Nat → List AV} {T1 : Env} {H2 : AHeap} (et : getM T d = some v) (en : isNil v = true)
    (eb : blk.view = some (0, 0, rowE)) (e1 : putM d (.sl (lenM H) 0 0 0) T = some T1) (e4 : appM H [blk] = some H2)
    (h : AGo P f N n0 k T1 H2 R) : AGo P f N n0 k T H R := by
  intro FM β bf cs a w a1 a2 a3 a4 hT hH hl
  rw [appM_eq] at e4
  cases e4
  simp only [lenM_eq] at *
  let β1 : BMap := fun b g => if b = H.length ∧ g = 0 then some none else β b g
  have hnone : ∀ g, β H.length g = none := by
    intro g
    cases hb : β H.length g with
    | none => rfl
    | some lo => have := (hH.dom _ _ _ hb).1; omega
  have hβ : ∀ b g lo, β b g = some lo → β1 b g = some lo := by
    intro b g lo hb
    simp only [β1]
    split
    · rename_i h1
      obtain ⟨rfl, rfl⟩ := h1
      rw [hnone] at hb; cases hb
    · exact hb
  have some1 : ∀ {i g : Nat} {L : Loc}, β1 i g = some (some L) → β i g = some (some L) := by
    intro i g L hi
    simp only [β1] at hi
    split at hi
    · cases hi
    · exact hi
  have get : ∀ {i : Nat} {bl : ABlk}, (H ++ [blk])[i]? = some bl → (i < H.length ∧ H[i]? = some bl) ∨ (i = H.length ∧ bl = blk) := by
    intro i bl hi
    rcases Nat.lt_or_ge i H.length with h1 | h1
    · rw [List.getElem?_append_left h1] at hi; exact .inl ⟨h1, hi⟩
    · rw [List.getElem?_append_right h1] at hi
      obtain ⟨h2, h3⟩ := List.getElem?_eq_some_iff.1 hi
      simp at h2
      have : i = H.length := by omega
      subst this
      simp at h3
      exact .inr ⟨rfl, h3.symm⟩
  have hcell : ∀ {cv : Value}, VR FM β v cv → VR FM β1 (.sl H.length 0 0 0) cv := by
    intro cv h0
    have hb : β1 H.length 0 = some none := by simp [β1]
    cases h0 with
    | nils => exact .sl0 hb fun L h => by cases h
    | e0 => exact .sl0 hb fun L h => by cases h
    | _ => cases en
  have hR : RelH FM β1 (H ++ [blk]) w := by
    refine ⟨?_, ?_, ?_, hH.fm, ?_, hH.gk⟩
    · intro i bl g' m rw1 h1 h2
      rcases get h1 with ⟨hi, q1⟩ | ⟨rfl, rfl⟩
      · obtain ⟨lo, p1, p2⟩ := hH.mem i bl g' m rw1 q1 h2
        refine ⟨lo, hβ _ _ _ p1, ?_⟩
        cases lo with
        | none => exact p2
        | some L => exact MemOk.still p2 rfl hβ
      · rw [eb] at h2; cases h2
        exact ⟨none, by simp [β1], rfl⟩
    · intro b1 b2 k1 k2 g1 g2 n1 n2 row1 row2 L1 L2 h1 h2 h3 h4 h5 h6 h7
      have q3 := some1 h3
      have q6 := some1 h6
      rcases get h1 with ⟨_, x1⟩ | ⟨rfl, rfl⟩
      · rcases get h4 with ⟨_, x1'⟩ | ⟨rfl, rfl⟩
        · exact hH.inj b1 b2 k1 k2 g1 g2 n1 n2 row1 row2 L1 L2 x1 h2 q3 x1' h5 q6 h7
        · rw [hnone] at q6; cases q6
      · rw [hnone] at q3; cases q3
    · intro i bl g' m rw1 L h1 h2 h3
      have q3 := some1 h3
      rcases get h1 with ⟨_, x1⟩ | ⟨rfl, rfl⟩
      · exact hH.wid i bl g' m rw1 L x1 h2 q3
      · rw [hnone] at q3; cases q3
    · intro i g' lo hi
      simp only [β1] at hi
      split at hi
      · rename_i h1
        obtain ⟨rfl, rfl⟩ := h1
        exact ⟨by simp, fun _ _ _ _ _ _ => Nat.zero_le _⟩
      · obtain ⟨q1, q2⟩ := hH.dom i g' lo hi
        refine ⟨by simp; omega, fun bl g2 m rw1 h1 h2 => ?_⟩
        rcases get h1 with ⟨_, x1⟩ | ⟨rfl, rfl⟩
        · exact q2 bl g2 m rw1 x1 h2
        · omega
  have hT1 : RelT FM β1 T1 a := by
    intro e u he
    rw [getM_putM e1] at he
    split at he
    · rename_i hde
      subst hde
      cases he
      exact hcell (hT _ _ et)
    · exact (hT e u he).mono (fun _ _ _ h => h) hβ
  obtain ⟨v', w', fr, av, FM', β', H', h1, h2, h3, h4, h5⟩ := h FM β1 bf cs a w a1 a2 a3 a4 hT1 hR (by simp; omega)
  have himg : ∀ cb, cb < w.heap.size → Img β1 (H ++ [blk]) cb → Img β H cb := by
    intro cb _ hi
    obtain ⟨i, bl, g', m, rw1, L, q1, q2, q3, q4⟩ := hi
    have q3 := some1 q3
    rcases get q1 with ⟨_, x1⟩ | ⟨rfl, rfl⟩
    · exact ⟨i, bl, g', m, rw1, L, x1, q2, q3, q4⟩
    · rw [hnone] at q3; cases q3
  have hx : ExtB n0 FM β H w FM β1 (H ++ [blk]) w := ⟨fun _ _ _ h => h, fun b g lo _ e => hβ b g lo e, Nat.le_refl _, himg, fun _ _ _ => rfl, fun _ _ _ h => .inl h, by simp; omega, rfl, rfl, rfl⟩
  exact ⟨v', w', fr, av, FM', β', H', h1, h2, h3, hx.trans h4, h5⟩

end Pf
/- Whole numbers: the model's own functions. -/
namespace Pf
open Go Go.Proofs

theorem l5Trim_ok (l : List Int) (hl : l.length ≤ 1000000000) : AFunP Try.prog 66 [.fi .i64 l] (· = .fi .i64 (trimL l)) := by
  refine afun_of Try.func66 Try.call66 rfl Try.ntmps66 rfl ?_
  have W : Walk Try.prog TT 66 _ := Walk.of TT_ok Try.func66 Try.results66
  refine' cutK (fun K => ?main) ?k
  case main =>
    refine lp W 0 (σ := List Int) (fun m => [(0, .fi .i64 l), (2, .nils), (3, .int .i64 m.length)]) (fun _ => []) (fun m => m.length) (fun m => trimL m = trimL l ∧ ∃ z, l = m ++ z) l [0, 2, 3] rfl rfl rfl ⟨rfl, [], by simp⟩ ?_
    rintro m ⟨h1, z, h2⟩ ih
    have hml : m.length ≤ l.length := by rw [h2]; simp
    refine sp W 0 rfl rfl rfl (fun h3 => ?_) (fun h3 => ?_)
    · have h3 : 0 < m.length := by omega
      have hne : m ≠ [] := by rintro rfl; simp at h3
      obtain ⟨n, d, rfl⟩ : ∃ n d, m = n ++ [d] := ⟨_, _, (List.dropLast_concat_getLast hne).symm⟩
      have e1 : (((n ++ [d]).length : Int) - 1).toNat = n.length := by simp
      have e2 : l.getD n.length 0 = d := by rw [h2]; simp
      refine sp W 0 rfl rfl rfl (fun h4 => ?_) (fun h4 => ?_)
      · rw [e1, e2] at h4
        have e3 : (((n ++ [d]).length : Int) - 1) = n.length := by simp
        have hnl : n.length ≤ 1000000000 := by rw [h2] at hl; simp at hl; omega
        refine bk W 0 [0, 2, 3] rfl rfl (by rw [e3]; exact ih n ⟨by rw [← h1, trimL_snoc, if_pos h4], d :: z, by rw [h2]; simp⟩ (by simp)) (hc := ?_)
        simp only [AllC, e3, true_and, and_true]; omega
      · rw [e1, e2] at h4
        have e3 : trimL l = n ++ [d] := by rw [← h1, trimL_snoc, if_neg h4]
        refine atl W rfl ?_
        refine go_nilT 4 (.ints 0 .i64 []) rfl rfl rfl rfl rfl ?_
        refine lp W 0 (σ := Nat × Nat × List Int) (fun s => [(0, .fi .i64 l), (3, .int .i64 (trimL l).length), (4, .sl 0 s.2.1 0 s.1), (5, .int .i64 s.1)]) (fun s => [.ints s.2.1 .i64 s.2.2]) (fun s => (trimL l).length - s.1)
          (fun s => (∃ z, l = trimL l ++ z) ∧ s.1 ≤ (trimL l).length ∧ s.2.2 = l.take s.1) (0, 0, []) [0, 3, 4, 5] rfl (by rw [e3]; rfl) rfl ⟨⟨z, by rw [e3]; exact h2⟩, Nat.zero_le _, by simp⟩ K.get
    · have hm : m = [] := List.eq_nil_of_length_eq_zero (by omega)
      subst hm
      have e3 : trimL l = [] := by rw [← h1]; rfl
      refine atl W rfl ?_
      refine go_nilT 4 (.ints 0 .i64 []) rfl rfl rfl rfl rfl ?_
      refine lp W 0 (σ := Nat × Nat × List Int) (fun s => [(0, .fi .i64 l), (3, .int .i64 (trimL l).length), (4, .sl 0 s.2.1 0 s.1), (5, .int .i64 s.1)]) (fun s => [.ints s.2.1 .i64 s.2.2]) (fun s => (trimL l).length - s.1)
          (fun s => (∃ z, l = trimL l ++ z) ∧ s.1 ≤ (trimL l).length ∧ s.2.2 = l.take s.1) (0, 0, []) [0, 3, 4, 5] rfl (by rw [e3]; rfl) rfl ⟨⟨l, by rw [e3]; rfl⟩, Nat.zero_le _, by simp⟩ K.get
  case k =>
    rintro ⟨i, g, o⟩ ⟨⟨z, hz⟩, hi, ho⟩ ih
    dsimp only at hi ho ih ⊢
    have hlt : (trimL l).length ≤ l.length := by conv => rhs; rw [hz]
                                                 simp
    have hol : o.length = i := by rw [ho]; simp; omega
    refine sp W 0 rfl rfl rfl (fun h1 => ?_) (fun h1 => ?_)
    · have h1 : i < l.length := by omega
      refine bd W 0 1 [0, 3, 4, 5] rfl rfl rfl rfl rfl (ih (i + 1, g + 1, o ++ [l.getD i 0]) ⟨⟨z, hz⟩, by dsimp only; omega, ?_⟩ (by dsimp only; omega))
      rw [ho, List.take_add_one, List.getD_eq_getElem?_getD, List.getElem?_eq_getElem h1]; rfl
    · have hiL : i = (trimL l).length := by omega
      have e4 : o = trimL l := by
        rw [ho, hiL]
        have := congrArg (List.take (trimL l).length) hz
        rwa [List.take_left] at this
      refine rp W 0 rfl rfl rfl (.fi e4)
end Pf
/- Whole numbers: digits by numbers alone. -/
namespace Pf
open Go Go.Proofs

/-- Digits whose number is as long as they are, are the number's. -/
theorem dig_of_top {l : List Int} (h : Dgs l) (hv : l = [] ∨ 65536 ^ l.length ≤ 65536 * val l) : dig (val l).toNat = l := by
  refine dig_val h fun hne h0 => ?_
  rcases hv with rfl | hv
  · exact hne rfl
  obtain ⟨m, d, rfl⟩ : ∃ m d, l = m ++ [d] := ⟨_, _, (List.dropLast_concat_getLast hne).symm⟩
  simp at h0
  subst h0
  have hm : Dgs m := fun x hx => h x (by simp [hx])
  have h1 := val_lt hm
  rw [val_app, val_single, Int.mul_zero, Int.add_zero, List.length_append, List.length_singleton, Int.pow_succ] at hv
  omega
theorem val_take_any (l : List Int) (k : Nat) : val (l.take (k + 1)) = val (l.take k) + 65536 ^ k * l.getD k 0 := by
  rcases Nat.lt_or_ge k l.length with h | h
  · exact val_take_succ h
  · rw [List.take_of_length_le (by omega), List.take_of_length_le h, getD_over h]; simp
theorem val_snoc (l : List Int) (d : Int) {k : Nat} (h : l.length = k) : val (l ++ [d]) = val l + 65536 ^ k * d := by
  subst h; rw [val_app, val_single]
/-- A digit, by the number. -/
theorem dig_get (a k : Nat) : (dig a).getD k 0 = ((a / 65536 ^ k % 65536 : Nat) : Int) := by
  induction k generalizing a with
  | zero =>
    by_cases h : a = 0
    · subst h; simp [dig_zero]
    · rw [dig_pos h]; simp
  | succ k ih =>
    by_cases h : a = 0
    · subst h; simp [dig_zero]
    · rw [dig_pos h, Nat.pow_succ, Nat.mul_comm, ← Nat.div_div_eq_div_mul]
      simpa using ih (a / 65536)
theorem dig_drop (a k : Nat) : (dig a).drop k = dig (a / 65536 ^ k) := by
  induction k generalizing a with
  | zero => simp
  | succ k ih =>
    by_cases h : a = 0
    · subst h; simp [dig_zero]
    · rw [dig_pos h, List.drop_succ_cons, ih, Nat.pow_succ, Nat.mul_comm, ← Nat.div_div_eq_div_mul]
theorem dig_shl (a : Nat) (h : a ≠ 0) : ∀ k, List.replicate k (0 : Int) ++ dig a = dig (a * 65536 ^ k)
  | 0 => by simp
  | k + 1 => by
    have h1 : a * 65536 ^ (k + 1) ≠ 0 := Nat.mul_ne_zero h (Nat.pos_iff_ne_zero.1 (Nat.pow_pos (by omega)))
    rw [List.replicate_succ, List.cons_append, dig_shl a h k, dig_pos h1, Nat.pow_succ, ← Nat.mul_assoc]
    simp
theorem dig_small {d : Nat} (h : d < 65536) : dig d = if d = 0 then [] else [(d : Int)] := by
  split
  · rename_i h0; subst h0; exact dig_zero
  · rename_i h0
    rw [dig_pos h0, Nat.mod_eq_of_lt h, Nat.div_eq_of_lt h, dig_zero]
theorem dig_lt {a n : Nat} (h : (dig a).length ≤ n) : a < 65536 ^ n := dig_len_le.1 h
theorem dig_len_add {a b n : Nat} (ha : (dig a).length ≤ n) (hb : (dig b).length ≤ n) : (dig (a + b)).length ≤ n + 1 := by
  rw [dig_len_le] at *
  rw [Nat.pow_succ]; omega
/-- The two highest digits. -/
theorem dig_two {r n : Nat} (h : r < 65536 ^ (n + 2)) : (dig r).getD (n + 1) 0 * 65536 + (dig r).getD n 0 = ((r / 65536 ^ n : Nat) : Int) := by
  rw [dig_get, dig_get]
  have h1 : r / 65536 ^ (n + 1) = r / 65536 ^ n / 65536 := by rw [Nat.pow_succ, Nat.div_div_eq_div_mul]
  have h2 : r / 65536 ^ n < 65536 * 65536 := by
    refine Nat.div_lt_of_lt_mul ?_
    rw [show 65536 ^ n * (65536 * 65536) = 65536 ^ (n + 2) by rw [Nat.pow_succ, Nat.pow_succ, Nat.mul_assoc]]; exact h
  rw [h1]
  generalize r / 65536 ^ n = x at *
  omega
/-- A guess by the highest digits is not below. -/
theorem guess_ge {r y n Q : Nat} (hy : 65536 ^ n ≤ y) (hQ : Q * y ≤ r) : Q ≤ r / 65536 ^ n / (y / 65536 ^ n) := by
  have hp : 0 < 65536 ^ n := Nat.pow_pos (by omega)
  have hv : 0 < y / 65536 ^ n := Nat.div_pos hy hp
  rw [Nat.le_div_iff_mul_le hv, Nat.le_div_iff_mul_le hp, Nat.mul_assoc]
  exact Nat.le_trans (Nat.mul_le_mul_left _ (Nat.div_mul_le_self _ _)) hQ
end Pf
