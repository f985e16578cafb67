/- Part 5 of the lemmas that the claim rests on: an abstract machine over the model, what it is sound for, and the contracts of the functions that the law reaches. -/
import Derived.Test.YtnfolpmgecpplaaGreatDoorA4
set_option linter.unusedSimpArgs false
set_option linter.unusedVariables false
set_option maxHeartbeats 4000000
/- Slopes: the model's slopes of a graph -/
namespace Pf
open Go Go.Proofs
theorem take_nextR {l : List Gr} {i : Nat} (h : i < l.length) : l.take (i + 1) = l.take i ++ [l.getD i r0] := by
  rw [List.take_add_one, List.getElem?_eq_getElem h, List.getD_eq_getElem?_getD, List.getElem?_eq_getElem h]; rfl
theorem grR_app (N : List Gr) (x : Gr) (j : Nat) (hj : j < N.length + 1) : mrgL (j < N.length) (grR N j) [.int .i64 x.k, .int .i64 x.l, .int .i64 x.r] = grR (N ++ [x]) j := by
  unfold grR
  by_cases h : j < N.length
  · have e : (N ++ [x]).getD j r0 = N.getD j r0 := by rw [List.getD_eq_getElem?_getD, List.getElem?_append_left h, ← List.getD_eq_getElem?_getD]
    rw [e]
    simp [mrgL, mrg, h]
  · have hj : j = N.length := by omega
    subst hj
    have e : (N ++ [x]).getD N.length r0 = x := by simp [List.getD_eq_getElem?_getD]
    rw [e]
    simp [mrgL, mrg]
theorem l17Graph_ok (v : Int) (l : List Gn) (rs : List Gr) (hl : l.length ≤ 1000000) (hr : rs.length ≤ 1000000) : AFun Tryz.prog 21 [graphV v l rs] [] (fun u H => ∃ g, u = .agg [.int .i64 v, .sl 3 g 0 l.length, .fz rs.length (grR rs)] ∧ H = [.dead, .lst 0 [[.int .i64 v, .sl 3 g 0 l.length, .fz rs.length (grR rs)]], .lst 0 [[.int .i64 v, .sl 3 g 0 l.length, .fz rs.length (grR rs)]], .tab g l.length (gnR l), .dead]) := by
  refine afun_of Tryz.func21 Tryz.call21 rfl Tryz.ntmps21 rfl ?_
  have W : Walk Tryz.prog TT 21 _ := Walk.of TT_ok Tryz.func21 Tryz.results21
  refine atl W rfl ?_
  refine go_nilC 2 0 1 ((.tab 0 0 (gnR []))) rfl rfl rfl rfl rfl rfl rfl rfl rfl ?_
  refine go_nilC 2 0 2 ((.tab 0 0 (grR []))) rfl rfl rfl rfl rfl rfl rfl rfl rfl ?_
  refine lp W 0 (σ := Nat × Nat) (fun s => [(1, .ptr 0 0 0 0), (2, .ptr 1 0 0 0), (3, .ptr 2 0 0 0), (4, .int .i64 s.1)]) (fun s => [.lst 0 [[.int .i64 v, .fz l.length (gnR l), .fz rs.length (grR rs)]], .lst 0 [[.int .i64 0, .nils, .nils]], .lst 0 [[.int .i64 v, .sl 3 s.2 0 (l.take s.1).length, .sl 4 0 0 0]], .tab s.2 (l.take s.1).length (gnR (l.take s.1)), .tab 0 0 (grR [])]) (fun s => l.length - s.1) (fun s => s.1 ≤ l.length) (0, 0) [1, 2, 3, 4] rfl rfl rfl (Nat.zero_le _) ?_
  rintro ⟨i, g⟩ hi ih
  dsimp only at hi ih ⊢
  refine sp W 0 rfl rfl rfl (fun z1 => ?_) (fun z1 => ?_)
  · have hi2 : i < l.length := by omega
    have iN : ((i : Nat) : Int).toNat = i := Int.toNat_natCast i
    have lt : (l.take i).length = i := by rw [List.length_take]; omega
    have lt2 : (l.take (i + 1)).length = (l.take i).length + 1 := by rw [take_next hi2]; simp
    refine phg W 0 9 [7, 8] rfl rfl (fun PW => ?_)
    refine pho PW 0 7 [] [] rfl rfl trivial rfl rfl ?_
    refine pho PW 0 8 [] [] rfl rfl trivial rfl rfl ?_
    refine phe PW 0 [] [] rfl trivial rfl ?_
    refine go_tab 3 (l.take (i + 1)).length (gnR (l.take (i + 1))) rfl rfl rfl (by rw [addNz, lt2]; exact Nat.le_refl _) (fun j hj => ?_) (.inl lt2) ?_
    · rw [addNz, take_next hi2]
      exact (gnR_app (l.take i) (l.getD i g0) j (by rw [← lt2]; exact hj)).symm
    have nx := ih (i + 1, g + 1) (by dsimp only; omega) (by dsimp only; omega)
    dsimp only at nx
    rw [lt2] at nx
    rw [lt2]
    refine bd W 0 5 [1, 2, 3, 4] rfl rfl rfl rfl rfl (nx)
  · have hil : i = l.length := by omega
    subst hil
    rw [List.take_length]
    refine lp W 0 (σ := Nat × Nat) (fun s => [(1, .ptr 0 0 0 0), (2, .ptr 1 0 0 0), (3, .ptr 2 0 0 0), (5, .int .i64 s.1)]) (fun s => [.lst 0 [[.int .i64 v, .fz l.length (gnR l), .fz rs.length (grR rs)]], .lst 0 [[.int .i64 0, .nils, .nils]], .lst 0 [[.int .i64 v, .sl 3 g 0 l.length, .sl 4 s.2 0 (rs.take s.1).length]], .tab g l.length (gnR l), .tab s.2 (rs.take s.1).length (grR (rs.take s.1))]) (fun s => rs.length - s.1) (fun s => s.1 ≤ rs.length) (0, 0) [1, 2, 3, 5] rfl rfl rfl (Nat.zero_le _) ?_
    rintro ⟨i, g1⟩ hi ih
    dsimp only at hi ih ⊢
    refine sp W 0 rfl rfl rfl (fun z1 => ?_) (fun z1 => ?_)
    · have hi2 : i < rs.length := by omega
      have iN : ((i : Nat) : Int).toNat = i := Int.toNat_natCast i
      have lt : (rs.take i).length = i := by rw [List.length_take]; omega
      have lt2 : (rs.take (i + 1)).length = (rs.take i).length + 1 := by rw [take_nextR hi2]; simp
      refine phg W 0 9 [7, 8] rfl rfl (fun PW => ?_)
      refine pho PW 0 7 [] [] rfl rfl trivial rfl rfl ?_
      refine pho PW 0 8 [] [] rfl rfl trivial rfl rfl ?_
      refine phe PW 0 [] [] rfl trivial rfl ?_
      refine go_tab 4 (rs.take (i + 1)).length (grR (rs.take (i + 1))) rfl rfl rfl (by rw [addNz, lt2]; exact Nat.le_refl _) (fun j hj => ?_) (.inl lt2) ?_
      · rw [addNz, take_nextR hi2]
        exact (grR_app (rs.take i) (rs.getD i r0) j (by rw [← lt2]; exact hj)).symm
      have nx := ih (i + 1, g1 + 1) (by dsimp only; omega) (by dsimp only; omega)
      dsimp only at nx
      rw [lt2] at nx
      rw [lt2]
      refine bd W 0 5 [1, 2, 3, 5] rfl rfl rfl rfl rfl (nx)
    · have hil : i = rs.length := by omega
      subst hil
      rw [List.take_length]
      refine go_frz [4] [1, 2, 3, 30] rfl rfl rfl (by first | exact True.intro | (simp only [AllC, AllP, addN, Int.toNat_natCast, true_and, and_true, Option.getD, List.length_set, wrapU, pw1, pw7, pw8, pw16, pw23, pw32, pw52, Holds] <;> first | omega | ((repeat' apply And.intro) <;> first | omega | (intros; rfl))) | (simp [AllC, AllP, addN, cloL, clo, mrgL, mrg, wrapU, Holds] <;> omega)) (by first | exact True.intro | (simp only [AllC, AllP, addN, Int.toNat_natCast, true_and, and_true, Option.getD, List.length_set, wrapU, pw1, pw7, pw8, pw16, pw23, pw32, pw52, Holds] <;> first | omega | ((repeat' apply And.intro) <;> first | omega | (intros; rfl))) | (simp [AllC, AllP, addN, cloL, clo, mrgL, mrg, wrapU, Holds] <;> omega)) ?_
      refine go_dead 0 rfl ?_
      refine rg W 0 rfl (⟨g, rfl, rfl⟩)
theorem needs_new (v : Int) (l : List Gn) (rs : List Gr) (a : Nat) (ha : a < l.length) (hl : l.length ≤ 1048576) (hx : gtxtOk l) (hv0 : 1 ≤ v) (hn : ∀ i, i < l.length → nodeP v l i) : AFun Tryz.prog 43 [graphV v l rs, .int .i64 a] [] (fun u H => u = .sl 1 0 0 l.length ∧ H = [.dead, .tab 0 l.length fun j => [.pr (reachG v l a j)]]) := by
  refine afun_of Tryz.func43 Tryz.call43 rfl Tryz.ntmps43 rfl ?_
  have W : Walk Tryz.prog TT 43 _ := Walk.of TT_ok Tryz.func43 Tryz.results43
  refine lp W 0 (σ := Int × (Nat → Prop)) (fun s => [(2, .ptr 0 0 0 0), (5, .sl 1 0 0 l.length), (6, .int .i64 s.1)]) (fun s => [.lst 0 [[.int .i64 v, .fz l.length (gnR l), .fz rs.length (grR rs)]], .tab 0 l.length fun j => [.pr (s.2 j)]]) (fun s => (s.1 + 1).toNat) (fun s => (-1 ≤ s.1 ∧ s.1 ≤ a) ∧ Mark v l a s.1 s.2) ((a : Int), fun j => if j = a then true = true else false = true) [2, 5, 6] rfl rfl rfl ⟨⟨by dsimp only; omega, by dsimp only; omega⟩, Mark.start (Int.le_refl _) fun j => by by_cases h : j = a <;> simp [h]⟩ ?_
  rintro ⟨i, F⟩ ⟨⟨hi0, hi⟩, hm⟩ ih
  dsimp only at hi0 hi hm ih ⊢
  refine sp W 0 rfl rfl rfl (fun h1 => ?_) (fun h1 => ?_)
  · obtain ⟨m, rfl⟩ : ∃ m : Nat, i = m := ⟨i.toNat, by omega⟩
    have mN : ((m : Nat) : Int).toNat = m := Int.toNat_natCast m
    have kp := l12Args_ok (l.getD m g0).k (l.getD m g0).n (l.getD m g0).t (by have := hx m (by omega); omega)
    rw [show partsZ (l.getD m g0).k (l.getD m g0).n (l.getD m g0).t = pzG (l.getD m g0) from rfl] at kp
    have eN : addN 0 ((m : Nat) : Int).toNat = m := by rw [mN]; cases m <;> rfl
    refine sp W 0 rfl rfl rfl (fun h2 => ?_) (fun h2 => ?_)
    · have h2' : ¬ F m := by rw [eN] at h2; exact h2
      refine bd W 0 2 [2, 5, 6] rfl rfl rfl rfl rfl (ih ((m : Int) - 1, F) ⟨⟨by dsimp only; omega, by dsimp only; omega⟩, hm.skip (by omega) fun h => absurd h h2'⟩ (by dsimp only; omega))
    have h2' : F m := by rw [eN] at h2; exact Classical.not_not.1 h2
    refine ce W 0 rfl rfl (kp) rfl ?_
    rw [mN]
    refine sp W 0 rfl rfl rfl (fun h3 => ?_) (fun h3 => ?_)
    · have hv : ¬ (m : Int) < v := by omega
      obtain ⟨hz, q0, q1, q2, hlt⟩ := node_parts (hn m (by omega)) hv
      refine sp W 0 rfl rfl rfl (fun h4 => ?_) (fun h4 => ?_)
      · have hA : 0 ≤ (l.getD m g0).a ∧ (l.getD m g0).a < m := by
          rcases (show pzG (l.getD m g0) = 1 ∨ pzG (l.getD m g0) = 2 by omega) with e | e
          · exact hlt _ (by rw [q1 e]; simp)
          · exact hlt _ (by rw [q2 e]; simp)
        have eA : addN 0 (l.getD m g0).a.toNat = (l.getD m g0).a.toNat := by cases (l.getD m g0).a.toNat <;> rfl
        refine sp W 0 rfl rfl rfl (fun h5 => ?_) (fun h5 => ?_)
        · refine sp W 0 rfl rfl rfl (fun h6 => ?_) (fun h6 => ?_)
          · have e : pzG (l.getD m g0) = 2 := by omega
            have hB : 0 ≤ (l.getD m g0).b ∧ (l.getD m g0).b < m := hlt _ (by rw [q2 e]; simp)
            have eB : addN 0 (l.getD m g0).b.toNat = (l.getD m g0).b.toNat := by cases (l.getD m g0).b.toNat <;> rfl
            refine bd W 0 2 [2, 5, 6] rfl rfl rfl rfl rfl (ih ((m : Int) - 1, fun j => if j = addN 0 (l.getD m g0).b.toNat then true = true else if j = addN 0 (l.getD m g0).a.toNat then true = true else F j) ⟨⟨by dsimp only; omega, by dsimp only; omega⟩, hm.add (by omega) h2' hv hlt fun j => ?_⟩ (by dsimp only; omega))
            rw [mN, q2 e, eA, eB]
            exact mark2 F _ _ j
          · have e : pzG (l.getD m g0) = 1 := by omega
            refine bd W 0 2 [2, 5, 6] rfl rfl rfl rfl rfl (ih ((m : Int) - 1, fun j => if j = addN 0 (l.getD m g0).a.toNat then true = true else F j) ⟨⟨by dsimp only; omega, by dsimp only; omega⟩, hm.add (by omega) h2' hv hlt fun j => ?_⟩ (by dsimp only; omega))
            rw [mN, q1 e, eA]
            by_cases e2 : j = (l.getD m g0).a.toNat
            · simp [e2]
            · simp only [e2, if_false, List.mem_singleton, exists_eq_left]
              exact ⟨.inl, fun h => h.resolve_right fun h => e2 h.symm⟩
        · exfalso; omega
      · have e : pzG (l.getD m g0) = 0 := by omega
        refine sp W 0 rfl rfl rfl (fun h5 => ?_) (fun h5 => ?_)
        · refine sp W 0 rfl rfl rfl (fun h6 => ?_) (fun h6 => ?_)
          · exfalso; omega
          · refine bd W 0 2 [2, 5, 6] rfl rfl rfl rfl rfl (ih ((m : Int) - 1, F) ⟨⟨by dsimp only; omega, by dsimp only; omega⟩, hm.skip (by omega) fun _ _ k hk => by rw [mN, q0 e] at hk; simp at hk⟩ (by dsimp only; omega))
        · exfalso; omega
    · refine sp W 0 rfl rfl rfl (fun h5 => ?_) (fun h5 => ?_)
      · exfalso; omega
      · refine bd W 0 2 [2, 5, 6] rfl rfl rfl rfl rfl (ih ((m : Int) - 1, F) ⟨⟨by dsimp only; omega, by dsimp only; omega⟩, hm.skip (by omega) fun _ h => absurd (by omega) h⟩ (by dsimp only; omega))
  · have hF := hm.all (by omega) (.inl (by omega))
    obtain rfl := hF
    refine go_dead 0 rfl ?_
    refine rg W 0 rfl (⟨rfl, rfl⟩)
/-- How many nodes a program puts at most. -/
def Pg.cnt : Pg → Nat → Prop
  | .ret _, _ => True
  | .put _ k, n => ∃ m, n = m + 1 ∧ ∀ i, (k i).cnt m
  | .is _ _ k, n => ∀ t, (k t).cnt n
theorem Pg.cnt_mono {P : Pg} : ∀ {n m : Nat}, P.cnt n → n ≤ m → P.cnt m := by
  induction P with
  | ret v => intro n m _ _; trivial
  | put x k ih =>
    intro n m h hm
    obtain ⟨q, rfl, hq⟩ := h
    exact ⟨m - 1, by omega, fun i => ih i (hq i) (by omega)⟩
  | is a s k ih => intro n m h hm t; exact ih t (h t) hm
theorem Pg.cnt_one {P : Pg} (h : P.one) : P.cnt 1 := by
  induction P with
  | ret v => trivial
  | put x k ih =>
    refine ⟨0, rfl, fun i => ?_⟩
    obtain ⟨v, e⟩ := h i
    rw [e]; trivial
  | is a s k ih => intro t; exact ih t (h t)
theorem cnt_ite {u : Int} {s : List UInt8} {p q : Pg} {n : Nat} (hp : p.cnt n) (hq : q.cnt n) : (Pg.is u s fun t => if t then p else q).cnt n := fun t => by cases t; exact hq; exact hp
theorem Pg.cnt_bind {P : Pg} {f : Int → Pg} {b : Nat} (hf : ∀ r, (f r).cnt b) : ∀ {a : Nat}, P.cnt a → (P.bind f).cnt (a + b) := by
  induction P with
  | ret v => intro a _; exact Pg.cnt_mono (hf v) (by omega)
  | put x k ih =>
    intro a h
    obtain ⟨q, rfl, hq⟩ := h
    exact ⟨q + b, by omega, fun i => ih i (hq i)⟩
  | is c s k ih => intro a h t; exact ih t (h t)
theorem runS_cnt {P : Pg} : ∀ {n : Nat}, P.cnt n → ∀ N, (runS P N).2.length ≤ N.length + n := by
  induction P with
  | ret v => intro n _ N; exact Nat.le_add_right _ _
  | put x k ih =>
    intro n h N
    obtain ⟨m, rfl, hm⟩ := h
    simp only [runS]
    split
    · have := ih _ (hm (idxG N x)) N; omega
    · have := ih _ (hm N.length) (N ++ [x])
      rw [List.length_append, List.length_singleton] at this
      omega
  | is a s k ih => intro n h N; simp only [runS]; exact ih _ (h _) N
theorem slopeG_cnt (at' w : Int) (x : Gn) (of : Int → Int) : (slopeG at' x w of).cnt 6 := by
  have o : ∀ {P : Pg}, P.one → P.cnt 6 := fun h => Pg.cnt_mono (Pg.cnt_one h) (by omega)
  have rt : ∀ (z : Int) (n : Nat), (Pg.ret z).cnt n := fun _ _ => trivial
  unfold slopeG
  split
  · split <;> exact o (one_num _)
  split
  · exact o (one_neg _)
  split
  · exact o (one_sum _ _)
  split
  · exact o (one_less _ _)
  split
  · exact Pg.cnt_bind (a := 4) (b := 2) (fun l => Pg.cnt_bind (a := 1) (b := 1) (fun r => Pg.cnt_one (one_sum l r)) (Pg.cnt_one (one_times _ _))) (Pg.cnt_mono (Pg.cnt_one (one_times _ _)) (by omega))
  split
  · exact Pg.cnt_bind (a := 2) (b := 4) (fun l => Pg.cnt_bind (a := 1) (b := 3) (fun r => Pg.cnt_bind (a := 1) (b := 2) (fun u => cnt_ite (rt _ _) (Pg.cnt_bind (a := 1) (b := 1) (fun q => Pg.cnt_one (one_by u q)) (Pg.cnt_one (one_raised _ _)))) (Pg.cnt_one (one_less l r))) (Pg.cnt_one (one_times _ _))) (Pg.cnt_mono (Pg.cnt_one (one_times _ _)) (by omega))
  split
  · split
    · exact o (one_num _)
    split
    · exact rt _ _
    · exact cnt_ite (rt _ _) (Pg.cnt_bind (a := 3) (b := 3) (fun f => Pg.cnt_bind (a := 1) (b := 2) (fun r => Pg.cnt_bind (a := 1) (b := 1) (fun y => Pg.cnt_one (one_times y _)) (Pg.cnt_one (one_times f r))) (Pg.cnt_one (one_raised _ _))) (Pg.cnt_mono (Pg.cnt_one (one_num _)) (by omega)))
  split
  · exact cnt_ite (rt _ _) (Pg.cnt_bind (a := 4) (b := 2) (fun c => Pg.cnt_bind (a := 1) (b := 1) (fun y => Pg.cnt_one (one_by _ y)) (Pg.cnt_one (one_times c _))) (Pg.cnt_mono (Pg.cnt_one (one_num _)) (by omega)))
  · exact o (one_num _)
theorem slS_bound {R : Nat → Prop} {l : List Gn} {w : Int} : ∀ i, (slS R l w i).1.length ≤ l.length + 6 * i
  | 0 => Nat.le_refl _
  | i + 1 => by
    have ih := slS_bound (R := R) (l := l) (w := w) i
    simp only [slS]
    split
    · have := runS_cnt (slopeG_cnt (i : Nat) w (l.getD i g0) (ofF (slS R l w i).2)) (slS R l w i).1
      dsimp only
      omega
    · omega
theorem l17Slope_ok (v w : Int) (l : List Gn) (rs : List Gr) (a : Nat) (ha : a < l.length) (hl : l.length ≤ 120) (hx : gtxtOk l) (hv : 1 ≤ v ∧ v ≤ 6) (hn : ∀ i, i < l.length → nodeP v l i) (hs : smoothP v l a) (g : Nat) : AFun Tryz.prog 20 [.agg [.int .i64 v, .sl 0 g 0 l.length, .fz rs.length (grR rs)], .int .i64 a, .int .i64 w] [.tab g l.length (gnR l)] (PutQ v rs ((slS (reachG v l a) l w (a + 1)).2 a, (slS (reachG v l a) l w (a + 1)).1)) := by
  have hd := graph_nd hn
  refine AFun.trim 1 ?_ (by simp)
  refine afun_of Tryz.func20 Tryz.call20 rfl Tryz.ntmps20 rfl ?_
  have W : Walk Tryz.prog TT 20 _ := Walk.of TT_ok Tryz.func20 Tryz.results20
  refine go_callL W 0 300 rfl (by first | exact True.intro | (simp only [AllC, AllP, addN, Int.toNat_natCast, true_and, and_true, Option.getD, List.length_set, wrapU, pw1, pw7, pw8, pw16, pw23, pw32, pw52, Holds] <;> first | omega | ((repeat' apply And.intro) <;> first | omega | (intros; rfl))) | (simp [AllC, AllP, addN, cloL, clo, mrgL, mrg, wrapU, Holds] <;> omega)) rfl (by first | exact True.intro | (simp only [AllC, AllP, addN, Int.toNat_natCast, true_and, and_true, Option.getD, List.length_set, wrapU, pw1, pw7, pw8, pw16, pw23, pw32, pw52, Holds] <;> first | omega | ((repeat' apply And.intro) <;> first | omega | (intros; rfl))) | (simp [AllC, AllP, addN, cloL, clo, mrgL, mrg, wrapU, Holds] <;> omega)) rfl (needs_new v l rs a ha (by omega) hx hv.1 hn) (fun u H h => by obtain ⟨rfl, rfl⟩ := h; exact ⟨rfl, trivial, fun _ _ => rfl, trivial⟩) ?_
  rintro _ _ ⟨rfl, rfl⟩
  refine ⟨_, _, rfl, rfl, ?_⟩
  refine atl W rfl ?_
  refine go_dead 1 rfl ?_
  refine lp W 0 (σ := Nat × List Gn × Nat × List Int) (fun s => [(1, .int .i64 a), (2, .int .i64 w), (6, .ptr 2 0 0 0), (7, .int .i64 0), (8, .ptr 3 0 0 0), (9, .sl 5 0 0 l.length), (10, .sl 6 0 0 ((a : Int) + 1).toNat), (11, .int .i64 s.1)])
    (fun s => [.tab s.2.2.1 s.2.1.length (gnR s.2.1), .dead, .lst 0 [[.int .i64 0, .nils, .nils]], .lst 0 [[.int .i64 v, .sl 0 s.2.2.1 0 s.2.1.length, .fz rs.length (grR rs)]], .dead, .tab 0 l.length fun j => [.pr (reachG v l a j)], .ints 0 .i64 s.2.2.2])
    (fun s => a + 1 - s.1) (fun s => s.1 ≤ a + 1 ∧ s.2.1 = (slS (reachG v l a) l w s.1).1 ∧ s.2.2.2.length = ((a : Int) + 1).toNat ∧ ∀ j, s.2.2.2.getD j 0 = (slS (reachG v l a) l w s.1).2 j) (0, l, g, List.replicate ((a : Int) + 1).toNat 0) [1, 2, 6, 7, 8, 9, 10, 11] rfl rfl rfl ⟨Nat.zero_le _, rfl, by simp, fun j => by simp [slS, List.getD_eq_getElem?_getD, List.getElem?_replicate]; split <;> rfl⟩ ?_
  rintro ⟨i, N, g1, K⟩ ⟨hi, hNe, hKl, hK⟩ ih
  dsimp only at hi hNe hKl hK ih ⊢
  refine sp W 0 rfl rfl rfl (fun z1 => ?_) (fun z1 => ?_)
  · have hi2 : i < a + 1 := by omega
    have iN : ((i : Nat) : Int).toNat = i := Int.toNat_natCast i
    refine sp W 0 rfl rfl rfl (fun z2 => ?_) (fun z2 => ?_)
    · rw [addNz, iN] at z2
      have hin := slS_in (w := w) hv.2 (by omega) ha hn hs i (by omega)
      have hK0 : ∀ j, 0 ≤ K.getD j 0 ∧ K.getD j 0 < N.length := fun j => by rw [hK, hNe]; exact hin j
      have hia : i < l.length := by omega
      obtain ⟨f1, f2, f3, f4, f5⟩ := slope_facts hv.2 (hn i hia) (hs i z2)
      have hln := slS_len (R := reachG v l a) (l := l) (w := w) i
      have hbd := slS_bound (R := reachG v l a) (l := l) (w := w) i
      have hkp := slS_keep (R := reachG v l a) (w := w) hia i
      have hnd := slS_nd (R := reachG v l a) (w := w) hd i
      rw [← hNe] at hln hbd hkp hnd
      have c := mslope_ok (i : Nat) w (l.getD i g0) K v N rs g1 0 (by omega) ⟨by omega, by omega⟩ (by rw [iN]; exact hkp) hnd f1 ⟨f2.1, by omega⟩ f3 (by omega) hK0 (fun h => by have := f4 h; omega) (fun h => by have := f5 h; omega)
      obtain ⟨⟨r, N'⟩, e⟩ : ∃ q, runS (slopeG (i : Nat) (l.getD i g0) w (ofK K)) N = q := ⟨_, rfl⟩
      rw [e, hKl] at c
      have hof : ofF (slS (reachG v l a) l w i).2 = ofK K := funext fun z => by unfold ofF ofK; rw [hK]
      have es : slS (reachG v l a) l w (i + 1) = (N', fun j => if j = i then r else (slS (reachG v l a) l w i).2 j) := by
        rw [slS, if_pos z2, hof, ← hNe, e]
      refine go_callS W 0 300 [3, 0, 6] rfl (by first | exact True.intro | (simp only [AllC, AllP, addN, Int.toNat_natCast, true_and, and_true, Option.getD, List.length_set, wrapU, pw1, pw7, pw8, pw16, pw23, pw32, pw52, Holds] <;> first | omega | ((repeat' apply And.intro) <;> first | omega | (intros; rfl))) | (simp [AllC, AllP, addN, cloL, clo, mrgL, mrg, wrapU, Holds] <;> omega)) c rfl rfl ⟨rfl, fun _ _ => rfl, trivial, trivial⟩ ⟨rfl, rfl, rfl, trivial⟩ rfl ?_
      rintro _ _ ⟨g2, rfl, rfl⟩
      refine ⟨_, _, rfl, rfl, ?_⟩
      have nx := ih (i + 1, N', g2, K.set (addN 0 ((i : Nat) : Int).toNat) r) ⟨by dsimp only; omega, by rw [es], by simpa using hKl, fun j => ?_⟩ (by dsimp only; omega)
      · dsimp only at nx
        refine bd W 0 7 [1, 2, 6, 7, 8, 9, 10, 11] rfl rfl rfl rfl rfl nx (hc := by simp only [AllC, addNz, iN, true_and, and_true]; omega)
      · rw [es]
        dsimp only
        rw [addNz, iN]
        by_cases hji : j = i
        · subst hji; rw [if_pos rfl, List.getD_eq_getElem?_getD, List.getElem?_set_self (by omega)]; rfl
        · rw [if_neg hji, ← hK, List.getD_eq_getElem?_getD, List.getElem?_set_ne (fun k => hji k.symm), ← List.getD_eq_getElem?_getD]
    · rw [addNz, iN] at z2
      have es : slS (reachG v l a) l w (i + 1) = slS (reachG v l a) l w i := by rw [slS, if_neg z2]
      refine bd W 0 7 [1, 2, 6, 7, 8, 9, 10, 11] rfl rfl rfl rfl rfl (ih (i + 1, N, g1, K) ⟨by dsimp only; omega, by rw [es]; exact hNe, hKl, by rw [es]; exact hK⟩ (by dsimp only; omega))
  · have hil : i = a + 1 := by omega
    subst hil
    have hks : K.getD (addN 0 ((a : Nat) : Int).toNat) 0 = (slS (reachG v l a) l w (a + 1)).2 a := by rw [addNz, Int.toNat_natCast, hK]
    rw [← hNe, ← hks]
    refine phg W 0 9 [8] rfl rfl (fun PW => ?_)
    refine pho PW 0 8 [] [] rfl rfl trivial rfl rfl ?_
    refine phe PW 0 [] [] rfl trivial rfl ?_
    refine go_retS W 0 300 1 rfl (by first | exact True.intro | (simp only [AllC, AllP, addN, Int.toNat_natCast, true_and, and_true, Option.getD, List.length_set, wrapU, pw1, pw7, pw8, pw16, pw23, pw32, pw52, Holds] <;> first | omega | ((repeat' apply And.intro) <;> first | omega | (intros; rfl))) | (simp [AllC, AllP, addN, cloL, clo, mrgL, mrg, wrapU, Holds] <;> omega)) rfl (by first | exact True.intro | (simp only [AllC, AllP, addN, Int.toNat_natCast, true_and, and_true, Option.getD, List.length_set, wrapU, pw1, pw7, pw8, pw16, pw23, pw32, pw52, Holds] <;> first | omega | ((repeat' apply And.intro) <;> first | omega | (intros; rfl))) | (simp [AllC, AllP, addN, cloL, clo, mrgL, mrg, wrapU, Holds] <;> omega)) (.tup [.agg [.int .i64 v, .sl 0 g1 0 N.length, .fz rs.length (grR rs)], .int .i64 (K.getD (addN 0 ((a : Nat) : Int).toNat) 0)]) .refl rfl ⟨g1, rfl, rfl⟩
end Pf
/- Graphs in new memory, and their marks -/
namespace Pf
open Go Go.Proofs
theorem toNodeG_new (l : List Gn) (hl : l.length ≤ 1048576) : AFun Tryz.prog 22 [.fz l.length (gnR l)] [] fun u H => u = .sl 0 0 0 l.length ∧ H = [.tab 0 l.length (gnR l)] := by
  refine afun_of Tryz.func22 Tryz.call22 rfl Tryz.ntmps22 rfl ?_
  have W : Walk Tryz.prog TT 22 _ := Walk.of TT_ok Tryz.func22 Tryz.results22
  refine lp W 0 (σ := Nat × (Nat → Gn)) (fun s => [(0, .fz l.length (gnR l)), (3, .sl 0 0 0 l.length), (4, .int .i64 s.1)]) (fun s => [.tab 0 l.length fun j => [.int .i64 (s.2 j).k, .int .i64 (s.2 j).a, .int .i64 (s.2 j).b, .int .i64 (s.2 j).n, .str (s.2 j).t]]) (fun s => l.length - s.1) (fun s => s.1 ≤ l.length ∧ ∀ j, j < s.1 → s.2 j = l.getD j g0) (0, fun _ => g0) [0, 3, 4] rfl rfl rfl ⟨Nat.zero_le _, fun j hj => by omega⟩ ?_
  rintro ⟨i, F⟩ ⟨hi, he⟩ ih
  dsimp only at hi he ih ⊢
  refine sp W 0 rfl rfl rfl (fun h2 => ?_) (fun h2 => ?_)
  · have h2 : i < l.length := by omega
    refine ce W 0 rfl rfl (toGraphNode_ok (l.getD i g0)) rfl ?_
    refine bd W 0 1 [0, 3, 4] rfl rfl rfl rfl rfl (ih (i + 1, fun j => ⟨if j = i then (l.getD i g0).k else (F j).k, if j = i then (l.getD i g0).a else (F j).a, if j = i then (l.getD i g0).b else (F j).b, if j = i then (l.getD i g0).n else (F j).n, if j = i then (l.getD i g0).t else (F j).t⟩) ⟨by dsimp only; omega, fun j hj => ?_⟩ (by dsimp only; omega))
    dsimp only at hj ⊢
    by_cases hji : j = i
    · subst hji; simp only [if_true]
    · simp only [if_neg hji]; exact he j (by omega)
  · refine go_tab 0 l.length (gnR l) rfl rfl rfl (Nat.le_refl _) (fun j hj => ?_) (.inl rfl) ?_
    · have e := he j (by omega)
      unfold gnR
      rw [← e]
    refine rg W 0 rfl (⟨rfl, rfl⟩)
theorem toRelG_new (l : List Gr) (hl : l.length ≤ 1048576) : AFun Tryz.prog 23 [.fz l.length (grR l)] [] fun u H => u = .sl 0 0 0 l.length ∧ H = [.tab 0 l.length (grR l)] := by
  refine afun_of Tryz.func23 Tryz.call23 rfl Tryz.ntmps23 rfl ?_
  have W : Walk Tryz.prog TT 23 _ := Walk.of TT_ok Tryz.func23 Tryz.results23
  refine lp W 0 (σ := Nat × (Nat → Gr)) (fun s => [(0, .fz l.length (grR l)), (3, .sl 0 0 0 l.length), (4, .int .i64 s.1)]) (fun s => [.tab 0 l.length fun j => [.int .i64 (s.2 j).k, .int .i64 (s.2 j).l, .int .i64 (s.2 j).r]]) (fun s => l.length - s.1) (fun s => s.1 ≤ l.length ∧ ∀ j, j < s.1 → s.2 j = l.getD j r0) (0, fun _ => r0) [0, 3, 4] rfl rfl rfl ⟨Nat.zero_le _, fun j hj => by omega⟩ ?_
  rintro ⟨i, F⟩ ⟨hi, he⟩ ih
  dsimp only at hi he ih ⊢
  refine sp W 0 rfl rfl rfl (fun h2 => ?_) (fun h2 => ?_)
  · have h2 : i < l.length := by omega
    refine ce W 0 rfl rfl (toGraphRel_ok (l.getD i r0)) rfl ?_
    refine bd W 0 1 [0, 3, 4] rfl rfl rfl rfl rfl (ih (i + 1, fun j => ⟨if j = i then (l.getD i r0).k else (F j).k, if j = i then (l.getD i r0).l else (F j).l, if j = i then (l.getD i r0).r else (F j).r⟩) ⟨by dsimp only; omega, fun j hj => ?_⟩ (by dsimp only; omega))
    dsimp only at hj ⊢
    by_cases hji : j = i
    · subst hji; simp only [if_true]
    · simp only [if_neg hji]; exact he j (by omega)
  · refine go_tab 0 l.length (grR l) rfl rfl rfl (Nat.le_refl _) (fun j hj => ?_) (.inl rfl) ?_
    · have e := he j (by omega)
      unfold grR
      rw [← e]
    refine rg W 0 rfl (⟨rfl, rfl⟩)
theorem toGraph_new (v : Int) (l : List Gn) (rs : List Gr) (hl : l.length ≤ 1048576) (hr : rs.length ≤ 1048576) : AFun Tryz.prog 7 [graphV v l rs] [] fun u H => u = .agg [.int .i64 v, .sl 3 0 0 l.length, .sl 4 0 0 rs.length] ∧ H = [.lst 0 [[.int .i64 v, .fz l.length (gnR l), .fz rs.length (grR rs)]], .lst 0 [[.int .i64 v, .sl 3 0 0 l.length, .sl 4 0 0 rs.length]], .lst 0 [[.int .i64 v, .sl 3 0 0 l.length, .sl 4 0 0 rs.length]], .tab 0 l.length (gnR l), .tab 0 rs.length (grR rs)] := by
  refine afun_of Tryz.func7 Tryz.call7 rfl Tryz.ntmps7 rfl ?_
  have W : Walk Tryz.prog TT 7 _ := Walk.of TT_ok Tryz.func7 Tryz.results7
  refine cx W 0 rfl rfl (toNodeG_new l hl) (fun u H h => by obtain ⟨rfl, rfl⟩ := h; exact ⟨rfl, fun _ _ => rfl, trivial⟩) ?_
  rintro _ _ ⟨rfl, rfl⟩
  refine ⟨_, _, rfl, rfl, ?_⟩
  refine cx W 0 rfl rfl (toRelG_new rs hr) (fun u H h => by obtain ⟨rfl, rfl⟩ := h; exact ⟨rfl, fun _ _ => rfl, trivial⟩) ?_
  rintro _ _ ⟨rfl, rfl⟩
  refine ⟨_, _, rfl, rfl, ?_⟩
  refine rg W 0 rfl (⟨rfl, rfl⟩)
/-- What a node and a relation look like that bear marks. -/
def mkGn (k : Nat) : Gn := ⟨k, (k + 1 : Nat), (k + 2 : Nat), (k + 3 : Nat), mt (k + 4)⟩
def mkGr (k : Nat) : Gr := ⟨k, (k + 1 : Nat), (k + 2 : Nat)⟩
def heldN (k : Nat) (l : List Gn) : Prop := ∀ i, i < l.length → l.getD i g0 = mkGn (k + 5 * i)
def heldR (k : Nat) (l : List Gr) : Prop := ∀ i, i < l.length → l.getD i r0 = mkGr (k + 3 * i)
theorem markGnS_ok (n k : Nat) (l : List Gn) (hl : l.length = n) (hn : n ≤ 1048576) (h1 : 1 ≤ k) (hk : k ≤ 1048576000) : AFunM Tryz.prog 29 [.sl 0 0 0 n, .int .i64 k] [.tab 0 n (gnR l)] fun u bs => u = .int .i64 (k + 5 * n : Nat) ∧ ∃ l' : List Gn, l'.length = n ∧ heldN k l' ∧ bs = [.tab 0 n (gnR l')] := by
  refine afun_of Tryz.func29 Tryz.call29 rfl Tryz.ntmps29 rfl ?_
  have W : Walk Tryz.prog TT 29 _ := Walk.of TT_ok Tryz.func29 Tryz.results29
  refine lp W 0 (σ := Nat × (Nat → Int) × (Nat → Int) × (Nat → Int) × (Nat → Int) × (Nat → List UInt8)) (fun s => [(0, .sl 0 0 0 n), (1, .int .i64 (k + 5 * s.1 : Nat)), (5, .int .i64 s.1)]) (fun s => [.tab 0 n fun j => [.int .i64 (s.2.1 j), .int .i64 (s.2.2.1 j), .int .i64 (s.2.2.2.1 j), .int .i64 (s.2.2.2.2.1 j), .str (s.2.2.2.2.2 j)]]) (fun s => n - s.1) (fun s => s.1 ≤ n ∧ ∀ j, j < s.1 → (⟨s.2.1 j, s.2.2.1 j, s.2.2.2.1 j, s.2.2.2.2.1 j, s.2.2.2.2.2 j⟩ : Gn) = mkGn (k + 5 * j)) (0, fun j => (l.getD j g0).k, fun j => (l.getD j g0).a, fun j => (l.getD j g0).b, fun j => (l.getD j g0).n, fun j => (l.getD j g0).t) [0, 1, 5] rfl rfl rfl ⟨Nat.zero_le _, fun j hj => by omega⟩ ?_
  rintro ⟨i, F, A, B, C, S⟩ ⟨hi, he⟩ ih
  dsimp only at hi he ih ⊢
  refine sp W 0 rfl rfl rfl (fun h2 => ?_) (fun h2 => ?_)
  · have h2 : i < n := by omega
    have km := markText_ok (k + 5 * i + 4) (by omega) (by omega)
    refine ce W 0 rfl rfl (km) rfl ?_
    refine bd W 0 1 [0, 1, 5] rfl rfl rfl rfl rfl (ih (i + 1, _, _, _, _, _) ⟨by dsimp only; omega, fun j hj => ?_⟩ (by dsimp only; omega))
    dsimp only at hj ⊢
    have hq : addN 0 ((i : Nat) : Int).toNat = i := by rw [addNz, Int.toNat_natCast]
    generalize addN 0 ((i : Nat) : Int).toNat = q at *
    subst hq
    generalize instDecidableEqNat j q = dd
    cases dd with
    | isTrue h => subst h; simp only [if_true, mkGn]; refine Gn.eq ?_ ?_ ?_ ?_ rfl <;> dsimp only <;> omega
    | isFalse h => simp only [if_neg h]; exact he j (by omega)
  · have e : i = n := by omega
    subst e
    let l' : List Gn := (List.range i).map fun j => ⟨F j, A j, B j, C j, S j⟩
    have hl' : l'.length = i := by simp [l']
    have hg : ∀ j, j < i → l'.getD j g0 = ⟨F j, A j, B j, C j, S j⟩ := fun j hj => by simp [l', List.getD_eq_getElem?_getD, hj]
    refine go_tab 0 i (gnR l') rfl rfl rfl (Nat.le_refl _) (fun j hj => ?_) (.inl rfl) ?_
    · unfold gnR
      rw [hg j hj]
    refine rmT W 0 [.tab 0 i (gnR l')] rfl rfl rfl ⟨rfl, trivial⟩ ⟨fun _ _ => rfl, trivial⟩ rfl (.int .i64 (k + 5 * i : Nat)) rfl .refl ⟨rfl, l', hl', fun j hj => by rw [hg j (by omega)]; exact he j (by omega), rfl⟩
theorem markGrS_ok (n k : Nat) (l : List Gr) (hl : l.length = n) (hn : n ≤ 1048576) (h1 : 1 ≤ k) (hk : k ≤ 1048576000) : AFunM Tryz.prog 30 [.sl 0 0 0 n, .int .i64 k] [.tab 0 n (grR l)] fun u bs => u = .int .i64 (k + 3 * n : Nat) ∧ ∃ l' : List Gr, l'.length = n ∧ heldR k l' ∧ bs = [.tab 0 n (grR l')] := by
  refine afun_of Tryz.func30 Tryz.call30 rfl Tryz.ntmps30 rfl ?_
  have W : Walk Tryz.prog TT 30 _ := Walk.of TT_ok Tryz.func30 Tryz.results30
  refine lp W 0 (σ := Nat × (Nat → Int) × (Nat → Int) × (Nat → Int)) (fun s => [(0, .sl 0 0 0 n), (1, .int .i64 (k + 3 * s.1 : Nat)), (5, .int .i64 s.1)]) (fun s => [.tab 0 n fun j => [.int .i64 (s.2.1 j), .int .i64 (s.2.2.1 j), .int .i64 (s.2.2.2 j)]]) (fun s => n - s.1) (fun s => s.1 ≤ n ∧ ∀ j, j < s.1 → (⟨s.2.1 j, s.2.2.1 j, s.2.2.2 j⟩ : Gr) = mkGr (k + 3 * j)) (0, fun j => (l.getD j r0).k, fun j => (l.getD j r0).l, fun j => (l.getD j r0).r) [0, 1, 5] rfl rfl rfl ⟨Nat.zero_le _, fun j hj => by omega⟩ ?_
  rintro ⟨i, F, A, B⟩ ⟨hi, he⟩ ih
  dsimp only at hi he ih ⊢
  refine sp W 0 rfl rfl rfl (fun h2 => ?_) (fun h2 => ?_)
  · have h2 : i < n := by omega
    refine bd W 0 1 [0, 1, 5] rfl rfl rfl rfl rfl (ih (i + 1, _, _, _) ⟨by dsimp only; omega, fun j hj => ?_⟩ (by dsimp only; omega))
    dsimp only at hj ⊢
    have hq : addN 0 ((i : Nat) : Int).toNat = i := by rw [addNz, Int.toNat_natCast]
    generalize addN 0 ((i : Nat) : Int).toNat = q at *
    subst hq
    generalize instDecidableEqNat j q = dd
    cases dd with
    | isTrue h => subst h; simp only [if_true, mkGr]; refine Gr.eq ?_ ?_ ?_ <;> dsimp only <;> omega
    | isFalse h => simp only [if_neg h]; exact he j (by omega)
  · have e : i = n := by omega
    subst e
    let l' : List Gr := (List.range i).map fun j => ⟨F j, A j, B j⟩
    have hl' : l'.length = i := by simp [l']
    have hg : ∀ j, j < i → l'.getD j r0 = ⟨F j, A j, B j⟩ := fun j hj => by simp [l', List.getD_eq_getElem?_getD, hj]
    refine go_tab 0 i (grR l') rfl rfl rfl (Nat.le_refl _) (fun j hj => ?_) (.inl rfl) ?_
    · unfold grR
      rw [hg j hj]
    refine rmT W 0 [.tab 0 i (grR l')] rfl rfl rfl ⟨rfl, trivial⟩ ⟨fun _ _ => rfl, trivial⟩ rfl (.int .i64 (k + 3 * i : Nat)) rfl .refl ⟨rfl, l', hl', fun j hj => by rw [hg j (by omega)]; exact he j (by omega), rfl⟩
theorem heldGnS_ok (k : Nat) (l : List Gn) (hn : l.length ≤ 1048576) (h1 : 1 ≤ k) (hk : k ≤ 1048576000) (hr : heldN k l) : AFunP Tryz.prog 31 [.fz l.length (gnR l), .int .i64 k] (· = .int .i64 (k + 5 * l.length : Nat)) := by
  refine afun_of Tryz.func31 Tryz.call31 rfl Tryz.ntmps31 rfl ?_
  have W : Walk Tryz.prog TT 31 _ := Walk.of TT_ok Tryz.func31 Tryz.results31
  refine lp W 0 (σ := Nat) (fun i => [(0, .fz l.length (gnR l)), (1, .int .i64 (k + 5 * i : Nat)), (5, .int .i64 i)]) (fun _ => []) (fun i => l.length - i) (fun i => i ≤ l.length) 0 [0, 1, 5] rfl rfl rfl (Nat.zero_le _) ?_
  rintro i hi ih
  refine sp W 0 rfl rfl rfl (fun h2 => ?_) (fun h2 => ?_)
  · have h2 : i < l.length := by omega
    have km := markText_ok (k + 5 * i + 4) (by omega) (by omega)
    have hri := hr i h2
    have hq : ((i : Nat) : Int).toNat = i := Int.toNat_natCast i
    refine sp W 0 rfl rfl rfl (fun a1 => ?_) (fun a1 => ?_)
    · rw [hq, hri] at a1; exact absurd rfl a1
    refine sp W 0 rfl rfl rfl (fun a2 => ?_) (fun a2 => ?_)
    · rw [hq, hri] at a2; exfalso; simp only [mkGn] at a2; omega
    refine sp W 0 rfl rfl rfl (fun a3 => ?_) (fun a3 => ?_)
    · rw [hq, hri] at a3; exfalso; simp only [mkGn] at a3; omega
    refine sp W 0 rfl rfl rfl (fun a4 => ?_) (fun a4 => ?_)
    · rw [hq, hri] at a4; exfalso; simp only [mkGn] at a4; omega
    refine dre W 0 7 [] [.str (mt (k + 5 * i + 4))] rfl rfl rfl ⟨km.at rfl _, trivial⟩ rfl ?_
    refine sp W 0 rfl rfl rfl (fun a5 => ?_) (fun a5 => ?_)
    · rw [hq, hri] at a5; exact absurd rfl a5
    refine bd W 0 0 [0, 1, 5] rfl rfl rfl rfl rfl (ih (i + 1) (by omega) (by omega))
  · have e : i = l.length := by omega
    subst e
    refine rp W 0 rfl rfl rfl (.refl)
theorem heldGrS_ok (k : Nat) (l : List Gr) (hn : l.length ≤ 1048576) (h1 : 1 ≤ k) (hk : k ≤ 1048576000) (hr : heldR k l) : AFunP Tryz.prog 32 [.fz l.length (grR l), .int .i64 k] (· = .int .i64 (k + 3 * l.length : Nat)) := by
  refine afun_of Tryz.func32 Tryz.call32 rfl Tryz.ntmps32 rfl ?_
  have W : Walk Tryz.prog TT 32 _ := Walk.of TT_ok Tryz.func32 Tryz.results32
  refine lp W 0 (σ := Nat) (fun i => [(0, .fz l.length (grR l)), (1, .int .i64 (k + 3 * i : Nat)), (5, .int .i64 i)]) (fun _ => []) (fun i => l.length - i) (fun i => i ≤ l.length) 0 [0, 1, 5] rfl rfl rfl (Nat.zero_le _) ?_
  rintro i hi ih
  refine sp W 0 rfl rfl rfl (fun h2 => ?_) (fun h2 => ?_)
  · have h2 : i < l.length := by omega
    have hri := hr i h2
    have hq : ((i : Nat) : Int).toNat = i := Int.toNat_natCast i
    refine sp W 0 rfl rfl rfl (fun a1 => ?_) (fun a1 => ?_)
    · rw [hq, hri] at a1; exact absurd rfl a1
    refine sp W 0 rfl rfl rfl (fun a2 => ?_) (fun a2 => ?_)
    · rw [hq, hri] at a2; exfalso; simp only [mkGr] at a2; omega
    refine sp W 0 rfl rfl rfl (fun a3 => ?_) (fun a3 => ?_)
    · rw [hq, hri] at a3; exfalso; simp only [mkGr] at a3; omega
    refine bd W 0 0 [0, 1, 5] rfl rfl rfl rfl rfl (ih (i + 1) (by omega) (by omega))
  · have e : i = l.length := by omega
    subst e
    refine rp W 0 rfl rfl rfl (.refl)
theorem markGraph_ok (v : Int) (n m k : Nat) (l : List Gn) (rs : List Gr) (hl : l.length = n) (hr : rs.length = m) (hn : n ≤ 1048576) (hm : m ≤ 1048576) (h1 : 1 ≤ k) (hk : k ≤ 1048576) : AFunM Tryz.prog 10 [.agg [.int .i64 v, .sl 0 0 0 n, .sl 1 0 0 m], .int .i64 k] [.tab 0 n (gnR l), .tab 0 m (grR rs)] fun u bs => u = .int .i64 (k + 5 * n + 3 * m : Nat) ∧ ∃ (l' : List Gn) (r' : List Gr), (l'.length = n ∧ r'.length = m) ∧ (heldN k l' ∧ heldR (k + 5 * n) r') ∧ bs = [.tab 0 n (gnR l'), .tab 0 m (grR r')] := by
  refine afun_of Tryz.func10 Tryz.call10 rfl Tryz.ntmps10 rfl ?_
  have W : Walk Tryz.prog TT 10 _ := Walk.of TT_ok Tryz.func10 Tryz.results10
  refine cmT W 0 [(0, 0)] rfl (markGnS_ok n k l hl hn h1 (by omega)) ⟨rfl, trivial⟩ rfl rfl ⟨fun _ _ => rfl, trivial⟩ ?_
  rintro _ _ ⟨rfl, l', hl', hh, rfl⟩
  refine ⟨_, _, rfl, rfl, ?_⟩
  refine cmT W 0 [(1, 0)] rfl (markGrS_ok m (k + 5 * n) rs hr hm (by omega) (by omega)) ⟨rfl, trivial⟩ rfl rfl ⟨fun _ _ => rfl, trivial⟩ ?_
  rintro _ _ ⟨rfl, r', hr', hh', rfl⟩
  refine ⟨_, _, rfl, rfl, ?_⟩
  refine rmT W 0 [.tab 0 n (gnR l'), .tab 0 m (grR r')] rfl rfl rfl ⟨rfl, rfl, trivial⟩ ⟨fun _ _ => rfl, fun _ _ => rfl, trivial⟩ rfl (.int .i64 (k + 5 * n + 3 * m : Nat)) rfl .refl ⟨rfl, l', r', ⟨hl', hr'⟩, ⟨hh, hh'⟩, rfl⟩
theorem heldGraph_ok (v : Int) (k : Nat) (l : List Gn) (rs : List Gr) (hn : l.length ≤ 1048576) (hm : rs.length ≤ 1048576) (h1 : 1 ≤ k) (hk : k ≤ 1048576) (h2 : heldN k l) (h3 : heldR (k + 5 * l.length) rs) : AFunP Tryz.prog 11 [graphV v l rs, .int .i64 k] (· = .int .i64 (k + 5 * l.length + 3 * rs.length : Nat)) := by
  refine afun_of Tryz.func11 Tryz.call11 rfl Tryz.ntmps11 rfl ?_
  have W : Walk Tryz.prog TT 11 _ := Walk.of TT_ok Tryz.func11 Tryz.results11
  refine ce W 0 rfl rfl (heldGnS_ok k l hn h1 (by omega) h2) rfl ?_
  refine sp W 0 rfl rfl rfl (fun h4 => ?_) (fun h4 => ?_)
  · exfalso; omega
  refine ce W 0 rfl rfl (heldGrS_ok (k + 5 * l.length) rs hm (by omega) (by omega) h3) rfl ?_
  refine sp W 0 rfl rfl rfl (fun h5 => ?_) (fun h5 => ?_)
  · exfalso; omega
  · refine rp W 0 rfl rfl rfl (.refl)
theorem markGnS_nil (k : Int) : AFunP Tryz.prog 29 [.nils, .int .i64 k] (· = .int .i64 k) := by
  refine afun_of Tryz.func29 Tryz.call29 rfl Tryz.ntmps29 rfl ?_
  have W : Walk Tryz.prog TT 29 _ := Walk.of TT_ok Tryz.func29 Tryz.results29
  refine lp W 0 (σ := Unit) (fun s => [(0, .nils), (1, .int .i64 k), (5, .int .i64 0)]) (fun _ => []) (fun s => 0) (fun s => True) () [0, 1, 5] rfl rfl rfl trivial ?_
  rintro i hi ih
  refine sp W 0 rfl rfl rfl (fun h2 => ?_) (fun h2 => ?_)
  · exfalso; omega
  · refine rp W 0 rfl rfl rfl (.refl)
theorem markGrS_nil (k : Int) : AFunP Tryz.prog 30 [.nils, .int .i64 k] (· = .int .i64 k) := by
  refine afun_of Tryz.func30 Tryz.call30 rfl Tryz.ntmps30 rfl ?_
  have W : Walk Tryz.prog TT 30 _ := Walk.of TT_ok Tryz.func30 Tryz.results30
  refine lp W 0 (σ := Unit) (fun s => [(0, .nils), (1, .int .i64 k), (5, .int .i64 0)]) (fun _ => []) (fun s => 0) (fun s => True) () [0, 1, 5] rfl rfl rfl trivial ?_
  rintro i hi ih
  refine sp W 0 rfl rfl rfl (fun h2 => ?_) (fun h2 => ?_)
  · exfalso; omega
  · refine rp W 0 rfl rfl rfl (.refl)
theorem markGraph_nil (k : Int) : AFunP Tryz.prog 10 [.agg [.int .i64 0, .nils, .nils], .int .i64 k] (· = .int .i64 k) := by
  refine afun_of Tryz.func10 Tryz.call10 rfl Tryz.ntmps10 rfl ?_
  have W : Walk Tryz.prog TT 10 _ := Walk.of TT_ok Tryz.func10 Tryz.results10
  refine ce W 0 rfl rfl (markGnS_nil k) rfl ?_
  refine ce W 0 rfl rfl (markGrS_nil k) rfl ?_
  refine rp W 0 rfl rfl rfl (.refl)
end Pf
/- SlopeMake: both sides -/
namespace Pf
open Go Go.Proofs
/-- A block of what is handed back is forgotten. -/
theorem AFun.kill {P : Program} {f : FuncId} {args : List AV} {Hs : AHeap} {Q : AV → AHeap → Prop} (b : Nat) (h : AFun P f args Hs fun u H => ∃ H2, setM ABlk.dead H b = some H2 ∧ Q u H2) : AFun P f args Hs Q := by
  refine ⟨h.1, fun FM β cs w cargs hv hh => ?_⟩
  obtain ⟨v, w', fr, av, FM1, β1, H1, ⟨H2, e2, hq⟩, h1, hH, h3, h4, h5, h6⟩ := h.2 FM β cs w cargs hv hh
  exact ⟨v, w', fr, av, FM1, β1, H2, hq, h1, hH.ded e2, h3.trans (Ext.ded e2), h4, h5, h6⟩
/-- Below what a graph's node is made of nothing lies above the node. -/
theorem slS_all {v w : Int} {l : List Gn} {rs : List Gr} {a : Nat} (hg : graphP v l rs) (ha : a < l.length) : slS (reachG v l a) l w l.length = slS (reachG v l a) l w (a + 1) := by
  obtain ⟨n, hn⟩ : ∃ n, l.length = a + 1 + n := ⟨l.length - (a + 1), by omega⟩
  rw [hn]
  refine slS_stop (fun i hi hr => ?_) n
  have := reach_le hg.2.1 ha hr
  omega
/-- A node's slope as the law's functions answer it. -/
noncomputable def mkG (v w : Int) (l : List Gn) (a : Nat) : List Gn := (slS (reachG v l a) l w (a + 1)).1
noncomputable def mkK (v w : Int) (l : List Gn) (a : Nat) : Int := (slS (reachG v l a) l w (a + 1)).2 a
def mkOk (v w : Int) (l : List Gn) (rs : List Gr) (a : Int) : Prop := (slopeP v l rs a ∧ 0 ≤ w ∧ w < v) ∧ (mkG v w l a.toNat).length ≤ 120
theorem specMake_yes (v w : Int) (l : List Gn) (rs : List Gr) (a : Int) (hl : l.length ≤ 1048576) (hr : rs.length ≤ 1048576) (hx : gtxtOk l) (h : mkOk v w l rs a) : AFunP Tryz.prog 6 [graphV v l rs, .int .i64 a, .int .i64 w] (· = .tup [graphV v (mkG v w l a.toNat) rs, .int .i64 (mkK v w l a.toNat), .bool true]) := by
  obtain ⟨⟨hp, hw0, hw1⟩, hL⟩ := h
  refine afun_of Tryz.func6 Tryz.call6 rfl Tryz.ntmps6 rfl ?_
  have W : Walk Tryz.prog TT 6 _ := Walk.of TT_ok Tryz.func6 Tryz.results6
  refine ce W 0 rfl rfl (specSmooth_ok v l rs a hl hr hx) rfl ?_
  refine sp W 0 rfl rfl rfl (fun h1 => ?_) (fun h1 => ?_)
  · exact absurd hp h1
  refine sp W 0 rfl rfl rfl (fun h2 => ?_) (fun h2 => ?_)
  · exfalso; omega
  refine sp W 0 rfl rfl rfl (fun h3 => ?_) (fun h3 => ?_)
  · exfalso; omega
  obtain ⟨m, rfl⟩ : ∃ m : Nat, a = m := ⟨a.toNat, by have := hp.2.1; omega⟩
  obtain ⟨hg, ha, hs⟩ := hp
  rw [Int.toNat_natCast] at hs hL ⊢
  have hm : m < l.length := by omega
  refine go_callS W 0 300 [] rfl (by first | exact True.intro | (simp only [AllC, AllP, addN, Int.toNat_natCast, true_and, and_true, Option.getD, List.length_set, wrapU, pw1, pw7, pw8, pw16, pw23, pw32, pw52, Holds] <;> first | omega | ((repeat' apply And.intro) <;> first | omega | (intros; rfl))) | (simp [AllC, AllP, addN, cloL, clo, mrgL, mrg, wrapU, Holds] <;> omega)) (l17Graph_ok v l rs (by have := hg.1; omega) (by have := hg.1; omega)) rfl rfl trivial trivial rfl ?_
  rintro _ _ ⟨g, rfl, rfl⟩
  refine ⟨_, _, rfl, rfl, ?_⟩
  refine go_callS W 0 300 [5] rfl (by first | exact True.intro | (simp only [AllC, AllP, addN, Int.toNat_natCast, true_and, and_true, Option.getD, List.length_set, wrapU, pw1, pw7, pw8, pw16, pw23, pw32, pw52, Holds] <;> first | omega | ((repeat' apply And.intro) <;> first | omega | (intros; rfl))) | (simp [AllC, AllP, addN, cloL, clo, mrgL, mrg, wrapU, Holds] <;> omega)) (l17Slope_ok v w l rs m hm (by have := hg.1; omega) hx hg.1.1 hg.2.1 hs g) rfl rfl ⟨fun _ _ => rfl, trivial⟩ ⟨rfl, trivial⟩ rfl ?_
  rintro _ _ ⟨g2, rfl, rfl⟩
  refine ⟨_, _, rfl, rfl, ?_⟩
  change (slS (reachG v l m) l w (m + 1)).1.length ≤ 120 at hL
  refine sp W 0 rfl rfl rfl (fun h4 => ?_) (fun h4 => ?_)
  · exfalso; dsimp only at h4; omega
  refine rp W 0 rfl rfl rfl (.refl)
theorem specMake_no (v w : Int) (l : List Gn) (rs : List Gr) (a : Int) (hl : l.length ≤ 1048576) (hr : rs.length ≤ 1048576) (hx : gtxtOk l) (h : ¬ mkOk v w l rs a) : AFunP Tryz.prog 6 [graphV v l rs, .int .i64 a, .int .i64 w] (· = .tup [graphV 0 [] [], .int .i64 0, .bool false]) := by
  refine afun_of Tryz.func6 Tryz.call6 rfl Tryz.ntmps6 rfl ?_
  have W : Walk Tryz.prog TT 6 _ := Walk.of TT_ok Tryz.func6 Tryz.results6
  refine ce W 0 rfl rfl (specSmooth_ok v l rs a hl hr hx) rfl ?_
  refine sp W 0 rfl rfl rfl (fun h1 => ?_) (fun h1 => ?_)
  · refine rp W 0 rfl rfl rfl (.tup ⟨.agg ⟨.refl, .nils_fz, .nils_fz, trivial⟩, .refl, .refl, trivial⟩)
  refine sp W 0 rfl rfl rfl (fun h2 => ?_) (fun h2 => ?_)
  · refine rp W 0 rfl rfl rfl (.tup ⟨.agg ⟨.refl, .nils_fz, .nils_fz, trivial⟩, .refl, .refl, trivial⟩)
  refine sp W 0 rfl rfl rfl (fun h3 => ?_) (fun h3 => ?_)
  · refine rp W 0 rfl rfl rfl (.tup ⟨.agg ⟨.refl, .nils_fz, .nils_fz, trivial⟩, .refl, .refl, trivial⟩)
  have hp := Classical.not_not.1 h1
  obtain ⟨m, rfl⟩ : ∃ m : Nat, a = m := ⟨a.toNat, by have := hp.2.1; omega⟩
  obtain ⟨hg, ha, hs⟩ := hp
  have hL : 120 < (mkG v w l m).length := by
    rcases Nat.lt_or_ge 120 (mkG v w l m).length with hb | hb
    · exact hb
    · exact absurd ⟨⟨Classical.not_not.1 h1, by omega, by omega⟩, by rw [Int.toNat_natCast]; exact hb⟩ h
  rw [Int.toNat_natCast] at hs
  have hm : m < l.length := by omega
  refine go_callS W 0 300 [] rfl (by first | exact True.intro | (simp only [AllC, AllP, addN, Int.toNat_natCast, true_and, and_true, Option.getD, List.length_set, wrapU, pw1, pw7, pw8, pw16, pw23, pw32, pw52, Holds] <;> first | omega | ((repeat' apply And.intro) <;> first | omega | (intros; rfl))) | (simp [AllC, AllP, addN, cloL, clo, mrgL, mrg, wrapU, Holds] <;> omega)) (l17Graph_ok v l rs (by have := hg.1; omega) (by have := hg.1; omega)) rfl rfl trivial trivial rfl ?_
  rintro _ _ ⟨g, rfl, rfl⟩
  refine ⟨_, _, rfl, rfl, ?_⟩
  refine go_callS W 0 300 [5] rfl (by first | exact True.intro | (simp only [AllC, AllP, addN, Int.toNat_natCast, true_and, and_true, Option.getD, List.length_set, wrapU, pw1, pw7, pw8, pw16, pw23, pw32, pw52, Holds] <;> first | omega | ((repeat' apply And.intro) <;> first | omega | (intros; rfl))) | (simp [AllC, AllP, addN, cloL, clo, mrgL, mrg, wrapU, Holds] <;> omega)) (l17Slope_ok v w l rs m hm (by have := hg.1; omega) hx hg.1.1 hg.2.1 hs g) rfl rfl ⟨fun _ _ => rfl, trivial⟩ ⟨rfl, trivial⟩ rfl ?_
  rintro _ _ ⟨g2, rfl, rfl⟩
  refine ⟨_, _, rfl, rfl, ?_⟩
  change 120 < (slS (reachG v l m) l w (m + 1)).1.length at hL
  refine sp W 0 rfl rfl rfl (fun h4 => ?_) (fun h4 => ?_)
  · refine rp W 0 rfl rfl rfl (.tup ⟨.agg ⟨.refl, .nils_fz, .nils_fz, trivial⟩, .refl, .refl, trivial⟩)
  · exfalso; dsimp only at h4; omega
theorem implMake_yes (v w : Int) (l : List Gn) (rs : List Gr) (a : Int) (hl : l.length ≤ 1048576) (hr : rs.length ≤ 1048576) (hx : gtxtOk l) (ha64 : -9223372036854775808 ≤ a ∧ a ≤ 9223372036854775807) (h : mkOk v w l rs a) : AFun Tryz.prog 8 [graphV v l rs, .int .i64 a, .int .i64 w] [] (fun u H => u = .tup [.agg [.int .i64 v, .sl 9 0 0 (mkG v w l a.toNat).length, .sl 10 0 0 rs.length], .int .i64 (mkK v w l a.toNat), .bool true] ∧ H = [.dead, .dead, .dead, .dead, .dead, .dead, .dead, .dead, .dead, .tab 0 (mkG v w l a.toNat).length (gnR (mkG v w l a.toNat)), .tab 0 rs.length (grR rs)]) := by
  obtain ⟨⟨hp, hw0, hw1⟩, hL⟩ := h
  have k2 := in_ok w 0 (v - 1)
  refine AFun.kill 1 ?_
  refine afun_of Tryz.func8 Tryz.call8 rfl Tryz.ntmps8 rfl ?_
  have W : Walk Tryz.prog TT 8 _ := Walk.of TT_ok Tryz.func8 Tryz.results8
  refine ce W 0 rfl rfl (implSmooth_ok v l rs a hl hr hx ha64) rfl ?_
  refine sp W 0 rfl rfl rfl (fun h1 => ?_) (fun h1 => ?_)
  · exact absurd hp h1
  · have hvv := hp.1.1.1
    refine ce W 0 rfl rfl (k2) rfl ?_
    refine sp W 0 rfl rfl rfl (fun h2 => ?_) (fun h2 => ?_)
    · exfalso; omega
    · obtain ⟨m, rfl⟩ : ∃ m : Nat, a = m := ⟨a.toNat, by have := hp.2.1; omega⟩
      obtain ⟨hg, ha, hs⟩ := hp
      rw [Int.toNat_natCast] at hs hL ⊢
      have hm : m < l.length := by omega
      have c := slopeOf_ok v w l rs m hm (by have := hg.1; omega) (by have := hg.1; omega) hx hg.1.1 hg.2.1 hs
      rw [slS_all hg hm] at c
      refine go_callS W 0 300 [] rfl (by first | exact True.intro | (simp only [AllC, AllP, addN, Int.toNat_natCast, true_and, and_true, Option.getD, List.length_set, wrapU, pw1, pw7, pw8, pw16, pw23, pw32, pw52, Holds] <;> first | omega | ((repeat' apply And.intro) <;> first | omega | (intros; rfl))) | (simp [AllC, AllP, addN, cloL, clo, mrgL, mrg, wrapU, Holds] <;> omega)) c rfl rfl trivial trivial rfl ?_
      rintro _ _ ⟨q, -⟩
      obtain ⟨rfl, rfl⟩ := q hL
      refine ⟨_, _, rfl, rfl, ?_⟩
      refine go_dead 0 rfl ?_
      refine go_dead 3 rfl ?_
      refine rg W 0 rfl (⟨_, rfl, rfl, rfl⟩)
theorem implMake_no (v w : Int) (l : List Gn) (rs : List Gr) (a : Int) (hl : l.length ≤ 1048576) (hr : rs.length ≤ 1048576) (hx : gtxtOk l) (ha64 : -9223372036854775808 ≤ a ∧ a ≤ 9223372036854775807) (h : ¬ mkOk v w l rs a) : AFunP Tryz.prog 8 [graphV v l rs, .int .i64 a, .int .i64 w] (· = .tup [.agg [.int .i64 0, .nils, .nils], .int .i64 0, .bool false]) := by
  have k2 := in_ok w 0 (v - 1)
  refine afun_of Tryz.func8 Tryz.call8 rfl Tryz.ntmps8 rfl ?_
  have W : Walk Tryz.prog TT 8 _ := Walk.of TT_ok Tryz.func8 Tryz.results8
  refine ce W 0 rfl rfl (implSmooth_ok v l rs a hl hr hx ha64) rfl ?_
  refine sp W 0 rfl rfl rfl (fun h1 => ?_) (fun h1 => ?_)
  · refine rp W 0 rfl rfl rfl (.refl)
  · have h1 := Classical.not_not.1 h1
    have hvv := h1.1.1.1
    refine ce W 0 rfl rfl (k2) rfl ?_
    refine sp W 0 rfl rfl rfl (fun h2 => ?_) (fun h2 => ?_)
    · refine rp W 0 rfl rfl rfl (.refl)
    · have hp := h1
      obtain ⟨m, rfl⟩ : ∃ m : Nat, a = m := ⟨a.toNat, by have := hp.2.1; omega⟩
      obtain ⟨hg, ha, hs⟩ := hp
      have hL : 120 < (mkG v w l m).length := by
        rcases Nat.lt_or_ge 120 (mkG v w l m).length with hb | hb
        · exact hb
        · exact absurd ⟨⟨h1, by omega, by omega⟩, by rw [Int.toNat_natCast]; exact hb⟩ h
      rw [Int.toNat_natCast] at hs
      have hm : m < l.length := by omega
      have c := slopeOf_ok v w l rs m hm (by have := hg.1; omega) (by have := hg.1; omega) hx hg.1.1 hg.2.1 hs
      rw [slS_all hg hm] at c
      refine go_callS W 0 300 [] rfl (by first | exact True.intro | (simp only [AllC, AllP, addN, Int.toNat_natCast, true_and, and_true, Option.getD, List.length_set, wrapU, pw1, pw7, pw8, pw16, pw23, pw32, pw52, Holds] <;> first | omega | ((repeat' apply And.intro) <;> first | omega | (intros; rfl))) | (simp [AllC, AllP, addN, cloL, clo, mrgL, mrg, wrapU, Holds] <;> omega)) c rfl rfl trivial trivial rfl ?_
      rintro _ _ ⟨-, q⟩
      obtain ⟨g1, N1, K1, rfl, rfl⟩ := q hL
      refine ⟨_, _, rfl, rfl, ?_⟩
      refine rp W 0 rfl rfl rfl (.refl)
end Pf
/- SlopeMake: the law -/
namespace Pf
open Go Go.Proofs
theorem AFun.args {P : Program} {f : FuncId} {args args' : List AV} {Hs : AHeap} {Q : AV → AHeap → Prop} (h : AFun P f args Hs Q) (hs : Subs args' args) : AFun P f args' Hs Q :=
  ⟨h.1, fun FM β cs w cargs hv hh => h.2 FM β cs w cargs ⟨by rw [hs.len]; exact hv.1, fun i hi => hs.get i (by rw [← hs.len]; exact hi) hi _ _ _ (hv.2 i _)⟩ hh⟩
theorem mkG_len {v w : Int} {l : List Gn} {a : Nat} (ha : a < l.length) : (mkG v w l a).length ≤ l.length + 6 * (a + 1) := slS_bound _
theorem eqGraph_no : AFunP Tryz.prog 9 [.agg [.int .i64 0, .nils, .nils], graphV 0 [] []] (· = .pr True) :=
  AFun.args (eqGraph_ok 0 [] [] (by simp) (by simp)) ⟨.agg ⟨.refl, .nils_fz, .nils_fz, trivial⟩, .refl, trivial⟩
theorem fnSlopeMake_law (v : Int) (l : List Gn) (rs : List Gr) (a w : Int) (hm : l.length ≤ 9223372036854775807) (hr : rs.length ≤ 9223372036854775807) (hx : ∀ i, i < l.length → (l.getD i g0).t.length ≤ 9223372036854775807) (ha : -9223372036854775808 ≤ a ∧ a ≤ 9223372036854775807) : AFunP Tryz.prog 3 [graphV v l rs, .int .i64 a, .int .i64 w] (· = .pr True) := by
  refine afun_of Tryz.func3 Tryz.call3 rfl Tryz.ntmps3 rfl ?_
  have W : Walk Tryz.prog TT 3 _ := Walk.of TT_ok Tryz.func3 Tryz.results3
  refine cq W 0 rfl rfl (szGraph_ok v l rs hm hr hx) ?_
  rintro _ ⟨n, rfl, hn⟩
  refine ⟨_, rfl, ?_⟩
  refine sp W 0 rfl rfl rfl (fun h1 => ?_) (fun h1 => ?_)
  · refine rp W 0 rfl rfl rfl (.yes trivial)
  obtain ⟨hl, hrs, ht⟩ := hn (by omega)
  have k1 := toGraph_ok v l rs hl hrs
  refine ce W 0 rfl rfl (k1) rfl ?_
  by_cases hp : mkOk v w l rs a
  · have ks := specMake_yes v w l rs a hl hrs ht hp
    have ki := implMake_yes v w l rs a hl hrs ht ha hp
    have hNl : (mkG v w l a.toNat).length ≤ 120 := hp.2
    have hg := hp.1.1.1
    generalize mkG v w l a.toNat = N at ks ki hNl
    generalize mkK v w l a.toNat = K at ks ki
    refine ce W 0 rfl rfl (ks) rfl ?_
    refine cx W 0 rfl rfl (toGraph_new v l rs hl hrs) (fun u H h => by obtain ⟨rfl, rfl⟩ := h; exact ⟨rfl, rfl, rfl, rfl, fun _ _ => rfl, fun _ _ => rfl, trivial⟩) ?_
    rintro _ _ ⟨rfl, rfl⟩
    refine ⟨_, _, rfl, rfl, ?_⟩
    refine go_tab 5 l.length (gnR l) rfl rfl rfl (Nat.le_refl _) (fun _ _ => rfl) (.inl rfl) ?_
    refine go_tab 6 rs.length (grR rs) rfl rfl rfl (Nat.le_refl _) (fun _ _ => rfl) (.inl rfl) ?_
    refine go_callL W 0 300 rfl (by first | exact True.intro | (simp only [AllC, AllP, addN, Int.toNat_natCast, true_and, and_true, Option.getD, List.length_set, wrapU, pw1, pw7, pw8, pw16, pw23, pw32, pw52, Holds] <;> first | omega | ((repeat' apply And.intro) <;> first | omega | (intros; rfl))) | (simp [AllC, AllP, addN, cloL, clo, mrgL, mrg, wrapU, Holds] <;> omega)) rfl ⟨⟨trivial, rfl, by omega, fun _ _ => rfl⟩, rfl, by omega, fun _ _ => rfl⟩ rfl ki (fun u H h => by obtain ⟨rfl, rfl⟩ := h; exact ⟨rfl, trivial, trivial, trivial, trivial, trivial, trivial, trivial, trivial, trivial, fun _ _ => rfl, fun _ _ => rfl, trivial⟩) ?_
    rintro _ _ ⟨rfl, rfl⟩
    refine ⟨_, _, rfl, rfl, ?_⟩
    have keq := eqGraph_ok v N rs (by omega) hrs
    refine cb W 0 rfl rfl rfl rfl (keq) rfl ?_
    refine sp W 0 rfl rfl rfl (fun b1 => ?_) (fun b1 => ?_)
    · exact absurd trivial b1
    refine sp W 0 rfl rfl rfl (fun b2 => ?_) (fun b2 => ?_)
    · exact absurd rfl b2
    refine sp W 0 rfl rfl rfl (fun c2 => ?_) (fun c2 => ?_)
    · exact absurd Iff.rfl c2
    refine dre W 0 4 [] [graphV v l rs, .pr True] rfl rfl rfl ⟨k1.at rfl _, (eqGraph_ok v l rs hl hrs).bor rfl ⟨⟨trivial, rfl, by omega, fun _ _ => rfl⟩, rfl, by omega, fun _ _ => rfl⟩ rfl (fun _ h => by rw [h]; rfl), trivial⟩ rfl ?_
    refine sp W 0 rfl rfl rfl (fun b3 => ?_) (fun b3 => ?_)
    · exact absurd trivial b3
    refine cmT W 0 [(5, 0), (6, 0)] rfl (markGraph_ok v l.length rs.length 1 l rs rfl rfl hl hrs (by omega) (by omega)) ⟨rfl, rfl, trivial⟩ rfl rfl ⟨fun _ _ => rfl, fun _ _ => rfl, trivial⟩ ?_
    rintro _ _ ⟨rfl, l', r', ⟨hl', hr'⟩, -, rfl⟩
    refine ⟨_, _, rfl, rfl, ?_⟩
    refine sp W 0 rfl rfl rfl (fun b4 => ?_) (fun b4 => ?_)
    · exfalso; omega
    refine cb W 0 rfl rfl rfl rfl (keq) rfl ?_
    refine sp W 0 rfl rfl rfl (fun b5 => ?_) (fun b5 => ?_)
    · exact absurd trivial b5
    refine sp W 0 rfl rfl rfl (fun b6 => ?_) (fun b6 => ?_)
    · exact absurd rfl b6
    refine sp W 0 rfl rfl rfl (fun c6 => ?_) (fun c6 => ?_)
    · exact absurd Iff.rfl c6
    refine cmT W 0 [(17, 0), (18, 0)] rfl (markGraph_ok v N.length rs.length 1 N rs rfl rfl (by omega) hrs (by omega) (by omega)) ⟨rfl, rfl, trivial⟩ rfl rfl ⟨fun _ _ => rfl, fun _ _ => rfl, trivial⟩ ?_
    rintro _ _ ⟨rfl, N', q', ⟨hN', hq'⟩, ⟨hh1, hh2⟩, rfl⟩
    refine ⟨_, _, rfl, rfl, ?_⟩
    have kh := heldGraph_ok v 1 N' q' (by omega) (by omega) (by omega) (by omega) hh1 (by rw [hN']; exact hh2)
    unfold graphV at kh
    rw [hN', hq'] at kh
    refine cb W 0 rfl rfl rfl rfl (kh) rfl ?_
    refine sp W 0 rfl rfl rfl (fun b7 => ?_) (fun b7 => ?_)
    · exfalso; omega
    refine sp W 0 rfl rfl rfl (fun b8 => ?_) (fun b8 => ?_)
    · exact absurd rfl b8
    refine ce W 0 rfl rfl (k1) rfl ?_
    refine go_callL W 0 300 rfl (by first | exact True.intro | (simp only [AllC, AllP, addN, Int.toNat_natCast, true_and, and_true, Option.getD, List.length_set, wrapU, pw1, pw7, pw8, pw16, pw23, pw32, pw52, Holds] <;> first | omega | ((repeat' apply And.intro) <;> first | omega | (intros; rfl))) | (simp [AllC, AllP, addN, cloL, clo, mrgL, mrg, wrapU, Holds] <;> omega)) rfl trivial rfl ki (fun u H h => by obtain ⟨rfl, rfl⟩ := h; exact ⟨rfl, trivial, trivial, trivial, trivial, trivial, trivial, trivial, trivial, trivial, fun _ _ => rfl, fun _ _ => rfl, trivial⟩) ?_
    rintro _ _ ⟨rfl, rfl⟩
    refine ⟨_, _, rfl, rfl, ?_⟩
    refine cb W 0 rfl rfl rfl rfl (keq) rfl ?_
    refine sp W 0 rfl rfl rfl (fun b9 => ?_) (fun b9 => ?_)
    · exact absurd trivial b9
    refine sp W 0 rfl rfl rfl (fun d1 => ?_) (fun d1 => ?_)
    · exact absurd rfl d1
    refine sp W 0 rfl rfl rfl (fun d2 => ?_) (fun d2 => ?_)
    · exact absurd Iff.rfl d2
    refine cb W 0 rfl rfl rfl rfl (kh) rfl ?_
    refine sp W 0 rfl rfl rfl (fun d3 => ?_) (fun d3 => ?_)
    · exfalso; omega
    refine sp W 0 rfl rfl rfl (fun d4 => ?_) (fun d4 => ?_)
    · exact absurd rfl d4
    refine rp W 0 rfl rfl rfl (.yes trivial)
  · have ks := specMake_no v w l rs a hl hrs ht hp
    have ki := implMake_no v w l rs a hl hrs ht ha hp
    have kh : AFunP Tryz.prog 11 [.agg [.int .i64 0, .nils, .nils], .int .i64 1] (· = .int .i64 1) := AFun.args (heldGraph_ok 0 1 [] [] (by simp) (by simp) (by omega) (by omega) (fun i hi => by simp at hi) (fun i hi => by simp at hi)) ⟨.agg ⟨.refl, .nils_fz, .nils_fz, trivial⟩, .refl, trivial⟩
    refine ce W 0 rfl rfl (ks) rfl ?_
    refine cx W 0 rfl rfl (toGraph_new v l rs hl hrs) (fun u H h => by obtain ⟨rfl, rfl⟩ := h; exact ⟨rfl, rfl, rfl, rfl, fun _ _ => rfl, fun _ _ => rfl, trivial⟩) ?_
    rintro _ _ ⟨rfl, rfl⟩
    refine ⟨_, _, rfl, rfl, ?_⟩
    refine go_tab 5 l.length (gnR l) rfl rfl rfl (Nat.le_refl _) (fun _ _ => rfl) (.inl rfl) ?_
    refine go_tab 6 rs.length (grR rs) rfl rfl rfl (Nat.le_refl _) (fun _ _ => rfl) (.inl rfl) ?_
    refine cb W 0 rfl rfl rfl rfl (ki) rfl ?_
    refine cb W 0 rfl rfl rfl rfl (eqGraph_no) rfl ?_
    refine sp W 0 rfl rfl rfl (fun b1 => ?_) (fun b1 => ?_)
    · exact absurd trivial b1
    refine sp W 0 rfl rfl rfl (fun b2 => ?_) (fun b2 => ?_)
    · exact absurd rfl b2
    refine sp W 0 rfl rfl rfl (fun c2 => ?_) (fun c2 => ?_)
    · exact absurd Iff.rfl c2
    refine dre W 0 4 [] [graphV v l rs, .pr True] rfl rfl rfl ⟨k1.at rfl _, (eqGraph_ok v l rs hl hrs).bor rfl ⟨⟨trivial, rfl, by omega, fun _ _ => rfl⟩, rfl, by omega, fun _ _ => rfl⟩ rfl (fun _ h => by rw [h]; rfl), trivial⟩ rfl ?_
    refine sp W 0 rfl rfl rfl (fun b3 => ?_) (fun b3 => ?_)
    · exact absurd trivial b3
    refine cmT W 0 [(5, 0), (6, 0)] rfl (markGraph_ok v l.length rs.length 1 l rs rfl rfl hl hrs (by omega) (by omega)) ⟨rfl, rfl, trivial⟩ rfl rfl ⟨fun _ _ => rfl, fun _ _ => rfl, trivial⟩ ?_
    rintro _ _ ⟨rfl, l', r', ⟨hl', hr'⟩, -, rfl⟩
    refine ⟨_, _, rfl, rfl, ?_⟩
    refine sp W 0 rfl rfl rfl (fun b4 => ?_) (fun b4 => ?_)
    · exfalso; omega
    refine cb W 0 rfl rfl rfl rfl (eqGraph_no) rfl ?_
    refine sp W 0 rfl rfl rfl (fun b5 => ?_) (fun b5 => ?_)
    · exact absurd trivial b5
    refine sp W 0 rfl rfl rfl (fun b6 => ?_) (fun b6 => ?_)
    · exact absurd rfl b6
    refine sp W 0 rfl rfl rfl (fun c6 => ?_) (fun c6 => ?_)
    · exact absurd Iff.rfl c6
    refine cb W 0 rfl rfl rfl rfl (markGraph_nil 1) rfl ?_
    refine cb W 0 rfl rfl rfl rfl (kh) rfl ?_
    refine sp W 0 rfl rfl rfl (fun b7 => ?_) (fun b7 => ?_)
    · exfalso; omega
    refine sp W 0 rfl rfl rfl (fun b8 => ?_) (fun b8 => ?_)
    · exact absurd rfl b8
    refine ce W 0 rfl rfl (k1) rfl ?_
    refine cb W 0 rfl rfl rfl rfl (ki) rfl ?_
    refine cb W 0 rfl rfl rfl rfl (eqGraph_no) rfl ?_
    refine sp W 0 rfl rfl rfl (fun b9 => ?_) (fun b9 => ?_)
    · exact absurd trivial b9
    refine sp W 0 rfl rfl rfl (fun d1 => ?_) (fun d1 => ?_)
    · exact absurd rfl d1
    refine sp W 0 rfl rfl rfl (fun d2 => ?_) (fun d2 => ?_)
    · exact absurd Iff.rfl d2
    refine cb W 0 rfl rfl rfl rfl (kh) rfl ?_
    refine sp W 0 rfl rfl rfl (fun d3 => ?_) (fun d3 => ?_)
    · exfalso; omega
    refine sp W 0 rfl rfl rfl (fun d4 => ?_) (fun d4 => ?_)
    · exact absurd rfl d4
    refine rp W 0 rfl rfl rfl (.yes trivial)
end Pf
