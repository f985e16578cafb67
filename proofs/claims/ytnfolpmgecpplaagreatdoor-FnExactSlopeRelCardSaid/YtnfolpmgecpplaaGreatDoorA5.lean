/- Part 5 of the lemmas that the claim rests on: an abstract machine over the model, what it is sound for, and the contracts of the functions that the law reaches. -/
import Derived.Test.YtnfolpmgecpplaaGreatDoorA4
set_option linter.unusedSimpArgs false
set_option linter.unusedVariables false
set_option maxHeartbeats 4000000
/- Slopes of a relation: impl, laid down -/
namespace Pf
open Go Go.Proofs
/-- A node's slope, all in new memory but what came of it forgotten. -/
def SnQ (v : Int) (rs : List Gr) (N : List Gn) (k : Int) (u : AV) (H : AHeap) : Prop :=
  (N.length ≤ 120 → u = .tup [.agg [.int .i64 v, .sl 7 0 0 N.length, .sl 8 0 0 rs.length], .int .i64 k, .bool true] ∧ H = [.dead, .dead, .dead, .dead, .dead, .dead, .dead, .tab 0 N.length (gnR N), .tab 0 rs.length (grR rs)]) ∧
  (120 < N.length → u = .tup [.agg [.int .i64 0, .nils, .nils], .int .i64 0, .bool false] ∧ H = [.dead, .dead, .dead, .dead, .dead, .dead, .dead])
theorem slopeOf_new (v w : Int) (l : List Gn) (rs : List Gr) (a : Nat) (ha : a < l.length) (hl : l.length ≤ 120) (hr : 0 < rs.length ∧ rs.length ≤ 1000000) (hx : gtxtOk l) (hv : 1 ≤ v ∧ v ≤ 6) (hn : ∀ i, i < l.length → nodeP v l i) (hs : smoothP v l a) : AFun Tryz.prog 26 [graphV v l rs, .int .i64 a, .int .i64 w] [] (SnQ v rs (mkG v w l a) (mkK v w l a)) := by
  have c := slopeOf_ok v w l rs a ha hl hr hx hv hn hs
  have e : slS (reachG v l a) l w l.length = slS (reachG v l a) l w (a + 1) := by
    obtain ⟨n, hnn⟩ : ∃ n, l.length = a + 1 + n := ⟨l.length - (a + 1), by omega⟩
    rw [hnn]
    refine slS_stop (fun i hi hr => ?_) n
    have := reach_le hn ha hr
    omega
  rw [e] at c
  refine AFun.kill 1 (AFun.kill 3 (AFun.kill 4 (AFun.kill 5 (c.mono fun u H h => ?_))))
  rcases Nat.lt_or_ge 120 (slS (reachG v l a) l w (a + 1)).1.length with hb | hb
  · obtain ⟨g1, N1, K1, rfl, rfl⟩ := h.2 hb
    exact ⟨_, rfl, _, rfl, _, rfl, _, rfl, fun k => by unfold mkG at k; omega, fun _ => ⟨rfl, rfl⟩⟩
  · obtain ⟨rfl, rfl⟩ := h.1 hb
    exact ⟨_, rfl, _, rfl, _, rfl, _, rfl, fun _ => ⟨rfl, rfl⟩, fun k => by unfold mkG at k; omega⟩
theorem sClipI_ok (K : List Int) (g : Nat) (hN : K.length ≤ 1000000) : AFun Tryz.prog 41 [.sl 0 g 0 K.length] [.ints g .i64 K] (fun u H => u = .sl 0 g 0 K.length ∧ H = [.ints g .i64 K]) := by
  refine afun_of Tryz.func41 Tryz.call41 rfl Tryz.ntmps41 rfl ?_
  have W : Walk Tryz.prog TT 41 _ := Walk.of TT_ok Tryz.func41 Tryz.results41
  refine rg W 0 rfl (⟨rfl, rfl⟩)
theorem relKs_of {v : Int} {l : List Gn} {L R : Int} {n : Nat} {K : List Int} (h : K.length = n) (hk : ∀ j, j < n → K.getD j 0 = relK v l L R j) : K = relKs v l L R n := by
  refine List.ext_getElem (by rw [relKs_len]; exact h) fun j h1 h2 => ?_
  have := hk j (by omega)
  rw [List.getD_eq_getElem?_getD, List.getElem?_eq_getElem h1] at this
  simpa [relKs] using this
theorem implRel_yes (v : Int) (l : List Gn) (rs : List Gr) (r : Int) (hl : l.length ≤ 1048576) (hr : rs.length ≤ 1048576) (hx : gtxtOk l) (hr64 : -9223372036854775808 ≤ r ∧ r ≤ 9223372036854775807) (h : relOk v l rs r) : AFun Tryz.prog 13 [graphV v l rs, .int .i64 r] [] (fun u H => u = .tup [.agg [.int .i64 v, .sl 16 0 0 (relN v l (rs.getD r.toNat r0).l (rs.getD r.toNat r0).r v.toNat).length, .sl 17 0 0 rs.length], .int .i64 (relA l (rs.getD r.toNat r0).l (rs.getD r.toNat r0).r : Nat), .sl 8 0 0 v.toNat, .bool true] ∧ H = [.dead, .dead, .dead, .dead, .dead, .dead, .dead, .dead, .ints 0 .i64 (relKs v l (rs.getD r.toNat r0).l (rs.getD r.toNat r0).r v.toNat), .dead, .dead, .dead, .dead, .dead, .dead, .dead, .tab 0 (relN v l (rs.getD r.toNat r0).l (rs.getD r.toNat r0).r v.toNat).length (gnR (relN v l (rs.getD r.toNat r0).l (rs.getD r.toNat r0).r v.toNat)), .tab 0 rs.length (grR rs)]) := by
  obtain ⟨⟨h4, h5, h2, h3⟩, hN⟩ := h
  have h1 := h4.1
  obtain ⟨a, b, eL, eR, hp⟩ := RelP.of hx h4 h5
  have hlen := h1.1
  have k1 := implGraphOk_ok v l rs hl hr hx
  have k2 := in_ok r 0 ((rs.length : Int) - 1)
  have k3 : AFunP Tryz.prog 36 [graphV v l rs, .int .i64 (rs.getD r.toNat r0).l] (· = .pr (smoothP v l (rs.getD r.toNat r0).l.toNat)) := by rw [eL]; exact smooth_ok v l rs a hp.hL hl hx hp.hv.1 hp.hn.1
  have k4 : AFunP Tryz.prog 36 [graphV v l rs, .int .i64 (rs.getD r.toNat r0).r] (· = .pr (smoothP v l (rs.getD r.toNat r0).r.toNat)) := by rw [eR]; exact smooth_ok v l rs b hp.hR hl hx hp.hv.1 hp.hn.1
  have s4 := h4.2.2
  have s5 := h5.2.2
  have h23 : 0 ≤ r ∧ r ≤ (rs.length : Int) - 1 := by omega
  obtain ⟨m, rfl⟩ : ∃ m : Nat, v = m := ⟨v.toNat, by omega⟩
  refine AFun.kill 1 ?_
  rw [Int.toNat_natCast] at hN ⊢
  suffices hh : AFun Tryz.prog 13 [graphV m l rs, .int .i64 r] [] (fun u H => ∃ H2, setM ABlk.dead H 1 = some H2 ∧ u = .tup [.agg [.int .i64 m, .sl 16 0 0 (relN m l a b m).length, .sl 17 0 0 rs.length], .int .i64 (relA l a b : Nat), .sl 8 0 0 m, .bool true] ∧ H2 = [.dead, .dead, .dead, .dead, .dead, .dead, .dead, .dead, .ints 0 .i64 (relKs m l a b m), .dead, .dead, .dead, .dead, .dead, .dead, .dead, .tab 0 (relN m l a b m).length (gnR (relN m l a b m)), .tab 0 rs.length (grR rs)]) by
    refine hh.mono fun u H h => ?_
    rw [eL, eR]
    exact h
  refine afun_of Tryz.func13 Tryz.call13 rfl Tryz.ntmps13 rfl ?_
  have W : Walk Tryz.prog TT 13 _ := Walk.of TT_ok Tryz.func13 Tryz.results13
  refine dre W 0 34 [(19, false), (28, false), (39, false)] [.pr (graphP m l rs), .pr (0 ≤ r ∧ r ≤ (rs.length : Int) - 1), .pr (smoothP m l (rs.getD r.toNat r0).l.toNat), .pr (smoothP m l (rs.getD r.toNat r0).r.toNat)] rfl rfl rfl ⟨k1.at rfl _, k2.at rfl _, k3.at rfl _, k4.at rfl _, trivial⟩ rfl ?_ (hp := by simp only [AllP, Holds, Option.getD, true_and, and_true, Classical.not_not]; simp only [h1, h23, s4, not_true, not_false_iff, true_and, and_true] <;> omega)
  refine sp W 0 rfl rfl rfl (fun h6 => ?_) (fun h6 => ?_)
  · exact absurd s5 h6
  rw [eL, eR] at hN
  have hall := hp.all
  have hmono : ∀ i, i ≤ m → (relN m l a b i).length ≤ 120 := fun i hi => by
    have := relN_mono2 (v := m) (l := l) (L := a) (R := b) hi
    omega
  have h0 : (relN m l a b 0).length ≤ 120 := hmono 0 (Nat.zero_le _)
  have hd := graph_nd hp.hn.1
  refine go_callS W 0 300 [] rfl (by first | exact True.intro | (simp only [AllC, AllP, addN, Int.toNat_natCast, true_and, and_true, Option.getD, List.length_set, wrapU, pw1, pw7, pw8, pw16, pw23, pw32, pw52, Holds] <;> first | omega | ((repeat' apply And.intro) <;> first | omega | (intros; rfl))) | (simp [AllC, AllP, addN, cloL, clo, mrgL, mrg, wrapU, Holds] <;> omega)) (layerOf_ok l (by omega) hd) rfl rfl trivial trivial rfl ?_
  rintro _ _ ⟨g, rfl, rfl⟩
  refine ⟨_, _, rfl, rfl, ?_⟩
  refine dre W 0 14 [] [] rfl rfl rfl trivial rfl ?_ (hp := by simp only [AllP, Holds, Option.getD, true_and, and_true]; omega)
  have cL : AFun Tryz.prog 38 [.ptr 0 0 0 0, .agg [.int .i64 5, .int .i64 (rs.getD r.toNat r0).l, .int .i64 (rs.getD r.toNat r0).r, .int .i64 0, .str []]] (LayS l false g) (fun u H => ∃ g', u = .int .i64 (relA l a b : Nat) ∧ H = LayS (relN m l a b 0) false g') := by
    rw [eL, eR]
    have q := (lock (.put (subG a b) .ret) l (by omega)).1 h0
    have c := lay_ok (subG a b) l false g (by omega)
    rw [q] at c
    exact c.mono fun u H ⟨g', e1, e2⟩ => ⟨g', e1.trans (by rw [← relA_cast]), e2⟩
  unfold LayS at cL
  refine go_callS W 0 300 [3, 4, 2] rfl (by first | exact True.intro | (simp only [AllC, AllP, addN, Int.toNat_natCast, true_and, and_true, Option.getD, List.length_set, wrapU, pw1, pw7, pw8, pw16, pw23, pw32, pw52, Holds] <;> first | omega | ((repeat' apply And.intro) <;> first | omega | (intros; rfl))) | (simp [AllC, AllP, addN, cloL, clo, mrgL, mrg, wrapU, Holds] <;> omega)) cL rfl rfl ⟨rfl, fun _ _ => rfl, trivial, trivial⟩ ⟨rfl, rfl, rfl, trivial⟩ rfl ?_
  rintro _ _ ⟨g1, rfl, rfl⟩
  refine ⟨_, _, rfl, rfl, ?_⟩
  have hN0 : 0 < (relN m l a b 0).length := by have := (hall 0).2.1; omega
  refine phg W 0 12 [6, 9, 11] rfl rfl (fun PW => ?_)
  refine phl PW 0 [6, 11] [] [] rfl rfl trivial ⟨?_, ?_, trivial⟩ (hp := by simp only [AllP, Holds, Option.getD, addNz, Int.toNat_natCast, true_and, and_true] <;> omega)
  · refine nx_call PW rfl (AFun.sub (ρ := [4]) (cloneN_ok (relN m l a b 0) g1 (by omega) hN0) rfl ⟨fun _ _ => rfl, trivial⟩ ⟨rfl, trivial⟩ (by decide)) ?_
    rintro _ _ ⟨_, _, ⟨rfl, rfl⟩, rfl, hq1⟩
    obtain rfl := Option.some.inj (show some _ = some _ from hq1)
    refine ⟨_, rfl, ?_⟩
    refine phl PW 0 [9, 11] [] [] rfl rfl trivial ⟨?_, ?_, trivial⟩ (hp := by simp only [AllP, Holds, Option.getD, addNz, Int.toNat_natCast, true_and, and_true] <;> omega)
    · refine nx_call PW rfl (AFun.sub (ρ := []) (cloneR_ok rs (by omega) (by omega)) rfl trivial trivial (by decide)) ?_
      rintro _ _ ⟨_, _, ⟨rfl, rfl⟩, rfl, hq2⟩
      obtain rfl := Option.some.inj (show some _ = some _ from hq2)
      refine ⟨_, rfl, ?_⟩
      refine pho PW 0 11 [] [] rfl rfl trivial rfl rfl ?_
      refine phe PW 0 [] [] rfl trivial rfl ?_
      refine atl W rfl ?_
      refine go_dead 2 rfl ?_
      refine go_dead 3 rfl ?_
      refine go_dead 4 rfl ?_
      refine go_frz [5, 6] [2, 4, 5, 6, 7, 9, 10, 11, 89, 90] rfl rfl rfl (by first | exact True.intro | (simp only [AllC, AllP, addN, Int.toNat_natCast, true_and, and_true, Option.getD, List.length_set, wrapU, pw1, pw7, pw8, pw16, pw23, pw32, pw52, Holds] <;> first | omega | ((repeat' apply And.intro) <;> first | omega | (intros; rfl))) | (simp [AllC, AllP, addN, cloL, clo, mrgL, mrg, wrapU, Holds] <;> omega)) (by first | exact True.intro | (simp only [AllC, AllP, addN, Int.toNat_natCast, true_and, and_true, Option.getD, List.length_set, wrapU, pw1, pw7, pw8, pw16, pw23, pw32, pw52, Holds] <;> first | omega | ((repeat' apply And.intro) <;> first | omega | (intros; rfl))) | (simp [AllC, AllP, addN, cloL, clo, mrgL, mrg, wrapU, Holds] <;> omega)) ?_
      refine lp W 0 (σ := Nat × Bool × List Int) (fun s => [(2, .ptr 0 0 0 0), (4, .ptr 1 0 0 0), (5, .int .i64 0), (6, .nils), (7, .bool false), (9, .int .i64 (relA l a b : Nat)), (10, .ptr 7 0 0 0), (11, .sl 8 0 0 m), (89, .int .i64 m), (90, .int .i64 s.1)]) (fun s => cond s.2.1 [.lst 0 [[.int .i64 m, .fz l.length (gnR l), .fz rs.length (grR rs)]], .lst 0 [[.int .i64 0, .nils, .nils]], .dead, .dead, .dead, .dead, .dead, .lst 0 [[.int .i64 m, .sl 16 0 0 (relN m l a b s.1).length, .sl 17 0 0 rs.length]], .ints 0 .i64 s.2.2, .dead, .dead, .dead, .dead, .dead, .dead, .dead, .tab 0 (relN m l a b s.1).length (gnR (relN m l a b s.1)), .tab 0 rs.length (grR rs)] [.lst 0 [[.int .i64 m, .fz l.length (gnR l), .fz rs.length (grR rs)]], .lst 0 [[.int .i64 0, .nils, .nils]], .dead, .dead, .dead, .dead, .dead, .lst 0 [[.int .i64 m, .fz (relN m l a b s.1).length (gnR (relN m l a b s.1)), .fz rs.length (grR rs)]], .ints 0 .i64 s.2.2]) (fun s => m - s.1) (fun s => s.1 ≤ m ∧ (s.2.1 = true ↔ s.1 = m) ∧ s.2.2.length = m ∧ ∀ j, j < s.1 → s.2.2.getD j 0 = relK m l a b j) (0, false, List.replicate (m : Int).toNat 0) [2, 4, 5, 6, 7, 9, 10, 11, 89, 90] rfl rfl rfl ⟨Nat.zero_le _, by simp; omega, by simp, fun j hj => by omega⟩ ?_
      rintro ⟨i, F, K⟩ ⟨hi, hF, hKl, hK⟩ ih
      dsimp only at hi hF hKl hK ih ⊢
      rcases F with _ | _
      · dsimp only [cond] at *
        refine sp W 0 rfl rfl rfl (fun z1 => ?_) (fun z1 => ?_)
        · have hi2 : i < m := by omega
          have iN : ((i : Nat) : Int).toNat = i := Int.toNat_natCast i
          obtain ⟨w1, w2, w3, w4⟩ := hall i
          have c : AFun Tryz.prog 26 [graphV m (relN m l a b i) rs, .int .i64 (relA l a b : Nat), .int .i64 (i : Nat)] [] (SnQ m rs (relN m l a b (i + 1)) (relK m l a b i)) := slopeOf_new m i (relN m l a b i) rs (relA l a b) w3 (hmono i hi) ⟨by omega, by omega⟩ w1.2 (by omega) w1.1 w4
          refine go_callS W 0 300 [] rfl (by first | exact True.intro | (simp only [AllC, AllP, addN, Int.toNat_natCast, true_and, and_true, Option.getD, List.length_set, wrapU, pw1, pw7, pw8, pw16, pw23, pw32, pw52, Holds] <;> first | omega | ((repeat' apply And.intro) <;> first | omega | (intros; rfl))) | (simp [AllC, AllP, addN, cloL, clo, mrgL, mrg, wrapU, Holds] <;> omega)) c rfl rfl trivial trivial rfl ?_
          rintro _ _ ⟨q, -⟩
          obtain ⟨rfl, rfl⟩ := q (hmono (i + 1) (by omega))
          refine ⟨_, _, rfl, rfl, ?_⟩
          have hset : ∀ j, j < i + 1 → (K.set (addN 0 ((i : Nat) : Int).toNat) (relK m l a b i)).getD j 0 = relK m l a b j := fun j hj => by
            rw [addNz, iN]
            by_cases hji : j = i
            · subst hji; rw [List.getD_eq_getElem?_getD, List.getElem?_set_self (by omega)]; rfl
            · rw [← hK j (by omega), List.getD_eq_getElem?_getD, List.getElem?_set_ne (fun k => hji k.symm), ← List.getD_eq_getElem?_getD]
          by_cases hlast : i + 1 = m
          · have nx := ih (i + 1, true, K.set (addN 0 ((i : Nat) : Int).toNat) (relK m l a b i)) ⟨by dsimp only; omega, by dsimp only; simp [hlast], by simpa using hKl, hset⟩ (by dsimp only; omega)
            dsimp only [cond] at nx
            refine bd W 0 18 [2, 4, 5, 6, 7, 9, 10, 11, 89, 90] rfl rfl rfl rfl rfl nx (hc := by simp only [AllC, addNz, iN, true_and, and_true]; omega)
          · have nx := ih (i + 1, false, K.set (addN 0 ((i : Nat) : Int).toNat) (relK m l a b i)) ⟨by dsimp only; omega, by dsimp only; simp [hlast], by simpa using hKl, hset⟩ (by dsimp only; omega)
            dsimp only [cond] at nx
            refine go_frz [16, 17] [2, 4, 5, 6, 7, 9, 10, 11, 12, 89, 90, 97] rfl rfl rfl (by first | exact True.intro | (simp only [AllC, AllP, addN, Int.toNat_natCast, true_and, and_true, Option.getD, List.length_set, wrapU, pw1, pw7, pw8, pw16, pw23, pw32, pw52, Holds] <;> first | omega | ((repeat' apply And.intro) <;> first | omega | (intros; rfl))) | (simp [AllC, AllP, addN, cloL, clo, mrgL, mrg, wrapU, Holds] <;> omega)) (by first | exact True.intro | (simp only [AllC, AllP, addN, Int.toNat_natCast, true_and, and_true, Option.getD, List.length_set, wrapU, pw1, pw7, pw8, pw16, pw23, pw32, pw52, Holds] <;> first | omega | ((repeat' apply And.intro) <;> first | omega | (intros; rfl))) | (simp [AllC, AllP, addN, cloL, clo, mrgL, mrg, wrapU, Holds] <;> omega)) ?_
            refine bd W 0 9 [2, 4, 5, 6, 7, 9, 10, 11, 89, 90] rfl rfl rfl rfl rfl nx (hc := by simp only [AllC, addNz, iN, true_and, and_true]; omega)
        · exfalso
          have := hF.2 (by omega)
          cases this
      · have him : i = m := hF.1 rfl
        subst him
        dsimp only [cond]
        refine sp W 0 rfl rfl rfl (fun z1 => ?_) (fun z1 => ?_)
        · exfalso; omega
        · obtain rfl := relKs_of hKl hK
          have cC := sClipI_ok (relKs i l a b i) 0 (by omega)
          rw [relKs_len] at cC
          refine phg W 0 5 [3, 4] rfl rfl (fun PW => ?_)
          refine phl PW 0 [3] [] [] rfl rfl trivial ⟨?_, trivial⟩ (hp := by simp only [AllP, Holds, Option.getD, addNz, Int.toNat_natCast, true_and, and_true] <;> omega)
          refine nx_call PW rfl (AFun.sub (ρ := [8]) cC rfl ⟨trivial, trivial⟩ ⟨rfl, trivial⟩ (by decide)) ?_
          rintro _ _ ⟨_, _, ⟨rfl, rfl⟩, rfl, hq3⟩
          obtain rfl := Option.some.inj (show some _ = some _ from hq3)
          refine ⟨_, rfl, ?_⟩
          refine pho PW 0 4 [] [] rfl rfl trivial rfl rfl ?_
          refine phe PW 0 [] [] rfl trivial rfl ?_
          refine go_dead 0 rfl ?_
          refine go_dead 7 rfl ?_
          refine rg W 0 rfl (⟨_, rfl, rfl, rfl⟩)
    · refine nx_op PW 0 rfl rfl ?_
      refine phl PW 0 [9] [] [] rfl rfl trivial ⟨?_, trivial⟩ (hp := by simp only [AllP, Holds, Option.getD, addNz, Int.toNat_natCast, true_and, and_true] <;> omega)
      refine nx_call PW rfl (AFun.sub (ρ := []) (cloneR_ok rs (by omega) (by omega)) rfl trivial trivial (by decide)) ?_
      rintro _ _ ⟨_, _, ⟨rfl, rfl⟩, rfl, hq2⟩
      obtain rfl := Option.some.inj (show some _ = some _ from hq2)
      refine ⟨_, rfl, ?_⟩
      refine phe PW 0 [] [] rfl trivial rfl ?_
      refine atl W rfl ?_
      refine go_dead 2 rfl ?_
      refine go_dead 3 rfl ?_
      refine go_dead 4 rfl ?_
      refine go_frz [5, 7] [2, 4, 5, 6, 7, 9, 10, 11, 89, 90] rfl rfl rfl (by first | exact True.intro | (simp only [AllC, AllP, addN, Int.toNat_natCast, true_and, and_true, Option.getD, List.length_set, wrapU, pw1, pw7, pw8, pw16, pw23, pw32, pw52, Holds] <;> first | omega | ((repeat' apply And.intro) <;> first | omega | (intros; rfl))) | (simp [AllC, AllP, addN, cloL, clo, mrgL, mrg, wrapU, Holds] <;> omega)) (by first | exact True.intro | (simp only [AllC, AllP, addN, Int.toNat_natCast, true_and, and_true, Option.getD, List.length_set, wrapU, pw1, pw7, pw8, pw16, pw23, pw32, pw52, Holds] <;> first | omega | ((repeat' apply And.intro) <;> first | omega | (intros; rfl))) | (simp [AllC, AllP, addN, cloL, clo, mrgL, mrg, wrapU, Holds] <;> omega)) ?_
      refine lp W 0 (σ := Nat × Bool × List Int) (fun s => [(2, .ptr 0 0 0 0), (4, .ptr 1 0 0 0), (5, .int .i64 0), (6, .nils), (7, .bool false), (9, .int .i64 (relA l a b : Nat)), (10, .ptr 6 0 0 0), (11, .sl 8 0 0 m), (89, .int .i64 m), (90, .int .i64 s.1)]) (fun s => cond s.2.1 [.lst 0 [[.int .i64 m, .fz l.length (gnR l), .fz rs.length (grR rs)]], .lst 0 [[.int .i64 0, .nils, .nils]], .dead, .dead, .dead, .dead, .lst 0 [[.int .i64 m, .sl 16 0 0 (relN m l a b s.1).length, .sl 17 0 0 rs.length]], .dead, .ints 0 .i64 s.2.2, .dead, .dead, .dead, .dead, .dead, .dead, .dead, .tab 0 (relN m l a b s.1).length (gnR (relN m l a b s.1)), .tab 0 rs.length (grR rs)] [.lst 0 [[.int .i64 m, .fz l.length (gnR l), .fz rs.length (grR rs)]], .lst 0 [[.int .i64 0, .nils, .nils]], .dead, .dead, .dead, .dead, .lst 0 [[.int .i64 m, .fz (relN m l a b s.1).length (gnR (relN m l a b s.1)), .fz rs.length (grR rs)]], .dead, .ints 0 .i64 s.2.2]) (fun s => m - s.1) (fun s => s.1 ≤ m ∧ (s.2.1 = true ↔ s.1 = m) ∧ s.2.2.length = m ∧ ∀ j, j < s.1 → s.2.2.getD j 0 = relK m l a b j) (0, false, List.replicate (m : Int).toNat 0) [2, 4, 5, 6, 7, 9, 10, 11, 89, 90] rfl rfl rfl ⟨Nat.zero_le _, by simp; omega, by simp, fun j hj => by omega⟩ ?_
      rintro ⟨i, F, K⟩ ⟨hi, hF, hKl, hK⟩ ih
      dsimp only at hi hF hKl hK ih ⊢
      rcases F with _ | _
      · dsimp only [cond] at *
        refine sp W 0 rfl rfl rfl (fun z1 => ?_) (fun z1 => ?_)
        · have hi2 : i < m := by omega
          have iN : ((i : Nat) : Int).toNat = i := Int.toNat_natCast i
          obtain ⟨w1, w2, w3, w4⟩ := hall i
          have c : AFun Tryz.prog 26 [graphV m (relN m l a b i) rs, .int .i64 (relA l a b : Nat), .int .i64 (i : Nat)] [] (SnQ m rs (relN m l a b (i + 1)) (relK m l a b i)) := slopeOf_new m i (relN m l a b i) rs (relA l a b) w3 (hmono i hi) ⟨by omega, by omega⟩ w1.2 (by omega) w1.1 w4
          refine go_callS W 0 300 [] rfl (by first | exact True.intro | (simp only [AllC, AllP, addN, Int.toNat_natCast, true_and, and_true, Option.getD, List.length_set, wrapU, pw1, pw7, pw8, pw16, pw23, pw32, pw52, Holds] <;> first | omega | ((repeat' apply And.intro) <;> first | omega | (intros; rfl))) | (simp [AllC, AllP, addN, cloL, clo, mrgL, mrg, wrapU, Holds] <;> omega)) c rfl rfl trivial trivial rfl ?_
          rintro _ _ ⟨q, -⟩
          obtain ⟨rfl, rfl⟩ := q (hmono (i + 1) (by omega))
          refine ⟨_, _, rfl, rfl, ?_⟩
          have hset : ∀ j, j < i + 1 → (K.set (addN 0 ((i : Nat) : Int).toNat) (relK m l a b i)).getD j 0 = relK m l a b j := fun j hj => by
            rw [addNz, iN]
            by_cases hji : j = i
            · subst hji; rw [List.getD_eq_getElem?_getD, List.getElem?_set_self (by omega)]; rfl
            · rw [← hK j (by omega), List.getD_eq_getElem?_getD, List.getElem?_set_ne (fun k => hji k.symm), ← List.getD_eq_getElem?_getD]
          by_cases hlast : i + 1 = m
          · have nx := ih (i + 1, true, K.set (addN 0 ((i : Nat) : Int).toNat) (relK m l a b i)) ⟨by dsimp only; omega, by dsimp only; simp [hlast], by simpa using hKl, hset⟩ (by dsimp only; omega)
            dsimp only [cond] at nx
            refine bd W 0 18 [2, 4, 5, 6, 7, 9, 10, 11, 89, 90] rfl rfl rfl rfl rfl nx (hc := by simp only [AllC, addNz, iN, true_and, and_true]; omega)
          · have nx := ih (i + 1, false, K.set (addN 0 ((i : Nat) : Int).toNat) (relK m l a b i)) ⟨by dsimp only; omega, by dsimp only; simp [hlast], by simpa using hKl, hset⟩ (by dsimp only; omega)
            dsimp only [cond] at nx
            refine go_frz [16, 17] [2, 4, 5, 6, 7, 9, 10, 11, 12, 89, 90, 97] rfl rfl rfl (by first | exact True.intro | (simp only [AllC, AllP, addN, Int.toNat_natCast, true_and, and_true, Option.getD, List.length_set, wrapU, pw1, pw7, pw8, pw16, pw23, pw32, pw52, Holds] <;> first | omega | ((repeat' apply And.intro) <;> first | omega | (intros; rfl))) | (simp [AllC, AllP, addN, cloL, clo, mrgL, mrg, wrapU, Holds] <;> omega)) (by first | exact True.intro | (simp only [AllC, AllP, addN, Int.toNat_natCast, true_and, and_true, Option.getD, List.length_set, wrapU, pw1, pw7, pw8, pw16, pw23, pw32, pw52, Holds] <;> first | omega | ((repeat' apply And.intro) <;> first | omega | (intros; rfl))) | (simp [AllC, AllP, addN, cloL, clo, mrgL, mrg, wrapU, Holds] <;> omega)) ?_
            refine bd W 0 9 [2, 4, 5, 6, 7, 9, 10, 11, 89, 90] rfl rfl rfl rfl rfl nx (hc := by simp only [AllC, addNz, iN, true_and, and_true]; omega)
        · exfalso
          have := hF.2 (by omega)
          cases this
      · have him : i = m := hF.1 rfl
        subst him
        dsimp only [cond]
        refine sp W 0 rfl rfl rfl (fun z1 => ?_) (fun z1 => ?_)
        · exfalso; omega
        · obtain rfl := relKs_of hKl hK
          have cC := sClipI_ok (relKs i l a b i) 0 (by omega)
          rw [relKs_len] at cC
          refine phg W 0 5 [3, 4] rfl rfl (fun PW => ?_)
          refine phl PW 0 [3] [] [] rfl rfl trivial ⟨?_, trivial⟩ (hp := by simp only [AllP, Holds, Option.getD, addNz, Int.toNat_natCast, true_and, and_true] <;> omega)
          refine nx_call PW rfl (AFun.sub (ρ := [8]) cC rfl ⟨trivial, trivial⟩ ⟨rfl, trivial⟩ (by decide)) ?_
          rintro _ _ ⟨_, _, ⟨rfl, rfl⟩, rfl, hq3⟩
          obtain rfl := Option.some.inj (show some _ = some _ from hq3)
          refine ⟨_, rfl, ?_⟩
          refine pho PW 0 4 [] [] rfl rfl trivial rfl rfl ?_
          refine phe PW 0 [] [] rfl trivial rfl ?_
          refine go_dead 0 rfl ?_
          refine go_dead 6 rfl ?_
          refine rg W 0 rfl (⟨_, rfl, rfl, rfl⟩)
  · refine nx_op PW 0 rfl rfl ?_
    refine phl PW 0 [6] [] [] rfl rfl trivial ⟨?_, trivial⟩ (hp := by simp only [AllP, Holds, Option.getD, addNz, Int.toNat_natCast, true_and, and_true] <;> omega)
    refine nx_call PW rfl (AFun.sub (ρ := [4]) (cloneN_ok (relN m l a b 0) g1 (by omega) hN0) rfl ⟨fun _ _ => rfl, trivial⟩ ⟨rfl, trivial⟩ (by decide)) ?_
    rintro _ _ ⟨_, _, ⟨rfl, rfl⟩, rfl, hq1⟩
    obtain rfl := Option.some.inj (show some _ = some _ from hq1)
    refine ⟨_, rfl, ?_⟩
    refine phl PW 0 [9] [] [] rfl rfl trivial ⟨?_, trivial⟩ (hp := by simp only [AllP, Holds, Option.getD, addNz, Int.toNat_natCast, true_and, and_true] <;> omega)
    refine nx_call PW rfl (AFun.sub (ρ := []) (cloneR_ok rs (by omega) (by omega)) rfl trivial trivial (by decide)) ?_
    rintro _ _ ⟨_, _, ⟨rfl, rfl⟩, rfl, hq2⟩
    obtain rfl := Option.some.inj (show some _ = some _ from hq2)
    refine ⟨_, rfl, ?_⟩
    refine phe PW 0 [] [] rfl trivial rfl ?_
    refine atl W rfl ?_
    refine go_dead 2 rfl ?_
    refine go_dead 3 rfl ?_
    refine go_dead 4 rfl ?_
    refine go_frz [6, 7] [2, 4, 5, 6, 7, 9, 10, 11, 89, 90] rfl rfl rfl (by first | exact True.intro | (simp only [AllC, AllP, addN, Int.toNat_natCast, true_and, and_true, Option.getD, List.length_set, wrapU, pw1, pw7, pw8, pw16, pw23, pw32, pw52, Holds] <;> first | omega | ((repeat' apply And.intro) <;> first | omega | (intros; rfl))) | (simp [AllC, AllP, addN, cloL, clo, mrgL, mrg, wrapU, Holds] <;> omega)) (by first | exact True.intro | (simp only [AllC, AllP, addN, Int.toNat_natCast, true_and, and_true, Option.getD, List.length_set, wrapU, pw1, pw7, pw8, pw16, pw23, pw32, pw52, Holds] <;> first | omega | ((repeat' apply And.intro) <;> first | omega | (intros; rfl))) | (simp [AllC, AllP, addN, cloL, clo, mrgL, mrg, wrapU, Holds] <;> omega)) ?_
    refine lp W 0 (σ := Nat × Bool × List Int) (fun s => [(2, .ptr 0 0 0 0), (4, .ptr 1 0 0 0), (5, .int .i64 0), (6, .nils), (7, .bool false), (9, .int .i64 (relA l a b : Nat)), (10, .ptr 5 0 0 0), (11, .sl 8 0 0 m), (89, .int .i64 m), (90, .int .i64 s.1)]) (fun s => cond s.2.1 [.lst 0 [[.int .i64 m, .fz l.length (gnR l), .fz rs.length (grR rs)]], .lst 0 [[.int .i64 0, .nils, .nils]], .dead, .dead, .dead, .lst 0 [[.int .i64 m, .sl 16 0 0 (relN m l a b s.1).length, .sl 17 0 0 rs.length]], .dead, .dead, .ints 0 .i64 s.2.2, .dead, .dead, .dead, .dead, .dead, .dead, .dead, .tab 0 (relN m l a b s.1).length (gnR (relN m l a b s.1)), .tab 0 rs.length (grR rs)] [.lst 0 [[.int .i64 m, .fz l.length (gnR l), .fz rs.length (grR rs)]], .lst 0 [[.int .i64 0, .nils, .nils]], .dead, .dead, .dead, .lst 0 [[.int .i64 m, .fz (relN m l a b s.1).length (gnR (relN m l a b s.1)), .fz rs.length (grR rs)]], .dead, .dead, .ints 0 .i64 s.2.2]) (fun s => m - s.1) (fun s => s.1 ≤ m ∧ (s.2.1 = true ↔ s.1 = m) ∧ s.2.2.length = m ∧ ∀ j, j < s.1 → s.2.2.getD j 0 = relK m l a b j) (0, false, List.replicate (m : Int).toNat 0) [2, 4, 5, 6, 7, 9, 10, 11, 89, 90] rfl rfl rfl ⟨Nat.zero_le _, by simp; omega, by simp, fun j hj => by omega⟩ ?_
    rintro ⟨i, F, K⟩ ⟨hi, hF, hKl, hK⟩ ih
    dsimp only at hi hF hKl hK ih ⊢
    rcases F with _ | _
    · dsimp only [cond] at *
      refine sp W 0 rfl rfl rfl (fun z1 => ?_) (fun z1 => ?_)
      · have hi2 : i < m := by omega
        have iN : ((i : Nat) : Int).toNat = i := Int.toNat_natCast i
        obtain ⟨w1, w2, w3, w4⟩ := hall i
        have c : AFun Tryz.prog 26 [graphV m (relN m l a b i) rs, .int .i64 (relA l a b : Nat), .int .i64 (i : Nat)] [] (SnQ m rs (relN m l a b (i + 1)) (relK m l a b i)) := slopeOf_new m i (relN m l a b i) rs (relA l a b) w3 (hmono i hi) ⟨by omega, by omega⟩ w1.2 (by omega) w1.1 w4
        refine go_callS W 0 300 [] rfl (by first | exact True.intro | (simp only [AllC, AllP, addN, Int.toNat_natCast, true_and, and_true, Option.getD, List.length_set, wrapU, pw1, pw7, pw8, pw16, pw23, pw32, pw52, Holds] <;> first | omega | ((repeat' apply And.intro) <;> first | omega | (intros; rfl))) | (simp [AllC, AllP, addN, cloL, clo, mrgL, mrg, wrapU, Holds] <;> omega)) c rfl rfl trivial trivial rfl ?_
        rintro _ _ ⟨q, -⟩
        obtain ⟨rfl, rfl⟩ := q (hmono (i + 1) (by omega))
        refine ⟨_, _, rfl, rfl, ?_⟩
        have hset : ∀ j, j < i + 1 → (K.set (addN 0 ((i : Nat) : Int).toNat) (relK m l a b i)).getD j 0 = relK m l a b j := fun j hj => by
          rw [addNz, iN]
          by_cases hji : j = i
          · subst hji; rw [List.getD_eq_getElem?_getD, List.getElem?_set_self (by omega)]; rfl
          · rw [← hK j (by omega), List.getD_eq_getElem?_getD, List.getElem?_set_ne (fun k => hji k.symm), ← List.getD_eq_getElem?_getD]
        by_cases hlast : i + 1 = m
        · have nx := ih (i + 1, true, K.set (addN 0 ((i : Nat) : Int).toNat) (relK m l a b i)) ⟨by dsimp only; omega, by dsimp only; simp [hlast], by simpa using hKl, hset⟩ (by dsimp only; omega)
          dsimp only [cond] at nx
          refine bd W 0 18 [2, 4, 5, 6, 7, 9, 10, 11, 89, 90] rfl rfl rfl rfl rfl nx (hc := by simp only [AllC, addNz, iN, true_and, and_true]; omega)
        · have nx := ih (i + 1, false, K.set (addN 0 ((i : Nat) : Int).toNat) (relK m l a b i)) ⟨by dsimp only; omega, by dsimp only; simp [hlast], by simpa using hKl, hset⟩ (by dsimp only; omega)
          dsimp only [cond] at nx
          refine go_frz [16, 17] [2, 4, 5, 6, 7, 9, 10, 11, 12, 89, 90, 97] rfl rfl rfl (by first | exact True.intro | (simp only [AllC, AllP, addN, Int.toNat_natCast, true_and, and_true, Option.getD, List.length_set, wrapU, pw1, pw7, pw8, pw16, pw23, pw32, pw52, Holds] <;> first | omega | ((repeat' apply And.intro) <;> first | omega | (intros; rfl))) | (simp [AllC, AllP, addN, cloL, clo, mrgL, mrg, wrapU, Holds] <;> omega)) (by first | exact True.intro | (simp only [AllC, AllP, addN, Int.toNat_natCast, true_and, and_true, Option.getD, List.length_set, wrapU, pw1, pw7, pw8, pw16, pw23, pw32, pw52, Holds] <;> first | omega | ((repeat' apply And.intro) <;> first | omega | (intros; rfl))) | (simp [AllC, AllP, addN, cloL, clo, mrgL, mrg, wrapU, Holds] <;> omega)) ?_
          refine bd W 0 9 [2, 4, 5, 6, 7, 9, 10, 11, 89, 90] rfl rfl rfl rfl rfl nx (hc := by simp only [AllC, addNz, iN, true_and, and_true]; omega)
      · exfalso
        have := hF.2 (by omega)
        cases this
    · have him : i = m := hF.1 rfl
      subst him
      dsimp only [cond]
      refine sp W 0 rfl rfl rfl (fun z1 => ?_) (fun z1 => ?_)
      · exfalso; omega
      · obtain rfl := relKs_of hKl hK
        have cC := sClipI_ok (relKs i l a b i) 0 (by omega)
        rw [relKs_len] at cC
        refine phg W 0 5 [3, 4] rfl rfl (fun PW => ?_)
        refine phl PW 0 [3] [] [] rfl rfl trivial ⟨?_, trivial⟩ (hp := by simp only [AllP, Holds, Option.getD, addNz, Int.toNat_natCast, true_and, and_true] <;> omega)
        refine nx_call PW rfl (AFun.sub (ρ := [8]) cC rfl ⟨trivial, trivial⟩ ⟨rfl, trivial⟩ (by decide)) ?_
        rintro _ _ ⟨_, _, ⟨rfl, rfl⟩, rfl, hq3⟩
        obtain rfl := Option.some.inj (show some _ = some _ from hq3)
        refine ⟨_, rfl, ?_⟩
        refine pho PW 0 4 [] [] rfl rfl trivial rfl rfl ?_
        refine phe PW 0 [] [] rfl trivial rfl ?_
        refine go_dead 0 rfl ?_
        refine go_dead 5 rfl ?_
        refine rg W 0 rfl (⟨_, rfl, rfl, rfl⟩)
end Pf
/- Slopes of a relation: impl, nothing -/
namespace Pf
open Go Go.Proofs
theorem getD_memR {rs : List Gr} {n : Nat} (h : n < rs.length) : rs.getD n r0 ∈ rs := by
  rw [List.getD_eq_getElem?_getD, List.getElem?_eq_getElem h]; exact List.getElem_mem h
theorem implRel_no (v : Int) (l : List Gn) (rs : List Gr) (r : Int) (hl : l.length ≤ 1048576) (hr : rs.length ≤ 1048576) (hx : gtxtOk l) (hr64 : -9223372036854775808 ≤ r ∧ r ≤ 9223372036854775807) (h : ¬ relOk v l rs r) : AFunP Tryz.prog 13 [graphV v l rs, .int .i64 r] (· = .tup [.agg [.int .i64 0, .nils, .nils], .int .i64 0, .nils, .bool false]) := by
  have k1 := implGraphOk_ok v l rs hl hr hx
  have k2 := in_ok r 0 ((rs.length : Int) - 1)
  refine afun_of Tryz.func13 Tryz.call13 rfl Tryz.ntmps13 rfl ?_
  have W : Walk Tryz.prog TT 13 _ := Walk.of TT_ok Tryz.func13 Tryz.results13
  by_cases h1 : ¬ graphP v l rs
  · refine dre W 0 34 [(19, true), (28, true), (39, true)] [.pr (graphP v l rs)] rfl rfl rfl ⟨k1.at rfl _, trivial⟩ rfl ?_ (hp := by simp only [AllP, Holds, Option.getD, true_and, and_true, Classical.not_not]; simp only [h1, not_true, not_false_iff, true_and, and_true] <;> omega)
    refine rp W 0 rfl rfl rfl (.refl)
  have h1 := Classical.not_not.1 h1
  by_cases h23 : ¬ (0 ≤ r ∧ r ≤ (rs.length : Int) - 1)
  · refine dre W 0 34 [(19, false), (28, true), (39, true)] [.pr (graphP v l rs), .pr (0 ≤ r ∧ r ≤ (rs.length : Int) - 1)] rfl rfl rfl ⟨k1.at rfl _, k2.at rfl _, trivial⟩ rfl ?_ (hp := by simp only [AllP, Holds, Option.getD, true_and, and_true, Classical.not_not]; simp only [h1, h23, not_true, not_false_iff, true_and, and_true] <;> omega)
    refine rp W 0 rfl rfl rfl (.refl)
  have h23 := Classical.not_not.1 h23
  have hrel : relP l.length (rs.getD r.toNat r0) := h1.2.2 _ (getD_memR (by omega))
  obtain ⟨a, eL⟩ : ∃ a : Nat, (rs.getD r.toNat r0).l = a := ⟨(rs.getD r.toNat r0).l.toNat, by have := hrel.2.1; omega⟩
  obtain ⟨b, eR⟩ : ∃ b : Nat, (rs.getD r.toNat r0).r = b := ⟨(rs.getD r.toNat r0).r.toNat, by have := hrel.2.2; omega⟩
  have hab : a < l.length ∧ b < l.length := by have := hrel.2; omega
  have hlen := h1.1
  have k3 : AFunP Tryz.prog 36 [graphV v l rs, .int .i64 (rs.getD r.toNat r0).l] (· = .pr (smoothP v l (rs.getD r.toNat r0).l.toNat)) := by rw [eL]; exact smooth_ok v l rs a hab.1 hl hx hlen.1.1 h1.2.1
  have k4 : AFunP Tryz.prog 36 [graphV v l rs, .int .i64 (rs.getD r.toNat r0).r] (· = .pr (smoothP v l (rs.getD r.toNat r0).r.toNat)) := by rw [eR]; exact smooth_ok v l rs b hab.2 hl hx hlen.1.1 h1.2.1
  by_cases s4 : ¬ smoothP v l (rs.getD r.toNat r0).l.toNat
  · refine dre W 0 34 [(19, false), (28, false), (39, true)] [.pr (graphP v l rs), .pr (0 ≤ r ∧ r ≤ (rs.length : Int) - 1), .pr (smoothP v l (rs.getD r.toNat r0).l.toNat)] rfl rfl rfl ⟨k1.at rfl _, k2.at rfl _, k3.at rfl _, trivial⟩ rfl ?_ (hp := by simp only [AllP, Holds, Option.getD, true_and, and_true, Classical.not_not]; simp only [h1, h23, s4, not_true, not_false_iff, true_and, and_true] <;> omega)
    refine rp W 0 rfl rfl rfl (.refl)
  have s4 := Classical.not_not.1 s4
  refine dre W 0 34 [(19, false), (28, false), (39, false)] [.pr (graphP v l rs), .pr (0 ≤ r ∧ r ≤ (rs.length : Int) - 1), .pr (smoothP v l (rs.getD r.toNat r0).l.toNat), .pr (smoothP v l (rs.getD r.toNat r0).r.toNat)] rfl rfl rfl ⟨k1.at rfl _, k2.at rfl _, k3.at rfl _, k4.at rfl _, trivial⟩ rfl ?_ (hp := by simp only [AllP, Holds, Option.getD, true_and, and_true, Classical.not_not]; simp only [h1, h23, s4, not_true, not_false_iff, true_and, and_true] <;> omega)
  refine sp W 0 rfl rfl rfl (fun h6 => ?_) (fun h6 => ?_)
  · refine rp W 0 rfl rfl rfl (.refl)
  have s5 := Classical.not_not.1 h6
  have h4 : slopeP v l rs (rs.getD r.toNat r0).l := ⟨h1, hrel.2.1, s4⟩
  have h5 : slopeP v l rs (rs.getD r.toNat r0).r := ⟨h1, hrel.2.2, s5⟩
  obtain ⟨a', b', eL', eR', hp⟩ := RelP.of hx h4 h5
  obtain rfl : a = a' := by omega
  obtain rfl : b = b' := by omega
  obtain ⟨m, rfl⟩ : ∃ m : Nat, v = m := ⟨v.toNat, by omega⟩
  have hN : 120 < (relN m l a b m).length := by
    rcases Nat.lt_or_ge 120 (relN m l a b m).length with hb | hb
    · exact hb
    · exact absurd ⟨⟨h4, h5, h23.1, by omega⟩, by rw [eL, eR, Int.toNat_natCast]; exact hb⟩ h
  have hall := hp.all
  have hd := graph_nd hp.hn.1
  have hN0 : 0 < (relN m l a b 0).length := by have := (hall 0).2.1; omega
  refine go_callS W 0 300 [] rfl (by first | exact True.intro | (simp only [AllC, AllP, addN, Int.toNat_natCast, true_and, and_true, Option.getD, List.length_set, wrapU, pw1, pw7, pw8, pw16, pw23, pw32, pw52, Holds] <;> first | omega | ((repeat' apply And.intro) <;> first | omega | (intros; rfl))) | (simp [AllC, AllP, addN, cloL, clo, mrgL, mrg, wrapU, Holds] <;> omega)) (layerOf_ok l (by omega) hd) rfl rfl trivial trivial rfl ?_
  rintro _ _ ⟨g, rfl, rfl⟩
  refine ⟨_, _, rfl, rfl, ?_⟩
  refine dre W 0 14 [] [] rfl rfl rfl trivial rfl ?_ (hp := by simp only [AllP, Holds, Option.getD, true_and, and_true]; omega)
  rcases Nat.lt_or_ge 120 (relN m l a b 0).length with h0 | h0
  · have cL : AFun Tryz.prog 38 [.ptr 0 0 0 0, .agg [.int .i64 5, .int .i64 (rs.getD r.toNat r0).l, .int .i64 (rs.getD r.toNat r0).r, .int .i64 0, .str []]] (LayS l false g) (fun u H => ∃ g' k N, u = .int .i64 k ∧ H = LayS N true g') := by
      rw [eL, eR]
      have q := (lock (.put (subG a b) .ret) l (by omega)).2 h0
      exact (lay_ok (subG a b) l false g (by omega)).mono fun u H ⟨g', e1, e2⟩ => ⟨g', _, (runI (.put (subG a b) .ret) l false).2.1, e1, e2.trans (by rw [q])⟩
    unfold LayS at cL
    refine go_callS W 0 300 [3, 4, 2] rfl (by first | exact True.intro | (simp only [AllC, AllP, addN, Int.toNat_natCast, true_and, and_true, Option.getD, List.length_set, wrapU, pw1, pw7, pw8, pw16, pw23, pw32, pw52, Holds] <;> first | omega | ((repeat' apply And.intro) <;> first | omega | (intros; rfl))) | (simp [AllC, AllP, addN, cloL, clo, mrgL, mrg, wrapU, Holds] <;> omega)) cL rfl rfl ⟨rfl, fun _ _ => rfl, trivial, trivial⟩ ⟨rfl, rfl, rfl, trivial⟩ rfl ?_
    rintro _ _ ⟨g1, k0, N0, rfl, rfl⟩
    refine ⟨_, _, rfl, rfl, ?_⟩
    refine rp W 0 rfl rfl rfl (.refl)
  have cL : AFun Tryz.prog 38 [.ptr 0 0 0 0, .agg [.int .i64 5, .int .i64 (rs.getD r.toNat r0).l, .int .i64 (rs.getD r.toNat r0).r, .int .i64 0, .str []]] (LayS l false g) (fun u H => ∃ g', u = .int .i64 (relA l a b : Nat) ∧ H = LayS (relN m l a b 0) false g') := by
    rw [eL, eR]
    have q := (lock (.put (subG a b) .ret) l (by omega)).1 h0
    have c := lay_ok (subG a b) l false g (by omega)
    rw [q] at c
    exact c.mono fun u H ⟨g', e1, e2⟩ => ⟨g', e1.trans (by rw [← relA_cast]), e2⟩
  unfold LayS at cL
  refine go_callS W 0 300 [3, 4, 2] rfl (by first | exact True.intro | (simp only [AllC, AllP, addN, Int.toNat_natCast, true_and, and_true, Option.getD, List.length_set, wrapU, pw1, pw7, pw8, pw16, pw23, pw32, pw52, Holds] <;> first | omega | ((repeat' apply And.intro) <;> first | omega | (intros; rfl))) | (simp [AllC, AllP, addN, cloL, clo, mrgL, mrg, wrapU, Holds] <;> omega)) cL rfl rfl ⟨rfl, fun _ _ => rfl, trivial, trivial⟩ ⟨rfl, rfl, rfl, trivial⟩ rfl ?_
  rintro _ _ ⟨g1, rfl, rfl⟩
  refine ⟨_, _, rfl, rfl, ?_⟩
  refine phg W 0 12 [6, 9, 11] rfl rfl (fun PW => ?_)
  refine phl PW 0 [6, 11] [] [] rfl rfl trivial ⟨?_, ?_, trivial⟩ (hp := by simp only [AllP, Holds, Option.getD, addNz, Int.toNat_natCast, true_and, and_true] <;> omega)
  · refine nx_call PW rfl (AFun.sub (ρ := [4]) (cloneN_ok (relN m l a b 0) g1 (by omega) hN0) rfl ⟨fun _ _ => rfl, trivial⟩ ⟨rfl, trivial⟩ (by decide)) ?_
    rintro _ _ ⟨_, _, ⟨rfl, rfl⟩, rfl, hq1⟩
    obtain rfl := Option.some.inj (show some _ = some _ from hq1)
    refine ⟨_, rfl, ?_⟩
    refine phl PW 0 [9, 11] [] [] rfl rfl trivial ⟨?_, ?_, trivial⟩ (hp := by simp only [AllP, Holds, Option.getD, addNz, Int.toNat_natCast, true_and, and_true] <;> omega)
    · refine nx_call PW rfl (AFun.sub (ρ := []) (cloneR_ok rs (by omega) (by omega)) rfl trivial trivial (by decide)) ?_
      rintro _ _ ⟨_, _, ⟨rfl, rfl⟩, rfl, hq2⟩
      obtain rfl := Option.some.inj (show some _ = some _ from hq2)
      refine ⟨_, rfl, ?_⟩
      refine pho PW 0 11 [] [] rfl rfl trivial rfl rfl ?_
      refine phe PW 0 [] [] rfl trivial rfl ?_
      refine atl W rfl ?_
      refine go_dead 2 rfl ?_
      refine go_dead 3 rfl ?_
      refine go_dead 4 rfl ?_
      refine go_frz [5, 6] [2, 4, 5, 6, 7, 9, 10, 11, 89, 90] rfl rfl rfl (by first | exact True.intro | (simp only [AllC, AllP, addN, Int.toNat_natCast, true_and, and_true, Option.getD, List.length_set, wrapU, pw1, pw7, pw8, pw16, pw23, pw32, pw52, Holds] <;> first | omega | ((repeat' apply And.intro) <;> first | omega | (intros; rfl))) | (simp [AllC, AllP, addN, cloL, clo, mrgL, mrg, wrapU, Holds] <;> omega)) (by first | exact True.intro | (simp only [AllC, AllP, addN, Int.toNat_natCast, true_and, and_true, Option.getD, List.length_set, wrapU, pw1, pw7, pw8, pw16, pw23, pw32, pw52, Holds] <;> first | omega | ((repeat' apply And.intro) <;> first | omega | (intros; rfl))) | (simp [AllC, AllP, addN, cloL, clo, mrgL, mrg, wrapU, Holds] <;> omega)) ?_
      refine lp W 0 (σ := Nat × List Int) (fun s => [(2, .ptr 0 0 0 0), (4, .ptr 1 0 0 0), (5, .int .i64 0), (6, .nils), (7, .bool false), (9, .int .i64 (relA l a b : Nat)), (10, .ptr 7 0 0 0), (11, .sl 8 0 0 m), (89, .int .i64 m), (90, .int .i64 s.1)]) (fun s => [.lst 0 [[.int .i64 m, .fz l.length (gnR l), .fz rs.length (grR rs)]], .lst 0 [[.int .i64 0, .nils, .nils]], .dead, .dead, .dead, .dead, .dead, .lst 0 [[.int .i64 m, .fz (relN m l a b s.1).length (gnR (relN m l a b s.1)), .fz rs.length (grR rs)]], .ints 0 .i64 s.2]) (fun s => m - s.1) (fun s => s.1 ≤ m ∧ (relN m l a b s.1).length ≤ 120 ∧ s.2.length = m) (0, List.replicate (m : Int).toNat 0) [2, 4, 5, 6, 7, 9, 10, 11, 89, 90] rfl rfl rfl ⟨Nat.zero_le _, h0, by simp⟩ ?_
      rintro ⟨i, K⟩ ⟨hi, hiN, hKl⟩ ih
      dsimp only at hi hiN hKl ih ⊢
      refine sp W 0 rfl rfl rfl (fun z1 => ?_) (fun z1 => ?_)
      · have hi2 : i < m := by omega
        have iN : ((i : Nat) : Int).toNat = i := Int.toNat_natCast i
        obtain ⟨w1, w2, w3, w4⟩ := hall i
        have c : AFun Tryz.prog 26 [graphV m (relN m l a b i) rs, .int .i64 (relA l a b : Nat), .int .i64 (i : Nat)] [] (SnQ m rs (relN m l a b (i + 1)) (relK m l a b i)) := slopeOf_new m i (relN m l a b i) rs (relA l a b) w3 hiN ⟨by omega, by omega⟩ w1.2 (by omega) w1.1 w4
        refine go_callS W 0 300 [] rfl (by first | exact True.intro | (simp only [AllC, AllP, addN, Int.toNat_natCast, true_and, and_true, Option.getD, List.length_set, wrapU, pw1, pw7, pw8, pw16, pw23, pw32, pw52, Holds] <;> first | omega | ((repeat' apply And.intro) <;> first | omega | (intros; rfl))) | (simp [AllC, AllP, addN, cloL, clo, mrgL, mrg, wrapU, Holds] <;> omega)) c rfl rfl trivial trivial rfl ?_
        rintro _ _ ⟨q, q2⟩
        rcases Nat.lt_or_ge 120 (relN m l a b (i + 1)).length with hb | hb
        · obtain ⟨rfl, rfl⟩ := q2 hb
          refine ⟨_, _, rfl, rfl, ?_⟩
          refine rp W 0 rfl rfl rfl (.refl)
        · obtain ⟨rfl, rfl⟩ := q hb
          refine ⟨_, _, rfl, rfl, ?_⟩
          have nx := ih (i + 1, K.set (addN 0 ((i : Nat) : Int).toNat) (relK m l a b i)) ⟨by dsimp only; omega, hb, by simpa using hKl⟩ (by dsimp only; omega)
          dsimp only at nx
          refine go_frz [16, 17] [2, 4, 5, 6, 7, 9, 10, 11, 12, 89, 90, 97] rfl rfl rfl (by first | exact True.intro | (simp only [AllC, AllP, addN, Int.toNat_natCast, true_and, and_true, Option.getD, List.length_set, wrapU, pw1, pw7, pw8, pw16, pw23, pw32, pw52, Holds] <;> first | omega | ((repeat' apply And.intro) <;> first | omega | (intros; rfl))) | (simp [AllC, AllP, addN, cloL, clo, mrgL, mrg, wrapU, Holds] <;> omega)) (by first | exact True.intro | (simp only [AllC, AllP, addN, Int.toNat_natCast, true_and, and_true, Option.getD, List.length_set, wrapU, pw1, pw7, pw8, pw16, pw23, pw32, pw52, Holds] <;> first | omega | ((repeat' apply And.intro) <;> first | omega | (intros; rfl))) | (simp [AllC, AllP, addN, cloL, clo, mrgL, mrg, wrapU, Holds] <;> omega)) ?_
          refine bd W 0 9 [2, 4, 5, 6, 7, 9, 10, 11, 89, 90] rfl rfl rfl rfl rfl nx (hc := by simp only [AllC, addNz, iN, true_and, and_true]; omega)
      · exfalso
        have him : i = m := by omega
        subst him
        omega
    · refine nx_op PW 0 rfl rfl ?_
      refine phl PW 0 [9] [] [] rfl rfl trivial ⟨?_, trivial⟩ (hp := by simp only [AllP, Holds, Option.getD, addNz, Int.toNat_natCast, true_and, and_true] <;> omega)
      refine nx_call PW rfl (AFun.sub (ρ := []) (cloneR_ok rs (by omega) (by omega)) rfl trivial trivial (by decide)) ?_
      rintro _ _ ⟨_, _, ⟨rfl, rfl⟩, rfl, hq2⟩
      obtain rfl := Option.some.inj (show some _ = some _ from hq2)
      refine ⟨_, rfl, ?_⟩
      refine phe PW 0 [] [] rfl trivial rfl ?_
      refine atl W rfl ?_
      refine go_dead 2 rfl ?_
      refine go_dead 3 rfl ?_
      refine go_dead 4 rfl ?_
      refine go_frz [5, 7] [2, 4, 5, 6, 7, 9, 10, 11, 89, 90] rfl rfl rfl (by first | exact True.intro | (simp only [AllC, AllP, addN, Int.toNat_natCast, true_and, and_true, Option.getD, List.length_set, wrapU, pw1, pw7, pw8, pw16, pw23, pw32, pw52, Holds] <;> first | omega | ((repeat' apply And.intro) <;> first | omega | (intros; rfl))) | (simp [AllC, AllP, addN, cloL, clo, mrgL, mrg, wrapU, Holds] <;> omega)) (by first | exact True.intro | (simp only [AllC, AllP, addN, Int.toNat_natCast, true_and, and_true, Option.getD, List.length_set, wrapU, pw1, pw7, pw8, pw16, pw23, pw32, pw52, Holds] <;> first | omega | ((repeat' apply And.intro) <;> first | omega | (intros; rfl))) | (simp [AllC, AllP, addN, cloL, clo, mrgL, mrg, wrapU, Holds] <;> omega)) ?_
      refine lp W 0 (σ := Nat × List Int) (fun s => [(2, .ptr 0 0 0 0), (4, .ptr 1 0 0 0), (5, .int .i64 0), (6, .nils), (7, .bool false), (9, .int .i64 (relA l a b : Nat)), (10, .ptr 6 0 0 0), (11, .sl 8 0 0 m), (89, .int .i64 m), (90, .int .i64 s.1)]) (fun s => [.lst 0 [[.int .i64 m, .fz l.length (gnR l), .fz rs.length (grR rs)]], .lst 0 [[.int .i64 0, .nils, .nils]], .dead, .dead, .dead, .dead, .lst 0 [[.int .i64 m, .fz (relN m l a b s.1).length (gnR (relN m l a b s.1)), .fz rs.length (grR rs)]], .dead, .ints 0 .i64 s.2]) (fun s => m - s.1) (fun s => s.1 ≤ m ∧ (relN m l a b s.1).length ≤ 120 ∧ s.2.length = m) (0, List.replicate (m : Int).toNat 0) [2, 4, 5, 6, 7, 9, 10, 11, 89, 90] rfl rfl rfl ⟨Nat.zero_le _, h0, by simp⟩ ?_
      rintro ⟨i, K⟩ ⟨hi, hiN, hKl⟩ ih
      dsimp only at hi hiN hKl ih ⊢
      refine sp W 0 rfl rfl rfl (fun z1 => ?_) (fun z1 => ?_)
      · have hi2 : i < m := by omega
        have iN : ((i : Nat) : Int).toNat = i := Int.toNat_natCast i
        obtain ⟨w1, w2, w3, w4⟩ := hall i
        have c : AFun Tryz.prog 26 [graphV m (relN m l a b i) rs, .int .i64 (relA l a b : Nat), .int .i64 (i : Nat)] [] (SnQ m rs (relN m l a b (i + 1)) (relK m l a b i)) := slopeOf_new m i (relN m l a b i) rs (relA l a b) w3 hiN ⟨by omega, by omega⟩ w1.2 (by omega) w1.1 w4
        refine go_callS W 0 300 [] rfl (by first | exact True.intro | (simp only [AllC, AllP, addN, Int.toNat_natCast, true_and, and_true, Option.getD, List.length_set, wrapU, pw1, pw7, pw8, pw16, pw23, pw32, pw52, Holds] <;> first | omega | ((repeat' apply And.intro) <;> first | omega | (intros; rfl))) | (simp [AllC, AllP, addN, cloL, clo, mrgL, mrg, wrapU, Holds] <;> omega)) c rfl rfl trivial trivial rfl ?_
        rintro _ _ ⟨q, q2⟩
        rcases Nat.lt_or_ge 120 (relN m l a b (i + 1)).length with hb | hb
        · obtain ⟨rfl, rfl⟩ := q2 hb
          refine ⟨_, _, rfl, rfl, ?_⟩
          refine rp W 0 rfl rfl rfl (.refl)
        · obtain ⟨rfl, rfl⟩ := q hb
          refine ⟨_, _, rfl, rfl, ?_⟩
          have nx := ih (i + 1, K.set (addN 0 ((i : Nat) : Int).toNat) (relK m l a b i)) ⟨by dsimp only; omega, hb, by simpa using hKl⟩ (by dsimp only; omega)
          dsimp only at nx
          refine go_frz [16, 17] [2, 4, 5, 6, 7, 9, 10, 11, 12, 89, 90, 97] rfl rfl rfl (by first | exact True.intro | (simp only [AllC, AllP, addN, Int.toNat_natCast, true_and, and_true, Option.getD, List.length_set, wrapU, pw1, pw7, pw8, pw16, pw23, pw32, pw52, Holds] <;> first | omega | ((repeat' apply And.intro) <;> first | omega | (intros; rfl))) | (simp [AllC, AllP, addN, cloL, clo, mrgL, mrg, wrapU, Holds] <;> omega)) (by first | exact True.intro | (simp only [AllC, AllP, addN, Int.toNat_natCast, true_and, and_true, Option.getD, List.length_set, wrapU, pw1, pw7, pw8, pw16, pw23, pw32, pw52, Holds] <;> first | omega | ((repeat' apply And.intro) <;> first | omega | (intros; rfl))) | (simp [AllC, AllP, addN, cloL, clo, mrgL, mrg, wrapU, Holds] <;> omega)) ?_
          refine bd W 0 9 [2, 4, 5, 6, 7, 9, 10, 11, 89, 90] rfl rfl rfl rfl rfl nx (hc := by simp only [AllC, addNz, iN, true_and, and_true]; omega)
      · exfalso
        have him : i = m := by omega
        subst him
        omega
  · refine nx_op PW 0 rfl rfl ?_
    refine phl PW 0 [6] [] [] rfl rfl trivial ⟨?_, trivial⟩ (hp := by simp only [AllP, Holds, Option.getD, addNz, Int.toNat_natCast, true_and, and_true] <;> omega)
    refine nx_call PW rfl (AFun.sub (ρ := [4]) (cloneN_ok (relN m l a b 0) g1 (by omega) hN0) rfl ⟨fun _ _ => rfl, trivial⟩ ⟨rfl, trivial⟩ (by decide)) ?_
    rintro _ _ ⟨_, _, ⟨rfl, rfl⟩, rfl, hq1⟩
    obtain rfl := Option.some.inj (show some _ = some _ from hq1)
    refine ⟨_, rfl, ?_⟩
    refine phl PW 0 [9] [] [] rfl rfl trivial ⟨?_, trivial⟩ (hp := by simp only [AllP, Holds, Option.getD, addNz, Int.toNat_natCast, true_and, and_true] <;> omega)
    refine nx_call PW rfl (AFun.sub (ρ := []) (cloneR_ok rs (by omega) (by omega)) rfl trivial trivial (by decide)) ?_
    rintro _ _ ⟨_, _, ⟨rfl, rfl⟩, rfl, hq2⟩
    obtain rfl := Option.some.inj (show some _ = some _ from hq2)
    refine ⟨_, rfl, ?_⟩
    refine phe PW 0 [] [] rfl trivial rfl ?_
    refine atl W rfl ?_
    refine go_dead 2 rfl ?_
    refine go_dead 3 rfl ?_
    refine go_dead 4 rfl ?_
    refine go_frz [6, 7] [2, 4, 5, 6, 7, 9, 10, 11, 89, 90] rfl rfl rfl (by first | exact True.intro | (simp only [AllC, AllP, addN, Int.toNat_natCast, true_and, and_true, Option.getD, List.length_set, wrapU, pw1, pw7, pw8, pw16, pw23, pw32, pw52, Holds] <;> first | omega | ((repeat' apply And.intro) <;> first | omega | (intros; rfl))) | (simp [AllC, AllP, addN, cloL, clo, mrgL, mrg, wrapU, Holds] <;> omega)) (by first | exact True.intro | (simp only [AllC, AllP, addN, Int.toNat_natCast, true_and, and_true, Option.getD, List.length_set, wrapU, pw1, pw7, pw8, pw16, pw23, pw32, pw52, Holds] <;> first | omega | ((repeat' apply And.intro) <;> first | omega | (intros; rfl))) | (simp [AllC, AllP, addN, cloL, clo, mrgL, mrg, wrapU, Holds] <;> omega)) ?_
    refine lp W 0 (σ := Nat × List Int) (fun s => [(2, .ptr 0 0 0 0), (4, .ptr 1 0 0 0), (5, .int .i64 0), (6, .nils), (7, .bool false), (9, .int .i64 (relA l a b : Nat)), (10, .ptr 5 0 0 0), (11, .sl 8 0 0 m), (89, .int .i64 m), (90, .int .i64 s.1)]) (fun s => [.lst 0 [[.int .i64 m, .fz l.length (gnR l), .fz rs.length (grR rs)]], .lst 0 [[.int .i64 0, .nils, .nils]], .dead, .dead, .dead, .lst 0 [[.int .i64 m, .fz (relN m l a b s.1).length (gnR (relN m l a b s.1)), .fz rs.length (grR rs)]], .dead, .dead, .ints 0 .i64 s.2]) (fun s => m - s.1) (fun s => s.1 ≤ m ∧ (relN m l a b s.1).length ≤ 120 ∧ s.2.length = m) (0, List.replicate (m : Int).toNat 0) [2, 4, 5, 6, 7, 9, 10, 11, 89, 90] rfl rfl rfl ⟨Nat.zero_le _, h0, by simp⟩ ?_
    rintro ⟨i, K⟩ ⟨hi, hiN, hKl⟩ ih
    dsimp only at hi hiN hKl ih ⊢
    refine sp W 0 rfl rfl rfl (fun z1 => ?_) (fun z1 => ?_)
    · have hi2 : i < m := by omega
      have iN : ((i : Nat) : Int).toNat = i := Int.toNat_natCast i
      obtain ⟨w1, w2, w3, w4⟩ := hall i
      have c : AFun Tryz.prog 26 [graphV m (relN m l a b i) rs, .int .i64 (relA l a b : Nat), .int .i64 (i : Nat)] [] (SnQ m rs (relN m l a b (i + 1)) (relK m l a b i)) := slopeOf_new m i (relN m l a b i) rs (relA l a b) w3 hiN ⟨by omega, by omega⟩ w1.2 (by omega) w1.1 w4
      refine go_callS W 0 300 [] rfl (by first | exact True.intro | (simp only [AllC, AllP, addN, Int.toNat_natCast, true_and, and_true, Option.getD, List.length_set, wrapU, pw1, pw7, pw8, pw16, pw23, pw32, pw52, Holds] <;> first | omega | ((repeat' apply And.intro) <;> first | omega | (intros; rfl))) | (simp [AllC, AllP, addN, cloL, clo, mrgL, mrg, wrapU, Holds] <;> omega)) c rfl rfl trivial trivial rfl ?_
      rintro _ _ ⟨q, q2⟩
      rcases Nat.lt_or_ge 120 (relN m l a b (i + 1)).length with hb | hb
      · obtain ⟨rfl, rfl⟩ := q2 hb
        refine ⟨_, _, rfl, rfl, ?_⟩
        refine rp W 0 rfl rfl rfl (.refl)
      · obtain ⟨rfl, rfl⟩ := q hb
        refine ⟨_, _, rfl, rfl, ?_⟩
        have nx := ih (i + 1, K.set (addN 0 ((i : Nat) : Int).toNat) (relK m l a b i)) ⟨by dsimp only; omega, hb, by simpa using hKl⟩ (by dsimp only; omega)
        dsimp only at nx
        refine go_frz [16, 17] [2, 4, 5, 6, 7, 9, 10, 11, 12, 89, 90, 97] rfl rfl rfl (by first | exact True.intro | (simp only [AllC, AllP, addN, Int.toNat_natCast, true_and, and_true, Option.getD, List.length_set, wrapU, pw1, pw7, pw8, pw16, pw23, pw32, pw52, Holds] <;> first | omega | ((repeat' apply And.intro) <;> first | omega | (intros; rfl))) | (simp [AllC, AllP, addN, cloL, clo, mrgL, mrg, wrapU, Holds] <;> omega)) (by first | exact True.intro | (simp only [AllC, AllP, addN, Int.toNat_natCast, true_and, and_true, Option.getD, List.length_set, wrapU, pw1, pw7, pw8, pw16, pw23, pw32, pw52, Holds] <;> first | omega | ((repeat' apply And.intro) <;> first | omega | (intros; rfl))) | (simp [AllC, AllP, addN, cloL, clo, mrgL, mrg, wrapU, Holds] <;> omega)) ?_
        refine bd W 0 9 [2, 4, 5, 6, 7, 9, 10, 11, 89, 90] rfl rfl rfl rfl rfl nx (hc := by simp only [AllC, addNz, iN, true_and, and_true]; omega)
    · exfalso
      have him : i = m := by omega
      subst him
      omega
end Pf
/- SlopeRel: the law -/
namespace Pf
open Go Go.Proofs
theorem markIntS_nils (k : Int) : AFunP Tryz.prog 15 [.nils, .int .i64 k] (· = .int .i64 k) := by
  refine afun_of Tryz.func15 Tryz.call15 rfl Tryz.ntmps15 rfl ?_
  have W : Walk Tryz.prog TT 15 _ := Walk.of TT_ok Tryz.func15 Tryz.results15
  refine lp W 0 (σ := Unit) (fun i => [(0, .nils), (1, .int .i64 k), (5, .int .i64 0)]) (fun _ => []) (fun i => 0) (fun i => True) () [0, 1, 5] rfl rfl rfl trivial ?_
  intro _ _ ih
  refine sp W 0 rfl rfl rfl (fun h => ?_) (fun h => ?_)
  · simp at h
  · refine rp W 0 rfl rfl rfl (.refl)
theorem fnSlopeRel_law (v : Int) (l : List Gn) (rs : List Gr) (r : Int) (hm : l.length ≤ 9223372036854775807) (hr : rs.length ≤ 9223372036854775807) (hx : ∀ i, i < l.length → (l.getD i g0).t.length ≤ 9223372036854775807) (ha : -9223372036854775808 ≤ r ∧ r ≤ 9223372036854775807) : AFunP Tryz.prog 4 [graphV v l rs, .int .i64 r] (· = .pr True) := by
  refine afun_of Tryz.func4 Tryz.call4 rfl Tryz.ntmps4 rfl ?_
  have W : Walk Tryz.prog TT 4 _ := Walk.of TT_ok Tryz.func4 Tryz.results4
  refine cq W 0 rfl rfl (szGraph_ok v l rs hm hr hx) ?_
  rintro _ ⟨n, rfl, hn⟩
  refine ⟨_, rfl, ?_⟩
  refine sp W 0 rfl rfl rfl (fun h1 => ?_) (fun h1 => ?_)
  · refine rp W 0 rfl rfl rfl (.yes trivial)
  obtain ⟨hl, hrs, ht⟩ := hn (by omega)
  have k1 := toGraph_ok v l rs hl hrs
  refine ce W 0 rfl rfl (k1) rfl ?_
  by_cases hp : relOk v l rs r
  · have ks : AFunP Tryz.prog 12 [graphV v l rs, .int .i64 r] (· = .tup [graphV v (relN v l (rs.getD r.toNat r0).l (rs.getD r.toNat r0).r v.toNat) rs, .int .i64 (relA l (rs.getD r.toNat r0).l (rs.getD r.toNat r0).r : Nat), .fi .i64 (relKs v l (rs.getD r.toNat r0).l (rs.getD r.toNat r0).r v.toNat), .bool true]) := (specRel_ok v l rs r hl hrs ht).mono fun u h => h.1 hp
    have ki := implRel_yes v l rs r hl hrs ht ha hp
    have hNl := hp.2
    have hg := hp.1.1.1
    have hKl := relKs_len v l (rs.getD r.toNat r0).l (rs.getD r.toNat r0).r v.toNat
    obtain ⟨N, hNe⟩ : ∃ N, N = relN v l (rs.getD r.toNat r0).l (rs.getD r.toNat r0).r v.toNat := ⟨_, rfl⟩
    obtain ⟨K, hKe⟩ : ∃ K, K = relKs v l (rs.getD r.toNat r0).l (rs.getD r.toNat r0).r v.toNat := ⟨_, rfl⟩
    obtain ⟨A, hAe⟩ : ∃ A : Int, A = (relA l (rs.getD r.toNat r0).l (rs.getD r.toNat r0).r : Nat) := ⟨_, rfl⟩
    rw [← hNe, ← hKe, ← hAe] at ks
    rw [← hNe, ← hKe, ← hAe] at ki
    rw [← hNe] at hNl
    rw [← hKe] at hKl
    rw [← hKl] at ki
    have hV : K.length ≤ 6 := by have := hg.1; omega
    clear hNe hKe hAe hKl hp
    refine ce W 0 rfl rfl (ks) rfl ?_
    refine cx W 0 rfl rfl (toGraph_new v l rs hl hrs) (fun u H h => by obtain ⟨rfl, rfl⟩ := h; exact ⟨rfl, rfl, rfl, rfl, fun _ _ => rfl, fun _ _ => rfl, trivial⟩) ?_
    rintro _ _ ⟨rfl, rfl⟩
    refine ⟨_, _, rfl, rfl, ?_⟩
    refine go_tab 5 l.length (gnR l) rfl rfl rfl (Nat.le_refl _) (fun _ _ => rfl) (.inl rfl) ?_
    refine go_tab 6 rs.length (grR rs) rfl rfl rfl (Nat.le_refl _) (fun _ _ => rfl) (.inl rfl) ?_
    refine go_callL W 0 300 rfl (by first | exact True.intro | (simp only [AllC, AllP, addN, Int.toNat_natCast, true_and, and_true, Option.getD, List.length_set, wrapU, pw1, pw7, pw8, pw16, pw23, pw32, pw52, Holds] <;> first | omega | ((repeat' apply And.intro) <;> first | omega | (intros; rfl))) | (simp [AllC, AllP, addN, cloL, clo, mrgL, mrg, wrapU, Holds] <;> omega)) rfl ⟨⟨trivial, rfl, by omega, fun _ _ => rfl⟩, rfl, by omega, fun _ _ => rfl⟩ rfl ki (fun u H h => by obtain ⟨rfl, rfl⟩ := h; exact ⟨rfl, trivial, trivial, trivial, trivial, trivial, trivial, trivial, trivial, trivial, trivial, trivial, trivial, trivial, trivial, trivial, trivial, fun _ _ => rfl, fun _ _ => rfl, trivial⟩) ?_
    rintro _ _ ⟨rfl, rfl⟩
    refine ⟨_, _, rfl, rfl, ?_⟩
    have keq := eqGraph_ok v N rs (by omega) hrs
    have keK := eqIntS_ok K K (by omega)
    refine cb W 0 rfl rfl rfl rfl (keq) rfl ?_
    refine sp W 0 rfl rfl rfl (fun b1 => ?_) (fun b1 => ?_)
    · exact absurd trivial b1
    refine sp W 0 rfl rfl rfl (fun b2 => ?_) (fun b2 => ?_)
    · exact absurd rfl b2
    refine cb W 0 rfl rfl rfl rfl (keK) rfl ?_
    refine sp W 0 rfl rfl rfl (fun c1 => ?_) (fun c1 => ?_)
    · exact absurd rfl c1
    refine sp W 0 rfl rfl rfl (fun c2 => ?_) (fun c2 => ?_)
    · exact absurd Iff.rfl c2
    refine dre W 0 4 [] [graphV v l rs, .pr True] rfl rfl rfl ⟨k1.at rfl _, (eqGraph_ok v l rs hl hrs).bor rfl ⟨⟨trivial, rfl, by omega, fun _ _ => rfl⟩, rfl, by omega, fun _ _ => rfl⟩ rfl (fun _ h => by rw [h]; rfl), trivial⟩ rfl ?_
    refine sp W 0 rfl rfl rfl (fun b3 => ?_) (fun b3 => ?_)
    · exact absurd trivial b3
    refine cmT W 0 [(5, 0), (6, 0)] rfl (markGraph_ok v l.length rs.length 1 l rs rfl rfl hl hrs (by omega) (by omega)) ⟨rfl, rfl, trivial⟩ rfl rfl ⟨fun _ _ => rfl, fun _ _ => rfl, trivial⟩ ?_
    rintro _ _ ⟨rfl, l', r', ⟨hl', hr'⟩, -, rfl⟩
    refine ⟨_, _, rfl, rfl, ?_⟩
    refine sp W 0 rfl rfl rfl (fun b4 => ?_) (fun b4 => ?_)
    · exfalso; omega
    refine cb W 0 rfl rfl rfl rfl (keq) rfl ?_
    refine sp W 0 rfl rfl rfl (fun b5 => ?_) (fun b5 => ?_)
    · exact absurd trivial b5
    refine sp W 0 rfl rfl rfl (fun b6 => ?_) (fun b6 => ?_)
    · exact absurd rfl b6
    refine cb W 0 rfl rfl rfl rfl (keK) rfl ?_
    refine sp W 0 rfl rfl rfl (fun c5 => ?_) (fun c5 => ?_)
    · exact absurd rfl c5
    refine sp W 0 rfl rfl rfl (fun c6 => ?_) (fun c6 => ?_)
    · exact absurd Iff.rfl c6
    refine cmT W 0 [(24, 0), (25, 0)] rfl (markGraph_ok v N.length rs.length 1 N rs rfl rfl (by omega) hrs (by omega) (by omega)) ⟨rfl, rfl, trivial⟩ rfl rfl ⟨fun _ _ => rfl, fun _ _ => rfl, trivial⟩ ?_
    rintro _ _ ⟨rfl, N', q', ⟨hN', hq'⟩, ⟨hh1, hh2⟩, rfl⟩
    refine ⟨_, _, rfl, rfl, ?_⟩
    refine cmT W 0 [(16, 0)] rfl (markIntS_ok K (1 + 5 * N.length + 3 * rs.length : Nat) (by omega) (by omega) (by omega)) ⟨rfl, trivial⟩ rfl rfl ⟨trivial, trivial⟩ ?_
    rintro _ _ ⟨rfl, rfl⟩
    refine ⟨_, _, rfl, rfl, ?_⟩
    have kh := heldGraph_ok v 1 N' q' (by omega) (by omega) (by omega) (by omega) hh1 (by rw [hN']; exact hh2)
    unfold graphV at kh
    rw [hN', hq'] at kh
    have khI : AFunP Tryz.prog 16 [.fi .i64 (marks (1 + 5 * N.length + 3 * rs.length : Nat) K.length), .int .i64 (1 + 5 * N.length + 3 * rs.length : Nat)] (· = .int .i64 ((1 + 5 * N.length + 3 * rs.length : Nat) + K.length)) := by
      have h := heldIntS_ok (marks (1 + 5 * N.length + 3 * rs.length : Nat) K.length) (1 + 5 * N.length + 3 * rs.length : Nat) (by rw [marks_len]; omega) (by omega) (by omega)
      rw [marks_len, if_pos rfl] at h
      exact h
    have hML := marks_len (1 + 5 * N.length + 3 * rs.length : Nat) K.length
    generalize marks (1 + 5 * N.length + 3 * rs.length : Nat) K.length = M at khI hML ⊢
    refine cb W 0 rfl rfl rfl rfl (kh) rfl ?_
    refine sp W 0 rfl rfl rfl (fun b7 => ?_) (fun b7 => ?_)
    · exfalso; omega
    refine cb W 0 rfl rfl rfl rfl (khI) rfl ?_
    refine sp W 0 rfl rfl rfl (fun b8 => ?_) (fun b8 => ?_)
    · exfalso; omega
    refine sp W 0 rfl rfl rfl (fun d0 => ?_) (fun d0 => ?_)
    · exact absurd rfl d0
    refine ce W 0 rfl rfl (k1) rfl ?_
    refine go_callL W 0 300 rfl (by first | exact True.intro | (simp only [AllC, AllP, addN, Int.toNat_natCast, true_and, and_true, Option.getD, List.length_set, wrapU, pw1, pw7, pw8, pw16, pw23, pw32, pw52, Holds] <;> first | omega | ((repeat' apply And.intro) <;> first | omega | (intros; rfl))) | (simp [AllC, AllP, addN, cloL, clo, mrgL, mrg, wrapU, Holds] <;> omega)) rfl trivial rfl ki (fun u H h => by obtain ⟨rfl, rfl⟩ := h; exact ⟨rfl, trivial, trivial, trivial, trivial, trivial, trivial, trivial, trivial, trivial, trivial, trivial, trivial, trivial, trivial, trivial, trivial, fun _ _ => rfl, fun _ _ => rfl, trivial⟩) ?_
    rintro _ _ ⟨rfl, rfl⟩
    refine ⟨_, _, rfl, rfl, ?_⟩
    refine cb W 0 rfl rfl rfl rfl (keq) rfl ?_
    refine sp W 0 rfl rfl rfl (fun b9 => ?_) (fun b9 => ?_)
    · exact absurd trivial b9
    refine sp W 0 rfl rfl rfl (fun d1 => ?_) (fun d1 => ?_)
    · exact absurd rfl d1
    refine cb W 0 rfl rfl rfl rfl (keK) rfl ?_
    refine sp W 0 rfl rfl rfl (fun d2 => ?_) (fun d2 => ?_)
    · exact absurd rfl d2
    refine sp W 0 rfl rfl rfl (fun d3 => ?_) (fun d3 => ?_)
    · exact absurd Iff.rfl d3
    refine cb W 0 rfl rfl rfl rfl (kh) rfl ?_
    refine sp W 0 rfl rfl rfl (fun d4 => ?_) (fun d4 => ?_)
    · exfalso; omega
    refine cb W 0 rfl rfl rfl rfl (khI) rfl ?_
    refine sp W 0 rfl rfl rfl (fun d5 => ?_) (fun d5 => ?_)
    · exfalso; omega
    refine sp W 0 rfl rfl rfl (fun d6 => ?_) (fun d6 => ?_)
    · exact absurd rfl d6
    refine rp W 0 rfl rfl rfl (.yes trivial)
  · have ks : AFunP Tryz.prog 12 [graphV v l rs, .int .i64 r] (· = .tup [graphV 0 [] [], .int .i64 0, .fi .i64 [], .bool false]) := (specRel_ok v l rs r hl hrs ht).mono fun u h => h.2 hp
    have ki := implRel_no v l rs r hl hrs ht ha hp
    have kh : AFunP Tryz.prog 11 [.agg [.int .i64 0, .nils, .nils], .int .i64 1] (· = .int .i64 1) := AFun.args (heldGraph_ok 0 1 [] [] (by simp) (by simp) (by omega) (by omega) (fun i hi => by simp at hi) (fun i hi => by simp at hi)) ⟨.agg ⟨.refl, .nils_fz, .nils_fz, trivial⟩, .refl, trivial⟩
    have keK : AFunP Tryz.prog 14 [.nils, .fi .i64 []] (· = .pr (([] : List Int) = [])) := AFun.args (eqIntS_ok [] [] (by simp)) ⟨.nils_fi, .refl, trivial⟩
    have kmI : AFunP Tryz.prog 15 [.nils, .int .i64 1] (· = .int .i64 1) := markIntS_nils 1
    have khI : AFunP Tryz.prog 16 [.nils, .int .i64 1] (· = .int .i64 1) := AFun.args (heldIntS_ok [] 1 (by simp) (by omega) (by omega)) ⟨.nils_fi, .refl, trivial⟩
    refine ce W 0 rfl rfl (ks) rfl ?_
    refine cx W 0 rfl rfl (toGraph_new v l rs hl hrs) (fun u H h => by obtain ⟨rfl, rfl⟩ := h; exact ⟨rfl, rfl, rfl, rfl, fun _ _ => rfl, fun _ _ => rfl, trivial⟩) ?_
    rintro _ _ ⟨rfl, rfl⟩
    refine ⟨_, _, rfl, rfl, ?_⟩
    refine go_tab 5 l.length (gnR l) rfl rfl rfl (Nat.le_refl _) (fun _ _ => rfl) (.inl rfl) ?_
    refine go_tab 6 rs.length (grR rs) rfl rfl rfl (Nat.le_refl _) (fun _ _ => rfl) (.inl rfl) ?_
    refine cb W 0 rfl rfl rfl rfl (ki) rfl ?_
    refine cb W 0 rfl rfl rfl rfl (eqGraph_no) rfl ?_
    refine sp W 0 rfl rfl rfl (fun b1 => ?_) (fun b1 => ?_)
    · exact absurd trivial b1
    refine sp W 0 rfl rfl rfl (fun b2 => ?_) (fun b2 => ?_)
    · exact absurd rfl b2
    refine cb W 0 rfl rfl rfl rfl (keK) rfl ?_
    refine sp W 0 rfl rfl rfl (fun c1 => ?_) (fun c1 => ?_)
    · exact absurd rfl c1
    refine sp W 0 rfl rfl rfl (fun c2 => ?_) (fun c2 => ?_)
    · exact absurd Iff.rfl c2
    refine dre W 0 4 [] [graphV v l rs, .pr True] rfl rfl rfl ⟨k1.at rfl _, (eqGraph_ok v l rs hl hrs).bor rfl ⟨⟨trivial, rfl, by omega, fun _ _ => rfl⟩, rfl, by omega, fun _ _ => rfl⟩ rfl (fun _ h => by rw [h]; rfl), trivial⟩ rfl ?_
    refine sp W 0 rfl rfl rfl (fun b3 => ?_) (fun b3 => ?_)
    · exact absurd trivial b3
    refine cmT W 0 [(5, 0), (6, 0)] rfl (markGraph_ok v l.length rs.length 1 l rs rfl rfl hl hrs (by omega) (by omega)) ⟨rfl, rfl, trivial⟩ rfl rfl ⟨fun _ _ => rfl, fun _ _ => rfl, trivial⟩ ?_
    rintro _ _ ⟨rfl, l', r', ⟨hl', hr'⟩, -, rfl⟩
    refine ⟨_, _, rfl, rfl, ?_⟩
    refine sp W 0 rfl rfl rfl (fun b4 => ?_) (fun b4 => ?_)
    · exfalso; omega
    refine cb W 0 rfl rfl rfl rfl (eqGraph_no) rfl ?_
    refine sp W 0 rfl rfl rfl (fun b5 => ?_) (fun b5 => ?_)
    · exact absurd trivial b5
    refine sp W 0 rfl rfl rfl (fun b6 => ?_) (fun b6 => ?_)
    · exact absurd rfl b6
    refine cb W 0 rfl rfl rfl rfl (keK) rfl ?_
    refine sp W 0 rfl rfl rfl (fun c5 => ?_) (fun c5 => ?_)
    · exact absurd rfl c5
    refine sp W 0 rfl rfl rfl (fun c6 => ?_) (fun c6 => ?_)
    · exact absurd Iff.rfl c6
    refine cb W 0 rfl rfl rfl rfl (markGraph_nil 1) rfl ?_
    refine cb W 0 rfl rfl rfl rfl (kmI) rfl ?_
    refine cb W 0 rfl rfl rfl rfl (kh) rfl ?_
    refine sp W 0 rfl rfl rfl (fun b7 => ?_) (fun b7 => ?_)
    · exfalso; omega
    refine cb W 0 rfl rfl rfl rfl (khI) rfl ?_
    refine sp W 0 rfl rfl rfl (fun b8 => ?_) (fun b8 => ?_)
    · exfalso; omega
    refine sp W 0 rfl rfl rfl (fun d0 => ?_) (fun d0 => ?_)
    · exact absurd rfl d0
    refine ce W 0 rfl rfl (k1) rfl ?_
    refine cb W 0 rfl rfl rfl rfl (ki) rfl ?_
    refine cb W 0 rfl rfl rfl rfl (eqGraph_no) rfl ?_
    refine sp W 0 rfl rfl rfl (fun b9 => ?_) (fun b9 => ?_)
    · exact absurd trivial b9
    refine sp W 0 rfl rfl rfl (fun d1 => ?_) (fun d1 => ?_)
    · exact absurd rfl d1
    refine cb W 0 rfl rfl rfl rfl (keK) rfl ?_
    refine sp W 0 rfl rfl rfl (fun d2 => ?_) (fun d2 => ?_)
    · exact absurd rfl d2
    refine sp W 0 rfl rfl rfl (fun d3 => ?_) (fun d3 => ?_)
    · exact absurd Iff.rfl d3
    refine cb W 0 rfl rfl rfl rfl (kh) rfl ?_
    refine sp W 0 rfl rfl rfl (fun d4 => ?_) (fun d4 => ?_)
    · exfalso; omega
    refine cb W 0 rfl rfl rfl rfl (khI) rfl ?_
    refine sp W 0 rfl rfl rfl (fun d5 => ?_) (fun d5 => ?_)
    · exfalso; omega
    refine sp W 0 rfl rfl rfl (fun d6 => ?_) (fun d6 => ?_)
    · exact absurd rfl d6
    refine rp W 0 rfl rfl rfl (.yes trivial)
end Pf
