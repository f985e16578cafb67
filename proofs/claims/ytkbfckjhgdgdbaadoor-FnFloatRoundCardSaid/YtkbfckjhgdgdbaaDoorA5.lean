/- Part 5 of the lemmas that the claim rests on: an abstract machine over the model, what it is sound for, and the contracts of the functions that the law reaches. -/
import Derived.Test.YtkbfckjhgdgdbaaDoorA4
set_option linter.unusedSimpArgs false
set_option linter.unusedVariables false
set_option maxHeartbeats 4000000
/- The law of FloatRound -/
namespace Pf
open Go Go.Proofs
theorem specBitUp_any (w n : Int) (hn : InI n) : AFunP Tryd.prog 105 [.int .i64 w, .int .i64 n] (fun u => ∃ k, u = .int .i64 k ∧ InI k) := by
  have hr := top_rng w
  refine afun_of Tryd.func105 Tryd.call105 rfl Tryd.ntmps105 rfl ?_
  have W : Walk Tryd.prog TT 105 _ := Walk.of TT_ok Tryd.func105 Tryd.results105
  refine ce W 0 rfl rfl (specBitOk_ok w n) rfl ?_
  refine sp W 0 rfl rfl rfl (fun h1 => ?_) (fun h1 => ?_)
  · refine rq W 0 rfl rfl (.int .i64 0) (⟨_, rfl, by unfold InI; omega⟩) rfl .refl
  · refine ce W 0 rfl rfl (specBitTop_ok w) rfl ?_
    refine sp W 0 rfl rfl rfl (fun h2 => ?_) (fun h2 => ?_)
    · refine rq W 0 rfl rfl (.int .i64 n) (⟨_, rfl, hn⟩) rfl .refl
    · have hb := (Classical.not_not.1 h1).2
      refine rq W 0 rfl rfl (.int .i64 (n + 1)) (⟨_, rfl, by unfold InI at *; omega⟩) rfl .refl
theorem drawFloatNear_ok (b : List Int) (hb : ∀ x ∈ b, 0 ≤ x ∧ x ≤ 255) : AFunP Tryd.prog 49 [.fi .u8 b] (fun u => ∃ w p t d, u = .tup [.int .i64 w, frF p t d] ∧ InI w ∧ t.length ≤ 256 ∧ d.length ≤ 256) := by
  refine afun_of Tryd.func49 Tryd.call49 rfl Tryd.ntmps49 rfl ?_
  have W : Walk Tryd.prog TT 49 _ := Walk.of TT_ok Tryd.func49 Tryd.results49
  refine cx W 0 rfl rfl (l31Open_ok b hb) (OpenQ.flat) ?_
  rintro _ _ ⟨rfl, c, rfl, hc⟩
  refine ⟨_, _, rfl, rfl, ?_⟩
  refine cm W 0 [(1, 0)] rfl (width31_ok c 0 hc (by omega) (by omega)) ⟨rfl, trivial⟩ rfl rfl rfl ?_
  rintro _ _ ⟨p1, rfl, p1a, p1b, ⟨w, rfl, w0, w1⟩⟩
  refine ⟨_, _, rfl, rfl, ?_⟩
  refine cm W 0 [(1, 0)] rfl (pick31_ok c p1 3 hc (by omega) (by omega) (by unfold InI; omega)) ⟨rfl, trivial⟩ rfl rfl rfl ?_
  rintro _ _ ⟨p2, rfl, p2a, p2b, ⟨x, rfl, x0, x1⟩⟩
  refine ⟨_, _, rfl, rfl, ?_⟩
  refine sp W 0 rfl rfl rfl (fun h1 => ?_) (fun h1 => ?_)
  · refine ce W 0 rfl rfl (l1Width_ok w) rfl ?_
    refine sp W 0 rfl rfl rfl (fun h2 => ?_) (fun h2 => ?_)
    · refine cm W 0 [(1, 0)] rfl (ord31_ok c p2 w hc (by omega) (by omega) ⟨w0, w1⟩) ⟨rfl, trivial⟩ rfl rfl rfl ?_
      rintro _ _ ⟨p3, rfl, p3a, p3b, ⟨n, rfl, n0, n1⟩⟩
      refine ⟨_, _, rfl, rfl, ?_⟩
      obtain ⟨ok, q, t, d, k1, l1, l2⟩ := floatFrac_any w n
      refine ce W 0 rfl rfl (k1) rfl ?_
      refine cm W 0 [(1, 0)] rfl (ord31_ok c p3 w hc (by omega) (by omega) ⟨w0, w1⟩) ⟨rfl, trivial⟩ rfl rfl rfl ?_
      rintro _ _ ⟨p4, rfl, p4a, p4b, ⟨m, rfl, m0, m1⟩⟩
      refine ⟨_, _, rfl, rfl, ?_⟩
      refine cq W 0 rfl rfl (specBitUp_any w m (by unfold InI; omega)) ?_
      rintro _ ⟨m', rfl, m2⟩
      refine ⟨_, rfl, ?_⟩
      obtain ⟨ok2, q2, t2, d2, k2, l3, l4⟩ := floatFrac_any w m'
      refine ce W 0 rfl rfl (k2) rfl ?_
      obtain ⟨ok3, q3, t3, d3, k3, l5, l6⟩ := fracAdd_any q q2 t d t2 d2 (by omega) (by omega) (by omega) (by omega)
      refine ce W 0 rfl rfl (k3) rfl ?_
      obtain ⟨ok4, q4, t4, d4, k4, l7, l8⟩ := fracMul_any q3 False t3 d3 [1] [2] (by omega) (by omega) (by simp) (by simp)
      have k4' : AFunP Tryd.prog 107 [frF q3 t3 d3, .agg [.bool false, .fi .i64 [1], .fi .i64 [2]]] (· = .tup [frF q4 t4 d4, .pr ok4]) := AFun.sub k4 ⟨.refl, .agg ⟨.no id, .refl, .refl, trivial⟩, trivial⟩
      refine cf W 0 [5, 6] [0, 2, 3, 4, 5, 7, 9, 11] rfl rfl rfl rfl rfl rfl (k4') rfl ?_
      refine sp W 0 rfl rfl rfl (fun a1 => ?_) (fun a1 => ?_)
      · refine sp W 0 rfl rfl rfl (fun a2 => ?_) (fun a2 => ?_)
        · refine sp W 0 rfl rfl rfl (fun a3 => ?_) (fun a3 => ?_)
          · refine sp W 0 rfl rfl rfl (fun a4 => ?_) (fun a4 => ?_)
            · refine phg W 0 3 [] rfl rfl (fun PW => ?_)
              refine phe PW 0 [] [] rfl trivial rfl ?_
              refine rq W 0 rfl rfl (.tup [.int .i64 w, frF q4 t4 d4]) (⟨w, q4, t4, d4, rfl, ⟨w0, w1⟩, l7, l8⟩) rfl .refl
            · skip
              refine cm W 0 [(1, 0)] rfl (frac31_ok c p4 hc (by omega) (by omega)) ⟨rfl, trivial⟩ rfl rfl rfl ?_
              rintro _ _ ⟨pz, rfl, pza, pzb, ⟨qz, tz, dz, rfl, z1, z2⟩⟩
              refine ⟨_, _, rfl, rfl, ?_⟩
              refine rq W 0 rfl rfl (.tup [.int .i64 w, frF qz tz dz]) (⟨w, qz, tz, dz, rfl, ⟨w0, w1⟩, z1, z2⟩) rfl .refl
          · skip
            refine cm W 0 [(1, 0)] rfl (frac31_ok c p4 hc (by omega) (by omega)) ⟨rfl, trivial⟩ rfl rfl rfl ?_
            rintro _ _ ⟨pz, rfl, pza, pzb, ⟨qz, tz, dz, rfl, z1, z2⟩⟩
            refine ⟨_, _, rfl, rfl, ?_⟩
            refine rq W 0 rfl rfl (.tup [.int .i64 w, frF qz tz dz]) (⟨w, qz, tz, dz, rfl, ⟨w0, w1⟩, z1, z2⟩) rfl .refl
        · skip
          refine cm W 0 [(1, 0)] rfl (frac31_ok c p4 hc (by omega) (by omega)) ⟨rfl, trivial⟩ rfl rfl rfl ?_
          rintro _ _ ⟨pz, rfl, pza, pzb, ⟨qz, tz, dz, rfl, z1, z2⟩⟩
          refine ⟨_, _, rfl, rfl, ?_⟩
          refine rq W 0 rfl rfl (.tup [.int .i64 w, frF qz tz dz]) (⟨w, qz, tz, dz, rfl, ⟨w0, w1⟩, z1, z2⟩) rfl .refl
      · skip
        refine cm W 0 [(1, 0)] rfl (frac31_ok c p4 hc (by omega) (by omega)) ⟨rfl, trivial⟩ rfl rfl rfl ?_
        rintro _ _ ⟨pz, rfl, pza, pzb, ⟨qz, tz, dz, rfl, z1, z2⟩⟩
        refine ⟨_, _, rfl, rfl, ?_⟩
        refine rq W 0 rfl rfl (.tup [.int .i64 w, frF qz tz dz]) (⟨w, qz, tz, dz, rfl, ⟨w0, w1⟩, z1, z2⟩) rfl .refl
    · skip
      refine cm W 0 [(1, 0)] rfl (frac31_ok c p2 hc (by omega) (by omega)) ⟨rfl, trivial⟩ rfl rfl rfl ?_
      rintro _ _ ⟨pz, rfl, pza, pzb, ⟨qz, tz, dz, rfl, z1, z2⟩⟩
      refine ⟨_, _, rfl, rfl, ?_⟩
      refine rq W 0 rfl rfl (.tup [.int .i64 w, frF qz tz dz]) (⟨w, qz, tz, dz, rfl, ⟨w0, w1⟩, z1, z2⟩) rfl .refl
  · skip
    refine cm W 0 [(1, 0)] rfl (frac31_ok c p2 hc (by omega) (by omega)) ⟨rfl, trivial⟩ rfl rfl rfl ?_
    rintro _ _ ⟨pz, rfl, pza, pzb, ⟨qz, tz, dz, rfl, z1, z2⟩⟩
    refine ⟨_, _, rfl, rfl, ?_⟩
    refine rq W 0 rfl rfl (.tup [.int .i64 w, frF qz tz dz]) (⟨w, qz, tz, dz, rfl, ⟨w0, w1⟩, z1, z2⟩) rfl .refl
theorem specSub_any {p q : Prop} {t u x y : List Int} (h1 : frOk p t u) (h2 : frOk q x y) (ht : t.length ≤ 1048576) (hu : u.length ≤ 1048576) (hx : x.length ≤ 1048576) (hy : y.length ≤ 1048576) : ∃ p' t' d', AFunP Tryd.prog 51 [frF p t u, frF q x y] (· = .tup [frF p' t' d', .pr (small (rat p t u - rat q x y))]) ∧ t'.length ≤ 256 ∧ d'.length ≤ 256 ∧
    (small (rat p t u - rat q x y) → frOk p' t' d' ∧ rat p' t' d' = rat p t u - rat q x y) := by
  have k : AFunP Tryd.prog 51 [frF p t u, frF q x y] (· = (subS p t u q x y).av) := specFracSub_ok p q t u x y ht hu hx hy
  rw [subS_rat h1 h2] at k
  have e1 : (FRes.ofRat (frOk p t u ∧ frOk q x y) (rat p t u - rat q x y)).av = resF (small (rat p t u - rat q x y)) (rat p t u - rat q x y < 0) (dt (rat p t u - rat q x y)) (db (rat p t u - rat q x y)) := by
    unfold FRes.av FRes.ofRat
    simp [h1, h2]
  rw [e1] at k
  by_cases hs : small (rat p t u - rat q x y)
  · rw [resF_yes hs] at k
    refine ⟨_, _, _, by rw [eq_true hs]; exact k, hs.1, hs.2, fun _ => ⟨frOk_iff.2 hs, rat_frR _⟩⟩
  · rw [resF_no hs] at k
    exact ⟨_, _, _, by rw [eq_false hs]; exact k, by simp, by simp, fun h => absurd h hs⟩
theorem fnFloatRound_law (b : List Int) (hb : ∀ x ∈ b, 0 ≤ x ∧ x ≤ 255) : AFunP Tryd.prog 14 [.fi .u8 b] (· = .pr True) := by
  refine afun_of Tryd.func14 Tryd.call14 rfl Tryd.ntmps14 rfl ?_
  have W : Walk Tryd.prog TT 14 _ := Walk.of TT_ok Tryd.func14 Tryd.results14
  refine sp W 0 rfl rfl rfl (fun h1 => ?_) (fun h1 => ?_)
  · refine rp W 0 rfl rfl rfl (.yes trivial)
  refine cq W 0 rfl rfl (drawFloatNear_ok b hb) ?_
  rintro _ ⟨w, p, t, u, rfl, hw, lt, lu⟩
  refine ⟨_, rfl, ?_⟩
  have kd := implFloatDown_ok w p t u (by omega) (by omega)
  have ku := implFloatUp_ok w p t u (by omega) (by omega)
  have kn := implNear_any w p t u (by omega) (by omega)
  have ks := specFloatDown_ok w p t u (by omega) (by omega)
  by_cases hf : (w = 32 ∨ w = 64) ∧ frOk p t u
  · have hs := frOk_small hf.2
    have er := frR_eq hf.2
    have ht := top_fT hf.1
    have htp := top_pos hf.1
    have htr := top_rng w
    have hdr := dn_rng w (rat p t u)
    have hur := up_rng w (rat p t u)
    have hlh := lo_hi w (rat p t u)
    have hte := te_iff (w := w) (r := rat p t u)
    have hnr := nearF_rng (r := rat p t u) hf.1
    have h1d := up_dn1 w (rat p t u)
    have hnf := nearF_fin (w := w) (r := rat p t u)
    have hn3 : dn w (rat p t u) ≠ -top w → up w (rat p t u) ≠ top w → nearF w (rat p t u) = dn w (rat p t u) ∨ nearF w (rat p t u) = up w (rat p t u) := fun k1 k2 => (hnf k1 k2).2.imp (·.1) (·.1)
    obtain ⟨e1, e2, e3⟩ := frOk_rat hf.2
    rw [nextN, if_pos hf] at kd ku ks
    rw [nearN, if_pos hf] at kn
    rw [eq_true hf] at kd ku kn ks
    generalize hlo : dn w (rat p t u) = lo at *
    generalize hhi : up w (rat p t u) = hi at *
    generalize hnn : nearF w (rat p t u) = n at *
    dsimp only at kd ku
    refine ce W 0 rfl rfl (kd) rfl ?_
    refine ce W 0 rfl rfl (ku) rfl ?_
    refine ce W 0 rfl rfl (kn) rfl ?_
    refine ce W 0 rfl rfl (ks) rfl ?_
    refine sp W 0 rfl rfl rfl (fun a1 => ?_) (fun a1 => ?_)
    · exact absurd Iff.rfl a1
    refine sp W 0 rfl rfl rfl (fun a2 => ?_) (fun a2 => ?_)
    · exact absurd Iff.rfl a2
    refine sp W 0 rfl rfl rfl (fun a3 => ?_) (fun a3 => ?_)
    · exact absurd Iff.rfl a3
    refine sp W 0 rfl rfl rfl (fun a4 => ?_) (fun a4 => ?_)
    · exact absurd trivial a4
    refine ce W 0 rfl rfl (implBitTop_ok w) rfl ?_
    refine sp W 0 rfl rfl rfl (fun b1 => ?_) (fun b1 => ?_)
    · exfalso; omega
    refine sp W 0 rfl rfl rfl (fun b2 => ?_) (fun b2 => ?_)
    · exfalso; omega
    refine sp W 0 rfl rfl rfl (fun b3 => ?_) (fun b3 => ?_)
    · exfalso; omega
    refine sp W 0 rfl rfl rfl (fun b4 => ?_) (fun b4 => ?_)
    · exfalso; omega
    refine sp W 0 rfl rfl rfl (fun b5 => ?_) (fun b5 => ?_)
    · exfalso; omega
    by_cases hL : lo = -top w
    · have fl : ¬ finF w lo := fun k => by have := k.2; omega
      have fh : finF w hi := ⟨hf.1, by omega⟩
      refine sp W 0 rfl rfl rfl (fun c1 => ?_) (fun c1 => ?_)
      · exfalso; omega
      have ob := vl_frOk fh
      have sb := vl_small fh
      have rb := rat_frR (vl w hi)
      have cb := specFracCmp_ok p t u (vl w hi < 0) (dt (vl w hi)) (db (vl w hi)) (by omega) (by omega) (by have := sb.1; omega) (by have := sb.2; omega)
      rw [fcmpN, if_pos ⟨hf.2, ob⟩, rb, cmpR_swap] at cb
      have vb : 0 ≤ cmpR (vl w hi) (rat p t u) := by
        rw [hlh.2 (by omega)]; split <;> omega
      refine ce W 0 rfl rfl (implFloatFrac_no w lo (by unfold InI; omega) fl) rfl ?_
      refine cn W 0 rfl rfl rfl (implFloatFrac_yes w hi fh) ?_
      rintro _ _ ⟨rfl, rfl⟩
      refine ⟨_, _, rfl, rfl, ?_⟩
      refine sp W 0 rfl rfl rfl (fun d3 => ?_) (fun d3 => ?_)
      rotate_left
      · exact absurd trivial d3
      refine cf W 0 [2, 3] [2, 3, 4, 5, 7, 9, 14, 15, 16, 17, 130, 136, 138] rfl rfl rfl rfl rfl rfl (cb) rfl ?_
      refine sp W 0 rfl rfl rfl (fun d4 => ?_) (fun d4 => ?_)
      · exfalso; omega
      refine rp W 0 rfl rfl rfl (.yes trivial)
    · have fl : finF w lo := ⟨hf.1, by omega⟩
      by_cases hH : hi = top w
      · have fh : ¬ finF w hi := fun k => by have := k.2; omega
        refine sp W 0 rfl rfl rfl (fun c1 => ?_) (fun c1 => ?_)
        · refine sp W 0 rfl rfl rfl (fun c2 => ?_) (fun c2 => ?_)
          · exfalso; omega
          have oa := vl_frOk fl
          have sa := vl_small fl
          have ra := rat_frR (vl w lo)
          have ca := specFracCmp_ok (vl w lo < 0) (dt (vl w lo)) (db (vl w lo)) p t u (by have := sa.1; omega) (by have := sa.2; omega) (by omega) (by omega)
          rw [fcmpN, if_pos ⟨oa, hf.2⟩, ra] at ca
          have va : cmpR (vl w lo) (rat p t u) ≤ 0 ∧ (lo = hi ↔ cmpR (vl w lo) (rat p t u) = 0) := by
            rw [hlh.1 (by omega)]
            by_cases e : te w (rat p t u)
            · rw [if_pos e]; exact ⟨Int.le_refl _, fun _ => rfl, fun _ => hte.1 e⟩
            · rw [if_neg e]; exact ⟨by omega, fun k => absurd (hte.2 k) e, fun k => by omega⟩
          refine cn W 0 rfl rfl rfl (implFloatFrac_yes w lo fl) ?_
          rintro _ _ ⟨rfl, rfl⟩
          refine ⟨_, _, rfl, rfl, ?_⟩
          refine ce W 0 rfl rfl (implFloatFrac_no w hi (by unfold InI; omega) fh) rfl ?_
          refine sp W 0 rfl rfl rfl (fun d1 => ?_) (fun d1 => ?_)
          rotate_left
          · exact absurd trivial d1
          refine cf W 0 [1, 2] [2, 3, 4, 5, 7, 9, 14, 15, 16, 17, 130, 136, 138] rfl rfl rfl rfl rfl rfl (ca) rfl ?_
          refine sp W 0 rfl rfl rfl (fun d2 => ?_) (fun d2 => ?_)
          · exfalso; omega
          refine sp W 0 rfl rfl rfl (fun d5 => ?_) (fun d5 => ?_)
          rotate_left
          · exact absurd trivial d5
          refine ce W 0 rfl rfl (ca) rfl ?_
          refine sp W 0 rfl rfl rfl (fun d6 => ?_) (fun d6 => ?_)
          · exact absurd va.2 d6
          refine sp W 0 rfl rfl rfl (fun d7 => ?_) (fun d7 => ?_)
          · exact absurd trivial d7
          refine rp W 0 rfl rfl rfl (.yes trivial)
        · exfalso; omega
      · have fh : finF w hi := ⟨hf.1, by omega⟩
        have hn3 := hn3 hL hH
        refine sp W 0 rfl rfl rfl (fun c1 => ?_) (fun c1 => ?_)
        · refine sp W 0 rfl rfl rfl (fun c2 => ?_) (fun c2 => ?_)
          · refine sp W 0 rfl rfl rfl (fun c3 => ?_) (fun c3 => ?_)
            · refine sp W 0 rfl rfl rfl (fun c4 => ?_) (fun c4 => ?_)
              · exact absurd (hn3.resolve_left c3) c4
              · skip
                have oa := vl_frOk fl
                have sa := vl_small fl
                have ra := rat_frR (vl w lo)
                have ca := specFracCmp_ok (vl w lo < 0) (dt (vl w lo)) (db (vl w lo)) p t u (by have := sa.1; omega) (by have := sa.2; omega) (by omega) (by omega)
                rw [fcmpN, if_pos ⟨oa, hf.2⟩, ra] at ca
                have va : cmpR (vl w lo) (rat p t u) ≤ 0 ∧ (lo = hi ↔ cmpR (vl w lo) (rat p t u) = 0) := by
                  rw [hlh.1 (by omega)]
                  by_cases e : te w (rat p t u)
                  · rw [if_pos e]; exact ⟨Int.le_refl _, fun _ => rfl, fun _ => hte.1 e⟩
                  · rw [if_neg e]; exact ⟨by omega, fun k => absurd (hte.2 k) e, fun k => by omega⟩
                have ob := vl_frOk fh
                have sb := vl_small fh
                have rb := rat_frR (vl w hi)
                have cb := specFracCmp_ok p t u (vl w hi < 0) (dt (vl w hi)) (db (vl w hi)) (by omega) (by omega) (by have := sb.1; omega) (by have := sb.2; omega)
                rw [fcmpN, if_pos ⟨hf.2, ob⟩, rb, cmpR_swap] at cb
                have vb : 0 ≤ cmpR (vl w hi) (rat p t u) := by
                  rw [hlh.2 (by omega)]; split <;> omega
                refine cn W 0 rfl rfl rfl (implFloatFrac_yes w lo fl) ?_
                rintro _ _ ⟨rfl, rfl⟩
                refine ⟨_, _, rfl, rfl, ?_⟩
                refine cn W 0 rfl rfl rfl (implFloatFrac_yes w hi fh) ?_
                rintro _ _ ⟨rfl, rfl⟩
                refine ⟨_, _, rfl, rfl, ?_⟩
                refine sp W 0 rfl rfl rfl (fun d1 => ?_) (fun d1 => ?_)
                rotate_left
                · exact absurd trivial d1
                refine cf W 0 [1, 2, 4, 5] [2, 3, 4, 5, 7, 9, 14, 15, 16, 17, 130, 136, 138] rfl rfl rfl rfl rfl rfl (ca) rfl ?_
                refine sp W 0 rfl rfl rfl (fun d2 => ?_) (fun d2 => ?_)
                · exfalso; omega
                refine sp W 0 rfl rfl rfl (fun d3 => ?_) (fun d3 => ?_)
                rotate_left
                · exact absurd trivial d3
                refine ce W 0 rfl rfl (cb) rfl ?_
                refine sp W 0 rfl rfl rfl (fun d4 => ?_) (fun d4 => ?_)
                · exfalso; omega
                refine sp W 0 rfl rfl rfl (fun d5 => ?_) (fun d5 => ?_)
                rotate_left
                · exact absurd trivial d5
                refine ce W 0 rfl rfl (ca) rfl ?_
                refine sp W 0 rfl rfl rfl (fun d6 => ?_) (fun d6 => ?_)
                · exact absurd va.2 d6
                refine sp W 0 rfl rfl rfl (fun d7 => ?_) (fun d7 => ?_)
                · exact absurd trivial d7
                refine sp W 0 rfl rfl rfl (fun d8 => ?_) (fun d8 => ?_)
                · exact absurd trivial d8
                obtain ⟨p1, t1, u1, kp, i1, i2, i3⟩ := specSub_any hf.2 oa (by omega) (by omega) (by have := sa.1; omega) (by have := sa.2; omega)
                obtain ⟨p2, t2, u2, kq, j1, j2, j3⟩ := specSub_any ob hf.2 (by have := sb.1; omega) (by have := sb.2; omega) (by omega) (by omega)
                rw [ra] at kp i3
                rw [rb] at kq j3
                refine ce W 0 rfl rfl (kp) rfl ?_
                refine ce W 0 rfl rfl (kq) rfl ?_
                refine sp W 0 rfl rfl rfl (fun f1 => ?_) (fun f1 => ?_)
                · refine rp W 0 rfl rfl rfl (.yes trivial)
                refine sp W 0 rfl rfl rfl (fun f2 => ?_) (fun f2 => ?_)
                · refine rp W 0 rfl rfl rfl (.yes trivial)
                have i3 := i3 (Classical.not_not.1 f1)
                have j3 := j3 (Classical.not_not.1 f2)
                have kc := specFracCmp_ok p1 t1 u1 p2 t2 u2 (by omega) (by omega) (by omega) (by omega)
                have hnf := hnf hL hH
                rw [fcmpN, if_pos ⟨i3.1, j3.1⟩, i3.2, j3.2, Rat.sub_eq_add_neg, Rat.sub_eq_add_neg] at kc
                generalize cmpR (rat p t u + -vl w lo) (vl w hi + -rat p t u) = c at *
                refine ce W 0 rfl rfl (kc) rfl ?_
                have tn := tmod2 n
                refine sp W 0 rfl rfl rfl (fun g1 => ?_) (fun g1 => ?_)
                · refine sp W 0 rfl rfl rfl (fun g2 => ?_) (fun g2 => ?_)
                  · refine rp W 1 rfl rfl rfl (.pr ⟨fun _ => trivial, fun _ => tn.2 (hnf.1 g1 g2)⟩)
                  · skip
                    refine sp W 0 rfl rfl rfl (fun g3 => ?_) (fun g3 => ?_)
                    · refine sp W 0 rfl rfl rfl (fun g4 => ?_) (fun g4 => ?_)
                      · refine rp W 0 rfl rfl rfl (.yes trivial)
                      · refine sp W 0 rfl rfl rfl (fun g5 => ?_) (fun g5 => ?_)
                        · refine rp W 0 rfl rfl rfl (.pr ⟨fun _ => trivial, fun _ => by have := hnf.2; omega⟩)
                        · exfalso; have := hnf.2; omega
                    · refine sp W 0 rfl rfl rfl (fun g5 => ?_) (fun g5 => ?_)
                      · refine rp W 0 rfl rfl rfl (.pr ⟨fun _ => trivial, fun _ => by have := hnf.2; omega⟩)
                      · exfalso; have := hnf.2; omega
                · skip
                  refine sp W 0 rfl rfl rfl (fun g3 => ?_) (fun g3 => ?_)
                  · refine sp W 0 rfl rfl rfl (fun g4 => ?_) (fun g4 => ?_)
                    · refine rp W 0 rfl rfl rfl (.yes trivial)
                    · refine sp W 0 rfl rfl rfl (fun g5 => ?_) (fun g5 => ?_)
                      · refine rp W 0 rfl rfl rfl (.pr ⟨fun _ => trivial, fun _ => by have := hnf.2; omega⟩)
                      · exfalso; have := hnf.2; omega
                  · refine sp W 0 rfl rfl rfl (fun g5 => ?_) (fun g5 => ?_)
                    · refine rp W 0 rfl rfl rfl (.pr ⟨fun _ => trivial, fun _ => by have := hnf.2; omega⟩)
                    · exfalso; have := hnf.2; omega
            · skip
              have oa := vl_frOk fl
              have sa := vl_small fl
              have ra := rat_frR (vl w lo)
              have ca := specFracCmp_ok (vl w lo < 0) (dt (vl w lo)) (db (vl w lo)) p t u (by have := sa.1; omega) (by have := sa.2; omega) (by omega) (by omega)
              rw [fcmpN, if_pos ⟨oa, hf.2⟩, ra] at ca
              have va : cmpR (vl w lo) (rat p t u) ≤ 0 ∧ (lo = hi ↔ cmpR (vl w lo) (rat p t u) = 0) := by
                rw [hlh.1 (by omega)]
                by_cases e : te w (rat p t u)
                · rw [if_pos e]; exact ⟨Int.le_refl _, fun _ => rfl, fun _ => hte.1 e⟩
                · rw [if_neg e]; exact ⟨by omega, fun k => absurd (hte.2 k) e, fun k => by omega⟩
              have ob := vl_frOk fh
              have sb := vl_small fh
              have rb := rat_frR (vl w hi)
              have cb := specFracCmp_ok p t u (vl w hi < 0) (dt (vl w hi)) (db (vl w hi)) (by omega) (by omega) (by have := sb.1; omega) (by have := sb.2; omega)
              rw [fcmpN, if_pos ⟨hf.2, ob⟩, rb, cmpR_swap] at cb
              have vb : 0 ≤ cmpR (vl w hi) (rat p t u) := by
                rw [hlh.2 (by omega)]; split <;> omega
              refine cn W 0 rfl rfl rfl (implFloatFrac_yes w lo fl) ?_
              rintro _ _ ⟨rfl, rfl⟩
              refine ⟨_, _, rfl, rfl, ?_⟩
              refine cn W 0 rfl rfl rfl (implFloatFrac_yes w hi fh) ?_
              rintro _ _ ⟨rfl, rfl⟩
              refine ⟨_, _, rfl, rfl, ?_⟩
              refine sp W 0 rfl rfl rfl (fun d1 => ?_) (fun d1 => ?_)
              rotate_left
              · exact absurd trivial d1
              refine cf W 0 [1, 2, 4, 5] [2, 3, 4, 5, 7, 9, 14, 15, 16, 17, 130, 136, 138] rfl rfl rfl rfl rfl rfl (ca) rfl ?_
              refine sp W 0 rfl rfl rfl (fun d2 => ?_) (fun d2 => ?_)
              · exfalso; omega
              refine sp W 0 rfl rfl rfl (fun d3 => ?_) (fun d3 => ?_)
              rotate_left
              · exact absurd trivial d3
              refine ce W 0 rfl rfl (cb) rfl ?_
              refine sp W 0 rfl rfl rfl (fun d4 => ?_) (fun d4 => ?_)
              · exfalso; omega
              refine sp W 0 rfl rfl rfl (fun d5 => ?_) (fun d5 => ?_)
              rotate_left
              · exact absurd trivial d5
              refine ce W 0 rfl rfl (ca) rfl ?_
              refine sp W 0 rfl rfl rfl (fun d6 => ?_) (fun d6 => ?_)
              · exact absurd va.2 d6
              refine sp W 0 rfl rfl rfl (fun d7 => ?_) (fun d7 => ?_)
              · exact absurd trivial d7
              refine sp W 0 rfl rfl rfl (fun d8 => ?_) (fun d8 => ?_)
              · exact absurd trivial d8
              obtain ⟨p1, t1, u1, kp, i1, i2, i3⟩ := specSub_any hf.2 oa (by omega) (by omega) (by have := sa.1; omega) (by have := sa.2; omega)
              obtain ⟨p2, t2, u2, kq, j1, j2, j3⟩ := specSub_any ob hf.2 (by have := sb.1; omega) (by have := sb.2; omega) (by omega) (by omega)
              rw [ra] at kp i3
              rw [rb] at kq j3
              refine ce W 0 rfl rfl (kp) rfl ?_
              refine ce W 0 rfl rfl (kq) rfl ?_
              refine sp W 0 rfl rfl rfl (fun f1 => ?_) (fun f1 => ?_)
              · refine rp W 0 rfl rfl rfl (.yes trivial)
              refine sp W 0 rfl rfl rfl (fun f2 => ?_) (fun f2 => ?_)
              · refine rp W 0 rfl rfl rfl (.yes trivial)
              have i3 := i3 (Classical.not_not.1 f1)
              have j3 := j3 (Classical.not_not.1 f2)
              have kc := specFracCmp_ok p1 t1 u1 p2 t2 u2 (by omega) (by omega) (by omega) (by omega)
              have hnf := hnf hL hH
              rw [fcmpN, if_pos ⟨i3.1, j3.1⟩, i3.2, j3.2, Rat.sub_eq_add_neg, Rat.sub_eq_add_neg] at kc
              generalize cmpR (rat p t u + -vl w lo) (vl w hi + -rat p t u) = c at *
              refine ce W 0 rfl rfl (kc) rfl ?_
              have tn := tmod2 n
              refine sp W 0 rfl rfl rfl (fun g1 => ?_) (fun g1 => ?_)
              · refine sp W 0 rfl rfl rfl (fun g2 => ?_) (fun g2 => ?_)
                · refine rp W 1 rfl rfl rfl (.pr ⟨fun _ => trivial, fun _ => tn.2 (hnf.1 g1 g2)⟩)
                · skip
                  refine sp W 0 rfl rfl rfl (fun g3 => ?_) (fun g3 => ?_)
                  · refine sp W 0 rfl rfl rfl (fun g4 => ?_) (fun g4 => ?_)
                    · refine rp W 0 rfl rfl rfl (.yes trivial)
                    · refine sp W 0 rfl rfl rfl (fun g5 => ?_) (fun g5 => ?_)
                      · refine rp W 0 rfl rfl rfl (.pr ⟨fun _ => trivial, fun _ => by have := hnf.2; omega⟩)
                      · exfalso; have := hnf.2; omega
                  · refine sp W 0 rfl rfl rfl (fun g5 => ?_) (fun g5 => ?_)
                    · refine rp W 0 rfl rfl rfl (.pr ⟨fun _ => trivial, fun _ => by have := hnf.2; omega⟩)
                    · exfalso; have := hnf.2; omega
              · skip
                refine sp W 0 rfl rfl rfl (fun g3 => ?_) (fun g3 => ?_)
                · refine sp W 0 rfl rfl rfl (fun g4 => ?_) (fun g4 => ?_)
                  · refine rp W 0 rfl rfl rfl (.yes trivial)
                  · refine sp W 0 rfl rfl rfl (fun g5 => ?_) (fun g5 => ?_)
                    · refine rp W 0 rfl rfl rfl (.pr ⟨fun _ => trivial, fun _ => by have := hnf.2; omega⟩)
                    · exfalso; have := hnf.2; omega
                · refine sp W 0 rfl rfl rfl (fun g5 => ?_) (fun g5 => ?_)
                  · refine rp W 0 rfl rfl rfl (.pr ⟨fun _ => trivial, fun _ => by have := hnf.2; omega⟩)
                  · exfalso; have := hnf.2; omega
          · exfalso; omega
        · exfalso; omega
  · rw [nextN, if_neg hf] at kd ku ks
    rw [nearN, if_neg hf] at kn
    rw [eq_false hf] at kd ku kn ks
    refine ce W 0 rfl rfl (kd) rfl ?_
    refine ce W 0 rfl rfl (ku) rfl ?_
    refine ce W 0 rfl rfl (kn) rfl ?_
    refine ce W 0 rfl rfl (ks) rfl ?_
    refine sp W 0 rfl rfl rfl (fun a1 => ?_) (fun a1 => ?_)
    · exact absurd Iff.rfl a1
    refine sp W 0 rfl rfl rfl (fun a2 => ?_) (fun a2 => ?_)
    · exact absurd Iff.rfl a2
    refine sp W 0 rfl rfl rfl (fun a3 => ?_) (fun a3 => ?_)
    · exact absurd Iff.rfl a3
    refine sp W 0 rfl rfl rfl (fun a4 => ?_) (fun a4 => ?_)
    · refine rp W 0 rfl rfl rfl (.yes trivial)
    · exact absurd a4 (by simp)
end Pf
