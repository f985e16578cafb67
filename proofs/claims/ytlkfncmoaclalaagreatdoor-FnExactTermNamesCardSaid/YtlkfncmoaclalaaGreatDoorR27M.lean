/- The law FnExactTermNames returns true for every input, and each argument reads behind the call as it read before. -/
import Derived.Test.YtlkfncmoaclalaaGreatDoorRows
import Derived.WalkKit
import Derived.ProofKit
import Derived.OpenShut
import Derived.ShutString
import Derived.ChangeOld
import Derived.SizedLaws
import Derived.Test.YtlkfncmoaclalaaGreatDoorTie
import Derived.Test.YtlkfncmoaclalaaGreatDoorCards
import Derived.LaidMore
import Derived.Lay
import Derived.SevenTiedAt
import Derived.Stop.Joined
import Derived.JoinedOf
import Derived.OpenVars
import Derived.ChangeVars
import Derived.Test.YtlkfncmoaclalaaGreatDoorA3
namespace Go.Proofs.YtlkfncmoaclalaaGreatDoor.fnExactTermNames
open Go.ChangeShapes Go.WideShapes Go.ChangeAt Go.RowKit
open Go.ChangeMaps (open_string shut_string)
set_option linter.unusedVariables false
theorem own : ownKnob Tryz.prog.godebug = none := by kernel_rfl
theorem laidOut : laidOutB Tryz.prog = true := by kernel_rfl
theorem opens_node : Pf.Opens Tryz.prog 113 fun us => ∃ (k n : Int) (s : List UInt8), us = [.int .i64 k, .int .i64 n, .str s] ∧ s.length ≤ 9223372036854775807 := by
  refine Pf.opens_struct Tryz.underlying113 rfl (by kernel_rfl) (by kernel_rfl) ?_
  refine ⟨_, Pf.opens_int Tryz.underlying3, ?_⟩
  rintro _ ⟨k, rfl, _⟩
  refine ⟨_, Pf.opens_int Tryz.underlying3, ?_⟩
  rintro _ ⟨n, rfl, _⟩
  refine ⟨_, Pf.opens_string Tryz.underlying9, ?_⟩
  rintro _ ⟨s, rfl, hs⟩
  exact ⟨k, n, s, rfl, hs⟩
theorem opens_term : Pf.Opens Tryz.prog 39 fun us => ∃ (n : Nat) (row : Nat → List Pf.AV), us = [.fz n row] ∧ n ≤ 9223372036854775807 ∧ ∀ i, i < n → ∃ (k m : Int) (s : List UInt8), row i = [.int .i64 k, .int .i64 m, .str s] ∧ s.length ≤ 9223372036854775807 := by
  refine Pf.opens_struct Tryz.underlying39 rfl (by kernel_rfl) (by kernel_rfl) ?_
  refine ⟨_, Pf.opens_rows Tryz.underlying37 opens_node (by rw [show Tryz.prog.cellsOf 113 = 3 by kernel_rfl]; omega) (fun bs h => by obtain ⟨k, n, s, rfl, _⟩ := h; rfl), ?_⟩
  rintro _ ⟨n, row, rfl, h1, h2⟩
  exact ⟨n, row, rfl, h1, fun i hi => (h2 i hi).1⟩
/-- Rows that are nodes are a list of nodes. -/
theorem nodes_of {n : Nat} {row : Nat → List Pf.AV} (h : ∀ i, i < n → ∃ (k m : Int) (s : List UInt8), row i = [.int .i64 k, .int .i64 m, .str s] ∧ s.length ≤ 9223372036854775807) :
    ∃ l : List Pf.Nd, l.length = n ∧ (∀ i, i < n → row i = Pf.nodeR l i) ∧ ∀ i, i < l.length → (l.getD i (0, 0, [])).2.2.length ≤ 9223372036854775807 := by
  let f : Nat → Pf.Nd := fun i => if hi : i < n then ((h i hi).choose, (h i hi).choose_spec.choose, (h i hi).choose_spec.choose_spec.choose) else (0, 0, [])
  have hf : ∀ i, i < n → row i = [.int .i64 (f i).1, .int .i64 (f i).2.1, .str (f i).2.2] ∧ (f i).2.2.length ≤ 9223372036854775807 := fun i hi => by
    have := (h i hi).choose_spec.choose_spec.choose_spec
    simp only [f, dif_pos hi]
    exact this
  have hg : ∀ i, i < n → ((List.range n).map f).getD i (0, 0, []) = f i := fun i hi => by simp [List.getD_eq_getElem?_getD, hi]
  refine ⟨(List.range n).map f, by simp, fun i hi => ?_, fun i hi => ?_⟩
  · unfold Pf.nodeR; rw [hg i hi]; exact (hf i hi).1
  · have hi : i < n := by simpa using hi
    rw [hg i hi]; exact (hf i hi).2
theorem gk {W : World} (h : laidMetH Tryz.prog Rows.fnExactTermNamesRow.laid W) : Pf.GK (Pf.worldFM W) := by
  rw [MakeChecks.laidMetH_plain _ _ _ (by kernel_rfl)] at h
  obtain ⟨ps, ⟨_, _, _, _, _, _, _, _, _, _, ⟨_, _, _, _, _, _, _, _, _, _, ⟨_, _, _, _, _, _, _, _, _, _, ⟨g1, t1, cs1, fuel1, p1, q1, hg1, ht1, hv1, hd1, ⟨g2, t2, cs2, fuel2, p2, q2, hg2, ht2, hv2, hd2, ⟨g3, t3, cs3, fuel3, p3, q3, hg3, ht3, hv3, hd3, _, _⟩, _⟩, _⟩, _⟩, _⟩, _⟩, _, _⟩ := h
  obtain rfl := Option.some.inj ((show Tryz.prog.globalNamed "strconv.ErrRange" = some 3 by kernel_rfl).symm.trans hg1)
  obtain rfl := Option.some.inj ((show Tryz.prog.globalNamed "strconv.ErrSyntax" = some 2 by kernel_rfl).symm.trans hg2)
  obtain rfl := Option.some.inj ((show Tryz.prog.globalNamed "loop.example/pinfold/impl.ownWords" = some 0 by kernel_rfl).symm.trans hg3)
  obtain rfl := Option.some.inj ((show (Tryz.prog.globals[3]?).map (·.type) = some 94 by kernel_rfl).symm.trans ht1)
  obtain rfl := Option.some.inj ((show (Tryz.prog.globals[2]?).map (·.type) = some 94 by kernel_rfl).symm.trans ht2)
  obtain rfl := Option.some.inj ((show (Tryz.prog.globals[0]?).map (·.type) = some 41 by kernel_rfl).symm.trans ht3)
  refine ⟨fun i hi => absurd hi (Nat.not_lt_zero i), fun g v e => ?_, fun g hg => ?_⟩
  · have hv := Pf.open_strs Tryz.underlying41 Tryz.underlying9 (by kernel_rfl) (ws := Pf.ownW) (by decide) hd3
    obtain ⟨c, hc, hc2⟩ := Pf.var_one hg3 hv3 hv
    have e1 : g = 0 ∧ v = .fz 6 fun i => [.str (Pf.ownW.getD i [])] := by
      simp only [Pf.gval] at e
      split at e
      · rename_i hb
        exact ⟨Nat.eq_of_beq_eq_true hb, (Option.some.inj e).symm⟩
      · cases e
    obtain ⟨rfl, rfl⟩ := e1
    exact ⟨c, hc, hc2⟩
  · simp only [Pf.gerr, List.mem_cons, List.not_mem_nil, or_false] at hg
    rcases hg with rfl | rfl
    · obtain ⟨u, v, e⟩ := Pf.iface_of Tryz.underlying94 hd2
      exact Pf.var_iface hg2 hv2 e
    · obtain ⟨u, v, e⟩ := Pf.iface_of Tryz.underlying94 hd1
      exact Pf.var_iface hg1 hv1 e
set_option maxRecDepth 100000 in
theorem lifted (os : Os) (started : os.Started) (H : Type) (enc : TypeId × Value → H) :
    ReturnsInHanded {} Tryz.checked os 4 .any (fun w args => (Rows.fnExactTermNamesSpec.pre enc Tryz.prog Tryz.f4 Rows.fnExactTermNamesRow.domain false w args ∧ laidMetH Tryz.prog Rows.fnExactTermNamesRow.laid w) ∧ sizedMet enc Tryz.prog Tryz.f4 (OpenSpec.ofChange Rows.fnExactTermNamesSpec) false w args) (Rows.fnExactTermNamesSpec.post enc Tryz.prog Tryz.f4 false true false false) := by
  refine returnsInHanded_of_change_and (C := Tryz.checked) (X := fun w _ => laidMetH Tryz.prog Rows.fnExactTermNamesRow.laid w) (fun _ _ _ hh h => h.of_heap hh) own started (by kernel_rfl) Tryz.func4
    (ChangeSpec.witness_shaped (enc := enc) (C := Tryz.checked) (os := os) (X := fun w _ => laidMetH Tryz.prog Rows.fnExactTermNamesRow.laid w) false (World.laidAll Tryz.prog os Rows.fnExactTermNamesRow.laid) #[.agg #[.slice none 0 0]] 8 (World.laidAll_os _ _ _)
      (World.shaped_of_ZipB (by kernel_rfl) (by kernel_rfl)) (by kernel_rfl) (by kernel_rfl) (by kernel_rfl)
      (by rw [MakeChecks.laidMetH_plain _ _ _ (by kernel_rfl)]; exact laidMet_laidAll _ (by kernel_rfl) (by kernel_rfl))) ?_
  intro W base args ds gs before hval0 hW hcnd hsz0 hL _
  have hval : ∀ (j : Nat) t v, Tryz.f4.params[j]? = some t → args[j]? = some v → Value.okWide Tryz.prog W .any base t v := hval0
  have hW' := hW
  obtain ⟨p, q, hA0, hV, rfl, hfz, hnd⟩ := hW
  have hA : DataW.TrodAll enc Tryz.prog W 0 (fun _ => true) true Tryz.f4.params.toList args.toList ds p := hA0
  rw [Tryz.params4] at hA hval
  obtain ⟨v0, vs0, d0, ds0, p0, q0, hargs0, rfl, rfl, h0, r0⟩ := trodAll_cons hA
  obtain ⟨rfl, rfl, rfl⟩ := trodAll_nil r0
  obtain rfl : args = #[v0] := by cases args; simp_all
  obtain ⟨gv, tv, csv, fuelv, dv, pv, rfl, hgv, htv, hvarv, hvt, hq⟩ := trodVars_one hV
  obtain ⟨c0, rfl, _⟩ := okWide_struct Tryz.underlying39 (hval 0 39 v0 rfl rfl)
  have k0 := h0
  have lt0 : ∀ x ∈ p0, x.block < W.heap.size := by obtain ⟨m, hm⟩ := k0; exact DataW.trod_lt m _ _ _ hm
  obtain ⟨as0, ⟨n, row, rfl, hn, hrow⟩, hv0⟩ := opens_term.agg h0
  obtain ⟨l, rfl, hl, hx⟩ := nodes_of hrow
  have hv0 := (Pf.Sub.agg ⟨Pf.Sub.fzn rfl hl, trivial⟩ : Pf.Sub (.agg [.fz l.length row]) (Pf.termV l)) _ _ _ hv0
  clear hA0 hval0 hsz0
  refine (Pf.AFunP.calls (Pf.fnTermNames_law l hn hx) (.single hv0) (gk hL)).mono fun e W' ⟨he, bel⟩ => ?_
  subst he
  exact ⟨_, rfl, _, _, _, [], _, _, hW', trodAll_mk1 (shut_bool Tryz.underlying4 _), (trodAll_cons_mk (Below.trod laidOut (by kernel_rfl) (of_decide_eq_true (by kernel_rfl)) k0 bel lt0) trodAll_mk0), Below.trodVars laidOut bel (by kernel_rfl) hV, bel.frame _, fun h => by cases h⟩
theorem over : Rows.fnExactTermNamesRow.holds Tryz.pinned (OpenSpec.ofChange Rows.fnExactTermNamesSpec) :=
  OpenClaim.holds_of_wide 4 Tryz.f4 rfl rfl rfl rfl rfl rfl rfl ⟨rfl, rfl, rfl, rfl, rfl⟩ rfl rfl rfl rfl rfl (by kernel_rfl) Tryz.func4 (by kernel_rfl)
    (of_decide_eq_true (by kernel_rfl)) (by unfold Func.isWrapper; first | (rw [if_pos (by decide +kernel)]; kernel_rfl) | (rw [if_neg (by decide +kernel)]; exact ⟨rfl, rfl⟩))
    (fun os started H enc _ => lifted os started H enc)
theorem proved : Rows.FnExactTermNamesCardSaid :=
  Claim7.holds_tied_plain_at .later [] [.data, .data, .data, .sentinel, .sentinel, .widerDeep] true (true, "ea9229c03f36800da569d37f7b7f28d54186b47a22b2f46e284e11e5013557d2") true over (fun _ h => by cases h) (by kernel_rfl) (fun _ h => by cases h) fnExactTermNames_row_tie rfl ⟨rfl, rfl⟩ (by kernel_rfl) rfl
    (fun f fn hf hfn => by
      obtain rfl : f = 4 := Option.some.inj ((show Tryz.prog.funcNamed "loop.example/pinfold/laws.FnExactTermNames" = some 4 by kernel_rfl).symm.trans hf) |>.symm
      obtain rfl : fn = Tryz.f4 := (Option.some.inj (Tryz.func4.symm.trans hfn)).symm
      exact ⟨by kernel_rfl, fun j t ht => by
        rw [Tryz.params4] at ht
        have hm : t ∈ [39] := by
          have := Array.mem_of_getElem? ht
          simp at this ⊢
          omega
        have hall : ([39].all fun u => !Tryz.prog.wantsStandIn u) = true := by kernel_rfl
        exact (show Tryz.prog.wantsStandIn t = false by simpa using List.all_eq_true.1 hall t hm)⟩)
    (by kernel_rfl)
#print axioms proved
end Go.Proofs.YtlkfncmoaclalaaGreatDoor.fnExactTermNames
