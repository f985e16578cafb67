/- The law FnExactSlopeRel returns true for every input, and each argument reads behind the call as it read before. -/
import Derived.Test.YtnfolpmgecpplaaGreatDoorRows
import Derived.WalkKit
import Derived.ProofKit
import Derived.OpenShut
import Derived.ShutString
import Derived.ChangeOld
import Derived.SizedLaws
import Derived.Test.YtnfolpmgecpplaaGreatDoorTie
import Derived.Test.YtnfolpmgecpplaaGreatDoorCards
import Derived.LaidMore
import Derived.Lay
import Derived.SevenTiedAt
import Derived.Stop.Joined
import Derived.JoinedOf
import Derived.OpenVars
import Derived.ChangeVars
import Derived.Test.YtnfolpmgecpplaaGreatDoorA5
namespace Go.Proofs.YtnfolpmgecpplaaGreatDoor.fnExactSlopeRel
open Go.ChangeShapes Go.WideShapes Go.ChangeAt Go.RowKit
open Go.ChangeMaps (open_string shut_string)
set_option linter.unusedVariables false
theorem own : ownKnob Tryz.prog.godebug = none := by kernel_rfl
theorem laidOut : laidOutB Tryz.prog = true := by kernel_rfl
theorem opens_node : Pf.Opens Tryz.prog 74 fun us => ∃ (k a b n : Int) (s : List UInt8), us = [.int .i64 k, .int .i64 a, .int .i64 b, .int .i64 n, .str s] ∧ s.length ≤ 9223372036854775807 := by
  refine Pf.opens_struct Tryz.underlying74 rfl (by kernel_rfl) (by kernel_rfl) ?_
  refine ⟨_, Pf.opens_int Tryz.underlying3, ?_⟩
  rintro _ ⟨k, rfl, _⟩
  refine ⟨_, Pf.opens_int Tryz.underlying3, ?_⟩
  rintro _ ⟨a, rfl, _⟩
  refine ⟨_, Pf.opens_int Tryz.underlying3, ?_⟩
  rintro _ ⟨b, rfl, _⟩
  refine ⟨_, Pf.opens_int Tryz.underlying3, ?_⟩
  rintro _ ⟨n, rfl, _⟩
  refine ⟨_, Pf.opens_string Tryz.underlying9, ?_⟩
  rintro _ ⟨s, rfl, hs⟩
  exact ⟨k, a, b, n, s, rfl, hs⟩
theorem opens_i : Pf.Opens Tryz.prog 3 fun us => ∃ n, us = [.int .i64 n] ∧ Pf.InK .i64 n := Pf.opens_int Tryz.underlying3
theorem opens_rel : Pf.Opens Tryz.prog 83 fun us => ∃ (k a b : Int), us = [.int .i64 k, .int .i64 a, .int .i64 b] := by
  refine Pf.opens_struct Tryz.underlying83 rfl (by kernel_rfl) (by kernel_rfl) ?_
  refine ⟨_, Pf.opens_int Tryz.underlying3, ?_⟩
  rintro _ ⟨k, rfl, _⟩
  refine ⟨_, Pf.opens_int Tryz.underlying3, ?_⟩
  rintro _ ⟨a, rfl, _⟩
  refine ⟨_, Pf.opens_int Tryz.underlying3, ?_⟩
  rintro _ ⟨b, rfl, _⟩
  exact ⟨k, a, b, rfl⟩
theorem opens_graph : Pf.Opens Tryz.prog 25 fun us => ∃ (v : Int) (n : Nat) (row : Nat → List Pf.AV) (m : Nat) (row' : Nat → List Pf.AV), us = [.int .i64 v, .fz n row, .fz m row'] ∧ n ≤ 9223372036854775807 ∧ m ≤ 9223372036854775807 ∧
    (∀ i, i < n → ∃ (k a b c : Int) (s : List UInt8), row i = [.int .i64 k, .int .i64 a, .int .i64 b, .int .i64 c, .str s] ∧ s.length ≤ 9223372036854775807) ∧ ∀ i, i < m → ∃ (k a b : Int), row' i = [.int .i64 k, .int .i64 a, .int .i64 b] := by
  refine Pf.opens_struct Tryz.underlying25 rfl (by kernel_rfl) (by kernel_rfl) ?_
  refine ⟨_, Pf.opens_int Tryz.underlying3, ?_⟩
  rintro _ ⟨v, rfl, _⟩
  refine ⟨_, Pf.opens_rows Tryz.underlying22 opens_node (by rw [show Tryz.prog.cellsOf 74 = 5 by kernel_rfl]; omega) (fun bs h => by obtain ⟨k, a, b, n, s, rfl, _⟩ := h; rfl), ?_⟩
  rintro _ ⟨n, row, rfl, h1, h2⟩
  refine ⟨_, Pf.opens_rows Tryz.underlying23 opens_rel (by rw [show Tryz.prog.cellsOf 83 = 3 by kernel_rfl]; omega) (fun bs h => by obtain ⟨k, a, b, rfl⟩ := h; rfl), ?_⟩
  rintro _ ⟨m, row', rfl, h3, h4⟩
  exact ⟨v, n, row, m, row', rfl, h1, h3, fun i hi => (h2 i hi).1, fun i hi => (h4 i hi).1⟩
/-- Rows that are nodes are a list of nodes. -/
theorem nodes_of {n : Nat} {row : Nat → List Pf.AV} (h : ∀ i, i < n → ∃ (k a b c : Int) (s : List UInt8), row i = [.int .i64 k, .int .i64 a, .int .i64 b, .int .i64 c, .str s] ∧ s.length ≤ 9223372036854775807) :
    ∃ l : List Pf.Gn, l.length = n ∧ (∀ i, i < n → row i = Pf.gnR l i) ∧ ∀ i, i < l.length → (l.getD i Pf.g0).t.length ≤ 9223372036854775807 := by
  have h' : ∀ i, i < n → ∃ x : Pf.Gn, row i = [.int .i64 x.k, .int .i64 x.a, .int .i64 x.b, .int .i64 x.n, .str x.t] ∧ x.t.length ≤ 9223372036854775807 := fun i hi => by
    obtain ⟨k, a, b, c, s, h1, h2⟩ := h i hi
    exact ⟨⟨k, a, b, c, s⟩, h1, h2⟩
  let f : Nat → Pf.Gn := fun i => if hi : i < n then (h' i hi).choose else Pf.g0
  have hf : ∀ i, i < n → row i = [.int .i64 (f i).k, .int .i64 (f i).a, .int .i64 (f i).b, .int .i64 (f i).n, .str (f i).t] ∧ (f i).t.length ≤ 9223372036854775807 := fun i hi => by
    have := (h' i hi).choose_spec
    simp only [f, dif_pos hi]
    exact this
  have hg : ∀ i, i < n → ((List.range n).map f).getD i Pf.g0 = f i := fun i hi => by simp [List.getD_eq_getElem?_getD, hi]
  refine ⟨(List.range n).map f, by simp, fun i hi => ?_, fun i hi => ?_⟩
  · unfold Pf.gnR; rw [hg i hi]; exact (hf i hi).1
  · have hi : i < n := by simpa using hi
    rw [hg i hi]; exact (hf i hi).2
theorem rels_of {n : Nat} {row : Nat → List Pf.AV} (h : ∀ i, i < n → ∃ (k a b : Int), row i = [.int .i64 k, .int .i64 a, .int .i64 b]) :
    ∃ l : List Pf.Gr, l.length = n ∧ ∀ i, i < n → row i = Pf.grR l i := by
  have h' : ∀ i, i < n → ∃ x : Pf.Gr, row i = [.int .i64 x.k, .int .i64 x.l, .int .i64 x.r] := fun i hi => by
    obtain ⟨k, a, b, h1⟩ := h i hi
    exact ⟨⟨k, a, b⟩, h1⟩
  let f : Nat → Pf.Gr := fun i => if hi : i < n then (h' i hi).choose else Pf.r0
  have hf : ∀ i, i < n → row i = [.int .i64 (f i).k, .int .i64 (f i).l, .int .i64 (f i).r] := fun i hi => by
    have := (h' i hi).choose_spec
    simp only [f, dif_pos hi]
    exact this
  have hg : ∀ i, i < n → ((List.range n).map f).getD i Pf.r0 = f i := fun i hi => by simp [List.getD_eq_getElem?_getD, hi]
  refine ⟨(List.range n).map f, by simp, fun i hi => ?_⟩
  unfold Pf.grR; rw [hg i hi]; exact hf i hi
theorem gk {W : World} (h : laidMetH Tryz.prog Rows.fnExactSlopeRelRow.laid W) : Pf.GK (Pf.worldFM W) W := by
  rw [MakeChecks.laidMetH_plain _ _ _ (by kernel_rfl)] at h
  obtain ⟨ps, ⟨_, _, _, _, _, _, _, _, _, _, ⟨_, _, _, _, _, _, _, _, _, _, ⟨g0, t0, cs0, fuel0, p0, q0, hg0, ht0, hv0, hd0, ⟨g1, t1, cs1, fuel1, p1, q1, hg1, ht1, hv1, hd1, ⟨g2, t2, cs2, fuel2, p2, q2, hg2, ht2, hv2, hd2, ⟨g3, t3, cs3, fuel3, p3, q3, hg3, ht3, hv3, hd3, _, _⟩, _⟩, _⟩, _⟩, _⟩, _⟩, _, _⟩ := h
  obtain rfl := Option.some.inj ((show Tryz.prog.globalNamed "internal/strconv.uint64pow10" = some 1 by kernel_rfl).symm.trans hg0)
  obtain rfl := Option.some.inj ((show Tryz.prog.globalNamed "strconv.ErrRange" = some 6 by kernel_rfl).symm.trans hg1)
  obtain rfl := Option.some.inj ((show Tryz.prog.globalNamed "strconv.ErrSyntax" = some 5 by kernel_rfl).symm.trans hg2)
  obtain rfl := Option.some.inj ((show Tryz.prog.globalNamed "loop.example/pinfold/impl.ownWords" = some 0 by kernel_rfl).symm.trans hg3)
  obtain rfl := Option.some.inj ((show (Tryz.prog.globals[6]?).map (·.type) = some 133 by kernel_rfl).symm.trans ht1)
  obtain rfl := Option.some.inj ((show (Tryz.prog.globals[5]?).map (·.type) = some 133 by kernel_rfl).symm.trans ht2)
  obtain rfl := Option.some.inj ((show (Tryz.prog.globals[0]?).map (·.type) = some 117 by kernel_rfl).symm.trans ht3)
  obtain rfl := Option.some.inj ((show (Tryz.prog.globals[1]?).map (·.type) = some 137 by kernel_rfl).symm.trans ht0)
  have hcs : cs0.toList = Lib.pow10Tab.map fun z => Value.int .u64 z := by
    have := Lib.cells_of_tab (k := .u64) (zs := Lib.pow10Tab) Tryz.underlying137 Tryz.underlying105 (by kernel_rfl) (by kernel_rfl) hd0
    rw [← this]
  have eg : Pf.gtab = Lib.pow10Tab := by decide
  have hsz : cs0.size = Pf.gtab.length := by
    have := congrArg List.length hcs
    rw [List.length_map, ← eg] at this
    simpa using this
  refine ⟨fun i hi => ?_, fun g v e => ?_, fun g hg => ?_, fun _ => ?_⟩
  · show W.cell? ⟨1, i, none⟩ = _
    rw [World.var?_cell hg0 hv0 i]
    have h1 : cs0[i]? = cs0.toList[i]? := by simp
    rw [h1, hcs, ← eg, List.getElem?_map, List.getElem?_eq_getElem hi, List.getD_eq_getElem?_getD, List.getElem?_eq_getElem hi]
    rfl
  · have hv := Pf.open_strs Tryz.underlying117 Tryz.underlying9 (by kernel_rfl) (ws := Pf.ownW) (by decide) hd3
    obtain ⟨c, hc, hc2⟩ := Pf.var_one hg3 hv3 hv
    have e1 : g = 0 ∧ v = .fz 6 fun i => [.str (Pf.ownW.getD i [])] := by
      simp only [Pf.gval] at e
      split at e
      · rename_i hb
        exact ⟨Nat.eq_of_beq_eq_true hb, (Option.some.inj e).symm⟩
      · cases e
    obtain ⟨rfl, rfl⟩ := e1
    exact ⟨c, hc, hc2⟩
  · simp only [Pf.gerr, List.mem_cons, List.not_mem_nil, or_false] at hg
    rcases hg with rfl | rfl
    · obtain ⟨u, v, e⟩ := Pf.iface_of Tryz.underlying133 hd2
      exact Pf.var_iface hg2 hv2 e
    · obtain ⟨u, v, e⟩ := Pf.iface_of Tryz.underlying133 hd1
      exact Pf.var_iface hg1 hv1 e
  · have hv := hv0
    simp only [World.var?, hg0, Option.bind_some] at hv
    split at hv
    · rename_i cs el fr hh
      cases hv
      exact ⟨_, el, fr, hh, hsz⟩
    · cases hv
set_option maxRecDepth 100000 in
theorem lifted (os : Os) (started : os.Started) (H : Type) (enc : TypeId × Value → H) :
    ReturnsInHanded {} Tryz.checked os 4 .any (fun w args => (Rows.fnExactSlopeRelSpec.pre enc Tryz.prog Tryz.f4 Rows.fnExactSlopeRelRow.domain false w args ∧ laidMetH Tryz.prog Rows.fnExactSlopeRelRow.laid w) ∧ sizedMet enc Tryz.prog Tryz.f4 (OpenSpec.ofChange Rows.fnExactSlopeRelSpec) false w args) (Rows.fnExactSlopeRelSpec.post enc Tryz.prog Tryz.f4 false true false false) := by
  refine returnsInHanded_of_change_and (C := Tryz.checked) (X := fun w _ => laidMetH Tryz.prog Rows.fnExactSlopeRelRow.laid w) (fun _ _ _ hh h => h.of_heap hh) own started (by kernel_rfl) Tryz.func4
    (ChangeSpec.witness_shaped (enc := enc) (C := Tryz.checked) (os := os) (X := fun w _ => laidMetH Tryz.prog Rows.fnExactSlopeRelRow.laid w) false (World.laidAll Tryz.prog os Rows.fnExactSlopeRelRow.laid) #[.agg #[.int .i64 0, .slice none 0 0, .slice none 0 0], .int .i64 0] 8 (World.laidAll_os _ _ _)
      (World.shaped_of_ZipB (by kernel_rfl) (by kernel_rfl)) (by kernel_rfl) (by kernel_rfl) (by kernel_rfl)
      (by rw [MakeChecks.laidMetH_plain _ _ _ (by kernel_rfl)]; exact laidMet_laidAll _ (by kernel_rfl) (by kernel_rfl))) ?_
  intro W base args ds gs before hval0 hW hcnd hsz0 hL _
  have hval : ∀ (j : Nat) t v, Tryz.f4.params[j]? = some t → args[j]? = some v → Value.okWide Tryz.prog W .any base t v := hval0
  have hW' := hW
  obtain ⟨p, q, hA0, hV, rfl, hfz, hnd⟩ := hW
  have hA : DataW.TrodAll enc Tryz.prog W 0 (fun _ => true) true Tryz.f4.params.toList args.toList ds p := hA0
  rw [Tryz.params4] at hA hval
  obtain ⟨v0, vs0, d0, ds0, p0, q0, hargs0, rfl, rfl, h0, r0⟩ := trodAll_cons hA
  obtain ⟨v1, vs1, d1, ds1, p1, q1, hargs1, rfl, rfl, h1, r1⟩ := trodAll_cons r0
  obtain ⟨rfl, rfl, rfl⟩ := trodAll_nil r1
  obtain rfl : args = #[v0, v1] := by cases args; simp_all
  obtain ⟨gv, tv, csv, fuelv, dv, pv, rfl, hgv, htv, hvarv, hvt, hq⟩ := trodVars_one hV
  obtain ⟨c0, rfl, _⟩ := okWide_struct Tryz.underlying25 (hval 0 25 v0 rfl rfl)
  obtain ⟨n1, rfl⟩ := okWide_int Tryz.underlying3 (hval 1 3 v1 rfl rfl)
  have k0 := h0
  have lt0 : ∀ x ∈ p0, x.block < W.heap.size := by obtain ⟨m, hm⟩ := k0; exact DataW.trod_lt m _ _ _ hm
  have k1 := h1
  have lt1 : ∀ x ∈ p1, x.block < W.heap.size := by obtain ⟨m, hm⟩ := k1; exact DataW.trod_lt m _ _ _ hm
  obtain ⟨as0, ⟨gv0, n, row, m, row', rfl, hn, hm, hrow, hrow'⟩, hv0⟩ := opens_graph.agg h0
  obtain ⟨l, rfl, hl, hx⟩ := nodes_of hrow
  obtain ⟨rs, rfl, hr⟩ := rels_of hrow'
  have hv0 := (Pf.Sub.agg ⟨.refl, Pf.Sub.fzn rfl hl, Pf.Sub.fzn rfl hr, trivial⟩ : Pf.Sub (.agg [.int .i64 gv0, .fz l.length row, .fz rs.length row']) (Pf.graphV gv0 l rs)) _ _ _ hv0
  obtain ⟨as1, ⟨m1, e1, hb1⟩, hv1⟩ := opens_i.one h1 (fun xs h => by cases h)
  obtain rfl : as1 = .int .i64 m1 := by simpa using e1
  clear hA0 hval0 hsz0
  refine (Pf.AFunP.calls (Pf.fnSlopeRel_law gv0 l rs m1 hn hm hx (by unfold Pf.InK at hb1; exact hb1)) (.push hv0 (.single hv1)) (gk hL)).mono fun e W' ⟨he, bel⟩ => ?_
  subst he
  exact ⟨_, rfl, _, _, _, [], _, _, hW', trodAll_mk1 (shut_bool Tryz.underlying4 _), (trodAll_cons_mk (Below.trod laidOut (by kernel_rfl) (of_decide_eq_true (by kernel_rfl)) k0 bel lt0) (trodAll_cons_mk (Below.trod laidOut (by kernel_rfl) (of_decide_eq_true (by kernel_rfl)) k1 bel lt1) trodAll_mk0)), Below.trodVars laidOut bel (by kernel_rfl) hV, bel.frame _, fun h => by cases h⟩
theorem over : Rows.fnExactSlopeRelRow.holds Tryz.pinned (OpenSpec.ofChange Rows.fnExactSlopeRelSpec) :=
  OpenClaim.holds_of_wide 4 Tryz.f4 rfl rfl rfl rfl rfl rfl rfl ⟨rfl, rfl, rfl, rfl, rfl⟩ rfl rfl rfl rfl rfl (by kernel_rfl) Tryz.func4 (by kernel_rfl)
    (of_decide_eq_true (by kernel_rfl)) (by unfold Func.isWrapper; first | (rw [if_pos (by decide +kernel)]; kernel_rfl) | (rw [if_neg (by decide +kernel)]; exact ⟨rfl, rfl⟩))
    (fun os started H enc _ => lifted os started H enc)
theorem proved : Rows.FnExactSlopeRelCardSaid :=
  Claim7.holds_tied_plain_at .later [] [.data, .data, .data, .sentinel, .sentinel, .widerDeep] true (true, "e5123c0a3c88b8801013fe56d8191f593e8d5bd50e4d8e1a99f445b069de782a") true over (fun _ h => by cases h) (by kernel_rfl) (fun _ h => by cases h) fnExactSlopeRel_row_tie rfl ⟨rfl, rfl⟩ (by kernel_rfl) rfl
    (fun f fn hf hfn => by
      obtain rfl : f = 4 := Option.some.inj ((show Tryz.prog.funcNamed "loop.example/pinfold/laws.FnExactSlopeRel" = some 4 by kernel_rfl).symm.trans hf) |>.symm
      obtain rfl : fn = Tryz.f4 := (Option.some.inj (Tryz.func4.symm.trans hfn)).symm
      exact ⟨by kernel_rfl, fun j t ht => by
        rw [Tryz.params4] at ht
        have hm : t ∈ [3, 25] := by
          have := Array.mem_of_getElem? ht
          simp only [List.mem_toArray, List.mem_cons, List.not_mem_nil, or_false] at this ⊢
          exact this.symm
        have hall : ([3, 25].all fun u => !Tryz.prog.wantsStandIn u) = true := by kernel_rfl
        exact (show Tryz.prog.wantsStandIn t = false by simpa using List.all_eq_true.1 hall t hm)⟩)
    (by kernel_rfl)
#print axioms proved
end Go.Proofs.YtnfolpmgecpplaaGreatDoor.fnExactSlopeRel
