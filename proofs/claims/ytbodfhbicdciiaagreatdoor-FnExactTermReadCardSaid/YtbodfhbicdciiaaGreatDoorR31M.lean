/- The law FnExactTermRead returns true for every input, and each argument reads behind the call as it read before. -/
import Derived.Test.YtbodfhbicdciiaaGreatDoorRows
import Derived.WalkKit
import Derived.ProofKit
import Derived.OpenShut
import Derived.ShutString
import Derived.ChangeOld
import Derived.SizedLaws
import Derived.Test.YtbodfhbicdciiaaGreatDoorTie
import Derived.Test.YtbodfhbicdciiaaGreatDoorCards
import Derived.LaidMore
import Derived.Lay
import Derived.SevenTiedAt
import Derived.Stop.Joined
import Derived.JoinedOf
import Derived.OpenVars
import Derived.ChangeVars
import Derived.Test.YtbodfhbicdciiaaGreatDoorA4
namespace Go.Proofs.YtbodfhbicdciiaaGreatDoor.fnExactTermRead
open Go.ChangeShapes Go.WideShapes Go.ChangeAt Go.RowKit
open Go.ChangeMaps (open_string shut_string)
set_option linter.unusedVariables false
theorem own : ownKnob Tryz.prog.godebug = none := by kernel_rfl
theorem laidOut : laidOutB Tryz.prog = true := by kernel_rfl
theorem opens_s : Pf.Opens Tryz.prog 9 fun us => ∃ s, us = [.str s] ∧ s.length ≤ 9223372036854775807 := Pf.opens_string Tryz.underlying9
theorem gk {W : World} (h : laidMetH Tryz.prog Rows.fnExactTermReadRow.laid W) : Pf.GK (Pf.worldFM W) W := by
  rw [MakeChecks.laidMetH_plain _ _ _ (by kernel_rfl)] at h
  obtain ⟨ps, ⟨_, _, _, _, _, _, _, _, _, _, ⟨_, _, _, _, _, _, _, _, _, _, ⟨g0, t0, cs0, fuel0, p0, q0, hg0, ht0, hv0, hd0, ⟨g1, t1, cs1, fuel1, p1, q1, hg1, ht1, hv1, hd1, ⟨g2, t2, cs2, fuel2, p2, q2, hg2, ht2, hv2, hd2, ⟨g3, t3, cs3, fuel3, p3, q3, hg3, ht3, hv3, hd3, _, _⟩, _⟩, _⟩, _⟩, _⟩, _⟩, _, _⟩ := h
  obtain rfl := Option.some.inj ((show Tryz.prog.globalNamed "internal/strconv.uint64pow10" = some 3 by kernel_rfl).symm.trans hg0)
  obtain rfl := Option.some.inj ((show Tryz.prog.globalNamed "strconv.ErrRange" = some 5 by kernel_rfl).symm.trans hg1)
  obtain rfl := Option.some.inj ((show Tryz.prog.globalNamed "strconv.ErrSyntax" = some 4 by kernel_rfl).symm.trans hg2)
  obtain rfl := Option.some.inj ((show Tryz.prog.globalNamed "loop.example/pinfold/impl.ownWords" = some 1 by kernel_rfl).symm.trans hg3)
  obtain rfl := Option.some.inj ((show (Tryz.prog.globals[5]?).map (·.type) = some 92 by kernel_rfl).symm.trans ht1)
  obtain rfl := Option.some.inj ((show (Tryz.prog.globals[4]?).map (·.type) = some 92 by kernel_rfl).symm.trans ht2)
  obtain rfl := Option.some.inj ((show (Tryz.prog.globals[1]?).map (·.type) = some 34 by kernel_rfl).symm.trans ht3)
  obtain rfl := Option.some.inj ((show (Tryz.prog.globals[3]?).map (·.type) = some 174 by kernel_rfl).symm.trans ht0)
  have hcs : cs0.toList = Lib.pow10Tab.map fun z => Value.int .u64 z := by
    have := Lib.cells_of_tab (k := .u64) (zs := Lib.pow10Tab) Tryz.underlying174 Tryz.underlying133 (by kernel_rfl) (by kernel_rfl) hd0
    rw [← this]
  have eg : Pf.gtab = Lib.pow10Tab := by decide
  have hsz : cs0.size = Pf.gtab.length := by
    have := congrArg List.length hcs
    rw [List.length_map, ← eg] at this
    simpa using this
  refine ⟨fun i hi => ?_, fun g v e => ?_, fun g hg => ?_, fun _ => ?_⟩
  · show W.cell? ⟨3, i, none⟩ = _
    rw [World.var?_cell hg0 hv0 i]
    have h1 : cs0[i]? = cs0.toList[i]? := by simp
    rw [h1, hcs, ← eg, List.getElem?_map, List.getElem?_eq_getElem hi, List.getD_eq_getElem?_getD, List.getElem?_eq_getElem hi]
    rfl
  · have hv := Pf.open_strs Tryz.underlying34 Tryz.underlying9 (by kernel_rfl) (ws := Pf.ownW) (by decide) hd3
    obtain ⟨c, hc, hc2⟩ := Pf.var_one hg3 hv3 hv
    have e1 : g = 1 ∧ v = .fz 6 fun i => [.str (Pf.ownW.getD i [])] := by
      simp only [Pf.gval] at e
      split at e
      · rename_i hb
        exact ⟨Nat.eq_of_beq_eq_true hb, (Option.some.inj e).symm⟩
      · cases e
    obtain ⟨rfl, rfl⟩ := e1
    exact ⟨c, hc, hc2⟩
  · simp only [Pf.gerr, List.mem_cons, List.not_mem_nil, or_false] at hg
    rcases hg with rfl | rfl
    · obtain ⟨u, v, e⟩ := Pf.iface_of Tryz.underlying92 hd2
      exact Pf.var_iface hg2 hv2 e
    · obtain ⟨u, v, e⟩ := Pf.iface_of Tryz.underlying92 hd1
      exact Pf.var_iface hg1 hv1 e
  · have hv := hv0
    simp only [World.var?, hg0, Option.bind_some] at hv
    split at hv
    · rename_i cs el fr hh
      cases hv
      exact ⟨_, el, fr, hh, hsz⟩
    · cases hv
set_option maxRecDepth 100000 in
theorem lifted (os : Os) (started : os.Started) (H : Type) (enc : TypeId × Value → H) :
    ReturnsInHanded {} Tryz.checked os 3 .any (fun w args => (Rows.fnExactTermReadSpec.pre enc Tryz.prog Tryz.f3 Rows.fnExactTermReadRow.domain false w args ∧ laidMetH Tryz.prog Rows.fnExactTermReadRow.laid w) ∧ sizedMet enc Tryz.prog Tryz.f3 (OpenSpec.ofChange Rows.fnExactTermReadSpec) false w args) (Rows.fnExactTermReadSpec.post enc Tryz.prog Tryz.f3 false true false false) := by
  refine returnsInHanded_of_change_and (C := Tryz.checked) (X := fun w _ => laidMetH Tryz.prog Rows.fnExactTermReadRow.laid w) (fun _ _ _ hh h => h.of_heap hh) own started (by kernel_rfl) Tryz.func3
    (ChangeSpec.witness_shaped (enc := enc) (C := Tryz.checked) (os := os) (X := fun w _ => laidMetH Tryz.prog Rows.fnExactTermReadRow.laid w) false (World.laidAll Tryz.prog os Rows.fnExactTermReadRow.laid) #[.string .empty] 8 (World.laidAll_os _ _ _)
      (World.shaped_of_ZipB (by kernel_rfl) (by kernel_rfl)) (by kernel_rfl) (by kernel_rfl) (by kernel_rfl)
      (by rw [MakeChecks.laidMetH_plain _ _ _ (by kernel_rfl)]; exact laidMet_laidAll _ (by kernel_rfl) (by kernel_rfl))) ?_
  intro W base args ds gs before hval0 hW hcnd hsz0 hL _
  have hval : ∀ (j : Nat) t v, Tryz.f3.params[j]? = some t → args[j]? = some v → Value.okWide Tryz.prog W .any base t v := hval0
  have hW' := hW
  obtain ⟨p, q, hA0, hV, rfl, hfz, hnd⟩ := hW
  have hA : DataW.TrodAll enc Tryz.prog W 0 (fun _ => true) true Tryz.f3.params.toList args.toList ds p := hA0
  rw [Tryz.params3] at hA hval
  obtain ⟨v0, vs0, d0, ds0, p0, q0, hargs0, rfl, rfl, h0, r0⟩ := trodAll_cons hA
  obtain ⟨rfl, rfl, rfl⟩ := trodAll_nil r0
  obtain rfl : args = #[v0] := by cases args; simp_all
  obtain ⟨gv, tv, csv, fuelv, dv, pv, rfl, hgv, htv, hvarv, hvt, hq⟩ := trodVars_one hV
  obtain ⟨b0, rfl⟩ := okWide_string Tryz.underlying9 (hval 0 9 v0 rfl rfl)
  have k0 := h0
  have lt0 : ∀ x ∈ p0, x.block < W.heap.size := by obtain ⟨m, hm⟩ := k0; exact DataW.trod_lt m _ _ _ hm
  obtain ⟨as0, ⟨t0, e0, hb0⟩, hv0⟩ := opens_s.one h0 (fun xs h => by cases h)
  obtain rfl : as0 = .str t0 := by simpa using e0
  clear hA0 hval0 hsz0
  refine (Pf.AFunP.calls (Pf.fnTermRead_law t0 hb0) (.single hv0) (gk hL)).mono fun e W' ⟨he, bel⟩ => ?_
  subst he
  exact ⟨_, rfl, _, _, _, [], _, _, hW', trodAll_mk1 (shut_bool Tryz.underlying4 _), (trodAll_cons_mk (Below.trod laidOut (by kernel_rfl) (of_decide_eq_true (by kernel_rfl)) k0 bel lt0) trodAll_mk0), Below.trodVars laidOut bel (by kernel_rfl) hV, bel.frame _, fun h => by cases h⟩
theorem over : Rows.fnExactTermReadRow.holds Tryz.pinned (OpenSpec.ofChange Rows.fnExactTermReadSpec) :=
  OpenClaim.holds_of_wide 3 Tryz.f3 rfl rfl rfl rfl rfl rfl rfl ⟨rfl, rfl, rfl, rfl, rfl⟩ rfl rfl rfl rfl rfl (by kernel_rfl) Tryz.func3 (by kernel_rfl)
    (of_decide_eq_true (by kernel_rfl)) (by unfold Func.isWrapper; first | (rw [if_pos (by decide +kernel)]; kernel_rfl) | (rw [if_neg (by decide +kernel)]; exact ⟨rfl, rfl⟩))
    (fun os started H enc _ => lifted os started H enc)
theorem proved : Rows.FnExactTermReadCardSaid :=
  Claim7.holds_tied_plain_at .later [] [.data, .data, .data, .sentinel, .sentinel, .widerDeep] true (true, "4a89f5e7a8570e22eeb0666524d19a7b4bf47c47c3696f0c53c46eab6cbcf367") true over (fun _ h => by cases h) (by kernel_rfl) (fun _ h => by cases h) fnExactTermRead_row_tie rfl ⟨rfl, rfl⟩ (by kernel_rfl) rfl
    (fun f fn hf hfn => by
      obtain rfl : f = 3 := Option.some.inj ((show Tryz.prog.funcNamed "loop.example/pinfold/laws.FnExactTermRead" = some 3 by kernel_rfl).symm.trans hf) |>.symm
      obtain rfl : fn = Tryz.f3 := (Option.some.inj (Tryz.func3.symm.trans hfn)).symm
      exact ⟨by kernel_rfl, fun j t ht => by
        rw [Tryz.params3] at ht
        have hm : t ∈ [9] := by
          have := Array.mem_of_getElem? ht
          simp only [List.mem_toArray, List.mem_cons, List.not_mem_nil, or_false] at this ⊢
          exact this
        have hall : ([9].all fun u => !Tryz.prog.wantsStandIn u) = true := by kernel_rfl
        exact (show Tryz.prog.wantsStandIn t = false by simpa using List.all_eq_true.1 hall t hm)⟩)
    (by kernel_rfl)
#print axioms proved
end Go.Proofs.YtbodfhbicdciiaaGreatDoor.fnExactTermRead
