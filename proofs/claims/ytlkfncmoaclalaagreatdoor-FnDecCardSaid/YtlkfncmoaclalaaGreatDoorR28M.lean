/- The law FnDec returns true for every input, and each argument reads behind the call as it read before. -/
import Derived.Test.YtlkfncmoaclalaaGreatDoorRows
import Derived.WalkKit
import Derived.ProofKit
import Derived.OpenShut
import Derived.ShutString
import Derived.ChangeOld
import Derived.SizedLaws
import Derived.Test.YtlkfncmoaclalaaGreatDoorTie
import Derived.Test.YtlkfncmoaclalaaGreatDoorCards
import Derived.LaidMore
import Derived.Lay
import Derived.SevenTiedAt
import Derived.Stop.Joined
import Derived.JoinedOf
import Derived.Test.YtlkfncmoaclalaaGreatDoorA4
namespace Go.Proofs.YtlkfncmoaclalaaGreatDoor.fnDec
open Go.ChangeShapes Go.WideShapes Go.ChangeAt Go.RowKit
open Go.ChangeMaps (open_string shut_string)
set_option linter.unusedVariables false
theorem own : ownKnob Tryz.prog.godebug = none := by kernel_rfl
theorem laidOut : laidOutB Tryz.prog = true := by kernel_rfl
theorem opens_bytes : Pf.Opens Tryz.prog 22 fun us => ∃ l : List Int, us = [.fi .u8 l] ∧ (l.length ≤ 9223372036854775807 ∧ ∀ n ∈ l, Pf.InK .u8 n) :=
  Pf.opens_ints Tryz.underlying22 Tryz.underlying5 (by kernel_rfl)
theorem bytes {l : List Int} (h : ∀ n ∈ l, Pf.InK .u8 n) : ∀ x ∈ l, 0 ≤ x ∧ x ≤ 255 := fun x hx => by
  have := h x hx
  simpa [Pf.InK, IntKind.min, IntKind.max, IntKind.signed, IntKind.bits] using this
theorem gk {W : World} (h : laidMetH Tryz.prog Rows.fnDecRow.laid W) : Pf.GK (Pf.worldFM W) W := by
  rw [MakeChecks.laidMetH_plain _ _ _ (by kernel_rfl)] at h
  obtain ⟨ps, ⟨_, _, _, _, _, _, _, _, _, _, ⟨_, _, _, _, _, _, _, _, _, _, ⟨g0, t0, cs0, fuel0, p0, q0, hg0, ht0, hv0, hd0, ⟨g1, t1, cs1, fuel1, p1, q1, hg1, ht1, hv1, hd1, ⟨g2, t2, cs2, fuel2, p2, q2, hg2, ht2, hv2, hd2, _, _⟩, _⟩, _⟩, _⟩, _⟩, _, _⟩ := h
  obtain rfl := Option.some.inj ((show Tryz.prog.globalNamed "internal/strconv.uint64pow10" = some 4 by kernel_rfl).symm.trans hg0)
  obtain rfl := Option.some.inj ((show Tryz.prog.globalNamed "strconv.ErrRange" = some 3 by kernel_rfl).symm.trans hg1)
  obtain rfl := Option.some.inj ((show Tryz.prog.globalNamed "strconv.ErrSyntax" = some 2 by kernel_rfl).symm.trans hg2)
  obtain rfl := Option.some.inj ((show (Tryz.prog.globals[4]?).map (·.type) = some 184 by kernel_rfl).symm.trans ht0)
  obtain rfl := Option.some.inj ((show (Tryz.prog.globals[3]?).map (·.type) = some 94 by kernel_rfl).symm.trans ht1)
  obtain rfl := Option.some.inj ((show (Tryz.prog.globals[2]?).map (·.type) = some 94 by kernel_rfl).symm.trans ht2)
  have hcs : cs0.toList = Lib.pow10Tab.map fun z => Value.int .u64 z := by
    have := Lib.cells_of_tab (k := .u64) (zs := Lib.pow10Tab) Tryz.underlying184 Tryz.underlying67 (by kernel_rfl) (by kernel_rfl) hd0
    rw [← this]
  have eg : Pf.gtab = Lib.pow10Tab := by decide
  have hsz : cs0.size = Pf.gtab.length := by
    have := congrArg List.length hcs
    rw [List.length_map, ← eg] at this
    simpa using this
  refine ⟨fun i hi => ?_, fun g v e => (by simp [Pf.gval] at e), fun g hg => ?_, fun _ => ?_⟩
  · show W.cell? ⟨4, i, none⟩ = _
    rw [World.var?_cell hg0 hv0 i]
    have h1 : cs0[i]? = cs0.toList[i]? := by simp
    rw [h1, hcs, ← eg, List.getElem?_map, List.getElem?_eq_getElem hi, List.getD_eq_getElem?_getD, List.getElem?_eq_getElem hi]
    rfl
  · simp only [Pf.gerr, List.mem_cons, List.not_mem_nil, or_false] at hg
    rcases hg with rfl | rfl
    · obtain ⟨u, v, e⟩ := Pf.iface_of Tryz.underlying94 hd2
      exact Pf.var_iface hg2 hv2 e
    · obtain ⟨u, v, e⟩ := Pf.iface_of Tryz.underlying94 hd1
      exact Pf.var_iface hg1 hv1 e
  · have hv := hv0
    simp only [World.var?, hg0, Option.bind_some] at hv
    split at hv
    · rename_i cs el fr hh
      cases hv
      exact ⟨_, el, fr, hh, hsz⟩
    · cases hv
set_option maxRecDepth 100000 in
theorem lifted (os : Os) (started : os.Started) (H : Type) (enc : TypeId × Value → H) :
    ReturnsInHanded {} Tryz.checked os 3 .any (fun w args => (Rows.fnDecSpec.pre enc Tryz.prog Tryz.f3 Rows.fnDecRow.domain false w args ∧ laidMetH Tryz.prog Rows.fnDecRow.laid w) ∧ sizedMet enc Tryz.prog Tryz.f3 (OpenSpec.ofChange Rows.fnDecSpec) false w args) (Rows.fnDecSpec.post enc Tryz.prog Tryz.f3 false true false false) := by
  refine returnsInHanded_of_change_and (C := Tryz.checked) (X := fun w _ => laidMetH Tryz.prog Rows.fnDecRow.laid w) (fun _ _ _ hh h => h.of_heap hh) own started (by kernel_rfl) Tryz.func3
    (ChangeSpec.witness_shaped (enc := enc) (C := Tryz.checked) (os := os) (X := fun w _ => laidMetH Tryz.prog Rows.fnDecRow.laid w) false (World.laidAll Tryz.prog os Rows.fnDecRow.laid) #[.slice none 0 0] 8 (World.laidAll_os _ _ _)
      (World.shaped_of_ZipB (by kernel_rfl) (by kernel_rfl)) (by kernel_rfl) (by kernel_rfl) (by kernel_rfl)
      (by rw [MakeChecks.laidMetH_plain _ _ _ (by kernel_rfl)]; exact laidMet_laidAll _ (by kernel_rfl) (by kernel_rfl))) ?_
  intro W base args ds gs before hval0 hW hcnd hsz0 hL _
  have hval : ∀ (j : Nat) t v, Tryz.f3.params[j]? = some t → args[j]? = some v → Value.okWide Tryz.prog W .any base t v := hval0
  have hW' := hW
  obtain ⟨p, q, hA0, hV, rfl, hfz, hnd⟩ := hW
  have hA : DataW.TrodAll enc Tryz.prog W 0 (fun _ => true) true Tryz.f3.params.toList args.toList ds p := hA0
  rw [Tryz.params3] at hA hval
  obtain ⟨v0, vs0, d0, ds0, p0, q0, hargs0, rfl, rfl, h0, r0⟩ := trodAll_cons hA
  obtain ⟨rfl, rfl, rfl⟩ := trodAll_nil r0
  obtain rfl : args = #[v0] := by cases args; simp_all
  obtain ⟨rfl, rfl⟩ := trodVars_none hV
  obtain ⟨a0, len0, cap0, rfl⟩ := okWide_slice Tryz.underlying22 (hval 0 22 v0 rfl rfl)
  have k0 := h0
  have lt0 : ∀ x ∈ p0, x.block < W.heap.size := by obtain ⟨m, hm⟩ := k0; exact DataW.trod_lt m _ _ _ hm
  obtain ⟨as0, ⟨l0, e0, hl0, hb0⟩, hv0⟩ := opens_bytes.one h0 (fun xs h => by cases h)
  obtain rfl : as0 = .fi .u8 l0 := by simpa using e0
  clear hA0 hval0 hsz0
  refine (Pf.AFunP.calls (Pf.fnDec_law l0 (bytes hb0)) (.single hv0) (gk hL)).mono fun e W' ⟨he, bel⟩ => ?_
  subst he
  exact ⟨_, rfl, _, _, _, [], _, [], hW', trodAll_mk1 (shut_bool Tryz.underlying4 _), (trodAll_cons_mk (Below.trod laidOut (by kernel_rfl) (of_decide_eq_true (by kernel_rfl)) k0 bel lt0) trodAll_mk0), rfl, bel.frame _, fun h => by cases h⟩
theorem over : Rows.fnDecRow.holds Tryz.pinned (OpenSpec.ofChange Rows.fnDecSpec) :=
  OpenClaim.holds_of_wide 3 Tryz.f3 rfl rfl rfl rfl rfl rfl rfl ⟨rfl, rfl, rfl, rfl, rfl⟩ rfl rfl rfl rfl rfl (by kernel_rfl) Tryz.func3 (by kernel_rfl)
    (of_decide_eq_true (by kernel_rfl)) (by unfold Func.isWrapper; first | (rw [if_pos (by decide +kernel)]; kernel_rfl) | (rw [if_neg (by decide +kernel)]; exact ⟨rfl, rfl⟩))
    (fun os started H enc _ => lifted os started H enc)
theorem proved : Rows.FnDecCardSaid :=
  Claim7.holds_tied_plain_at .later [] [.data, .data, .data, .sentinel, .sentinel] true (true, "ea9229c03f36800da569d37f7b7f28d54186b47a22b2f46e284e11e5013557d2") true over (fun _ h => by cases h) (by kernel_rfl) (fun _ h => by cases h) fnDec_row_tie rfl ⟨rfl, rfl⟩ (by kernel_rfl) rfl
    (fun f fn hf hfn => by
      obtain rfl : f = 3 := Option.some.inj ((show Tryz.prog.funcNamed "loop.example/pinfold/laws.FnDec" = some 3 by kernel_rfl).symm.trans hf) |>.symm
      obtain rfl : fn = Tryz.f3 := (Option.some.inj (Tryz.func3.symm.trans hfn)).symm
      exact ⟨by kernel_rfl, fun j t ht => by
        rw [Tryz.params3] at ht
        have hm : t ∈ [22] := by
          have := Array.mem_of_getElem? ht
          simp at this ⊢
          omega
        have hall : ([22].all fun u => !Tryz.prog.wantsStandIn u) = true := by kernel_rfl
        exact (show Tryz.prog.wantsStandIn t = false by simpa using List.all_eq_true.1 hall t hm)⟩)
    (by kernel_rfl)
#print axioms proved
end Go.Proofs.YtlkfncmoaclalaaGreatDoor.fnDec
