/- SlackDiffer's tied card: for every input the law returns true, and what came in reads as before; the conditions are the card's own: five tables of the library hold what the program's text lays. -/
import Derived.Test.YtaojkmalpihmbaaGreatDoorMXV
import Derived.Test.YtaojkmalpihmbaaGreatDoorB42
namespace Go.Proofs.YtaojkmalpihmbaaGreatDoor.M
open Go.ChangeShapes Go.WideShapes Go.ChangeAt Go.RowKit Go.Proofs.YtaojkmalpihmbaaGreatDoorW.PrintWords Go.Proofs.YtaojkmalpihmbaaGreatDoorW.PrintLast Go.Proofs.YtaojkmalpihmbaaGreatDoorW.PrintMore Go.Proofs.YtaojkmalpihmbaaGreatDoor.Q
set_option linter.unusedVariables false
set_option linter.unusedSimpArgs false

/-! Opening a hand. -/
section
variable {H : Type} {enc : TypeId × Value → H} {w : World} {base : Nat} {spare : Nat → Bool} {held : Bool} {fuel : Nat}
theorem el_spanK (n : Nat) (cs : List Value) (x : DataW H × List MemPlace) (h : DataW.trod enc Tryz.prog w base spare held n 44 cs = some x) : ∃ p : S44, k44.K w p cs := by
  obtain ⟨p, rfl⟩ := el_span n cs x h
  exact ⟨p, k44_mk w p⟩
theorem hand_of_trod {cs : List Value} {x : DataW H × List MemPlace} (h : DataW.trod enc Tryz.prog w base spare held fuel 52 cs = some x) :
    ∃ (a b c : Int) (A : Option Addr) (d : Nat) (l : List S44), cs = [.int .i64 a, .int .i64 b, .int .i64 c, .slice A l.length d] ∧ l.length ≤ d ∧ Kd.C k44 w A l.length l := by
  obtain ⟨xs, m, _, _, hl, hx, hf⟩ := DataW.trod_struct Tryz.underlying52 h
  have h0 := hf 0 _ rfl
  have h1 := hf 1 _ rfl
  have h2 := hf 2 _ rfl
  have h3 := hf 3 _ rfl
  rw [List.getElem?_eq_getElem (by rw [hx]; decide)] at h0 h1 h2 h3
  obtain ⟨a, e0, _⟩ := DataW.trod_int Tryz.underlying3 h0
  obtain ⟨b, e1, _⟩ := DataW.trod_int Tryz.underlying3 h1
  obtain ⟨c, e2, _⟩ := DataW.trod_int Tryz.underlying3 h2
  obtain ⟨A, d, l, e3, g3, k3⟩ := row_of_trod Tryz.underlying34 (d := k44) c44 el_spanK h3
  have ds : Tryz.prog.cellsOf 34 = 1 := by kernel_rfl
  have dh : Tryz.prog.cellsOf 52 = 4 := by kernel_rfl
  replace e0 : (cs.drop 0).take (Tryz.prog.cellsOf 3) = [.int .i64 a] := e0
  replace e1 : (cs.drop 1).take (Tryz.prog.cellsOf 3) = [.int .i64 b] := e1
  replace e2 : (cs.drop 2).take (Tryz.prog.cellsOf 3) = [.int .i64 c] := e2
  replace e3 : (cs.drop 3).take (Tryz.prog.cellsOf 34) = [.slice A l.length d] := e3
  rw [c3] at e0 e1 e2
  rw [ds] at e3
  rw [dh] at hl
  obtain ⟨u, v, y, z, rfl⟩ := len4 hl
  simp at e0 e1 e2 e3
  subst e0 e1 e2 e3
  exact ⟨a, b, c, A, d, l, rfl, g3, k3⟩
end
end Go.Proofs.YtaojkmalpihmbaaGreatDoor.M
namespace Go.Proofs.YtaojkmalpihmbaaGreatDoor.M
open Go.ChangeShapes Go.WideShapes Go.ChangeAt Go.RowKit Go.Proofs.YtaojkmalpihmbaaGreatDoorW.PrintWords Go.Proofs.YtaojkmalpihmbaaGreatDoorW.PrintLast Go.Proofs.YtaojkmalpihmbaaGreatDoorW.PrintMore Go.Proofs.YtaojkmalpihmbaaGreatDoor.Q
set_option linter.unusedVariables false
set_option linter.unusedSimpArgs false

/-! The row of SlackDiffer. -/
theorem differ_card_of (hh : Rows.SlackDifferSaid) : Rows.SlackDifferCardSaid :=
  Claim7.holds_tied_plain_at .later [] [.data, .data, .data, .data, .pinned] true (true, "388f5c6d1a5f59d116c8459f75d65127e3f827dedd0d7c772f9ac7db5e549341") true hh (fun _ h => by cases h) (by kernel_rfl) (fun _ h => by cases h) slackDiffer_row_tie rfl ⟨rfl, rfl⟩ (by kernel_rfl) rfl
    (fun f fn hf hfn => by
      obtain rfl : f = 9 := Option.some.inj ((show Tryz.prog.funcNamed "tellurion/tellurionlaw03.SlackDiffer" = some 9 by kernel_rfl).symm.trans hf) |>.symm
      obtain rfl : fn = Tryz.f9 := (Option.some.inj (Tryz.func9.symm.trans hfn)).symm
      exact ⟨by kernel_rfl, fun j t ht => by
        rw [Tryz.params9] at ht
        have hm : t ∈ [26, 52, 52, 23] := by simpa using Array.mem_of_getElem? ht
        have hall : ([26, 52, 52, 23].all fun u => !Tryz.prog.wantsStandIn u) = true := by kernel_rfl
        exact (show Tryz.prog.wantsStandIn t = false by simpa using List.all_eq_true.1 hall t hm)⟩)
    (by kernel_rfl)
set_option maxRecDepth 100000 in
theorem differ_lifted (os : Os) (started : os.Started) (H : Type) (enc : TypeId × Value → H) :
    ReturnsInHanded {} Tryz.checked os 9 .any (fun w args => (Rows.slackDifferSpec.pre enc Tryz.prog Tryz.f9 Rows.slackDifferRow.domain false w args ∧ laidMetH Tryz.prog laidL w) ∧ sizedMet enc Tryz.prog Tryz.f9 (OpenSpec.ofChange Rows.slackDifferSpec) false w args)
      (Rows.slackDifferSpec.post enc Tryz.prog Tryz.f9 false true false false) := by
  refine handed_and_shaped (C := Tryz.checked) (X := fun w _ => laidMetH Tryz.prog laidL w) (fun _ _ _ hh h => h.of_heap hh) own started (by kernel_rfl) Tryz.func9
    (ChangeSpec.witness_shaped (enc := enc) (C := Tryz.checked) (os := os) (X := fun w _ => laidMetH Tryz.prog laidL w) false (World.laidAll Tryz.prog os laidL) #[.agg #[.slice none 0 0, .slice none 0 0, .slice none 0 0], .agg #[.int .i64 0, .int .i64 0, .int .i64 0, .slice none 0 0], .agg #[.int .i64 0, .int .i64 0, .int .i64 0, .slice none 0 0], .slice none 0 0] 8 (World.laidAll_os _ _ _)
      (World.shaped_of_ZipB (by kernel_rfl) (by kernel_rfl)) (by kernel_rfl) (by kernel_rfl) (by kernel_rfl)
      (by rw [MakeChecks.laidMetH_plain _ _ _ (by kernel_rfl)]; exact laidMet_laidAll _ (by kernel_rfl) (by kernel_rfl))) ?_
  intro W base args ds gs before hval0 hW _ _ hsh
  have hval : ∀ (j : Nat) t v, Tryz.f9.params[j]? = some t → args[j]? = some v → Value.okWide Tryz.prog W .any base t v := hval0
  have hW' := hW
  obtain ⟨p, q, hA0, hV, rfl, _, _⟩ := hW
  have hA : DataW.TrodAll enc Tryz.prog W 0 (fun _ => true) true Tryz.f9.params.toList args.toList ds p := hA0
  rw [Tryz.params9] at hA hval
  obtain ⟨v0, vs0, d0, ds0, p0, q0, ha0, rfl, rfl, h0, hr0⟩ := trodAll_cons hA
  obtain ⟨v1, vs1, d1, ds1, p1, q1, rfl, rfl, rfl, h1, hr1⟩ := trodAll_cons hr0
  obtain ⟨v2, vs2, d2, ds2, p2, q2, rfl, rfl, rfl, h2, hr2⟩ := trodAll_cons hr1
  obtain ⟨v3, vs3, d3, ds3, p3, q3, rfl, rfl, rfl, h3, hr3⟩ := trodAll_cons hr2
  obtain ⟨rfl, rfl, rfl⟩ := trodAll_nil hr3
  obtain rfl : args = #[v0, v1, v2, v3] := by cases args; simp_all
  obtain ⟨rfl, rfl⟩ := trodVars_none hV
  obtain ⟨cs0, rfl, _⟩ := okWide_struct Tryz.underlying26 (hval 0 26 v0 rfl rfl)
  obtain ⟨cs1, rfl, _⟩ := okWide_struct Tryz.underlying52 (hval 1 52 v1 rfl rfl)
  obtain ⟨cs2, rfl, _⟩ := okWide_struct Tryz.underlying52 (hval 2 52 v2 rfl rfl)
  obtain ⟨a3, len3, cap3, rfl⟩ := okWide_slice Tryz.underlying23 (hval 3 23 v3 rfl rfl)
  have k0 := h0
  have k1 := h1
  have k2 := h2
  have k3 := h3
  have lt0 : ∀ x ∈ p0, x.block < W.heap.size := by obtain ⟨m, hm⟩ := k0; exact DataW.trod_lt m _ _ _ hm
  have lt1 : ∀ x ∈ p1, x.block < W.heap.size := by obtain ⟨m, hm⟩ := k1; exact DataW.trod_lt m _ _ _ hm
  have lt2 : ∀ x ∈ p2, x.block < W.heap.size := by obtain ⟨m, hm⟩ := k2; exact DataW.trod_lt m _ _ _ hm
  have lt3 : ∀ x ∈ p3, x.block < W.heap.size := by obtain ⟨m, hm⟩ := k3; exact DataW.trod_lt m _ _ _ hm
  obtain ⟨f0, e0⟩ := h0
  obtain ⟨A0, c0, ms, A1, c1, mv, A2, c2, rs, hcs, hPQ⟩ := piece_of_trod e0
  obtain ⟨f1, e1⟩ := h1
  obtain ⟨x1, y1, z1, A1', c1', l1, hcs1, hpc1, hpl1⟩ := hand_of_trod e1
  obtain ⟨f2, e2⟩ := h2
  obtain ⟨x2, y2, z2, A2', c2', l2, hcs2, hpc2, hpl2⟩ := hand_of_trod e2
  obtain ⟨f3, e3⟩ := h3
  obtain ⟨A3', c3', l3, hcs3, hpc3, hpl3⟩ := ints_of_trod e3
  have hcs' : cs0.toList = [.slice A0 ms.length c0, .slice A1 mv.length c1, .slice A2 rs.length c2] := hcs
  obtain rfl : cs0 = #[.slice A0 ms.length c0, .slice A1 mv.length c1, .slice A2 rs.length c2] := by
    cases cs0
    simpa using hcs'
  have hcs1' : cs1.toList = [.int .i64 x1, .int .i64 y1, .int .i64 z1, .slice A1' l1.length c1'] := hcs1
  obtain rfl : cs1 = #[.int .i64 x1, .int .i64 y1, .int .i64 z1, .slice A1' l1.length c1'] := by
    cases cs1
    simpa using hcs1'
  have hcs2' : cs2.toList = [.int .i64 x2, .int .i64 y2, .int .i64 z2, .slice A2' l2.length c2'] := hcs2
  obtain rfl : cs2 = #[.int .i64 x2, .int .i64 y2, .int .i64 z2, .slice A2' l2.length c2'] := by
    cases cs2
    simpa using hcs2'
  have hcs3' : [Value.slice a3 len3 cap3] = [.slice A3' l3.length c3'] := hcs3
  simp only [List.cons.injEq, Value.slice.injEq, and_true] at hcs3'
  obtain ⟨rfl, rfl, rfl⟩ := hcs3'
  clear hA0 hval0 hcs hcs' hcs1 hcs1' hcs2 hcs2' hcs3 e0 e1 e2 e3
  refine (differ_calls (libW_of hsh) hPQ x1 y1 z1 hpl1 hpc1 x2 y2 z2 hpl2 hpc2 hpl3 hpc3).mono fun e W' ⟨he, bel⟩ => ?_
  subst he
  exact ⟨_, rfl, _, _, _, [], _, [], hW', trodAll_mk1 (shut_bool Tryz.underlying4 _), (trodAll_cons_mk (Below.trod laidOut (by kernel_rfl) (of_decide_eq_true (by kernel_rfl)) k0 bel lt0) (trodAll_cons_mk (Below.trod laidOut (by kernel_rfl) (of_decide_eq_true (by kernel_rfl)) k1 bel lt1) (trodAll_cons_mk (Below.trod laidOut (by kernel_rfl) (of_decide_eq_true (by kernel_rfl)) k2 bel lt2) (trodAll_cons_mk (Below.trod laidOut (by kernel_rfl) (of_decide_eq_true (by kernel_rfl)) k3 bel lt3) trodAll_mk0)))), rfl, bel.frame _, fun h => by cases h⟩
theorem differ_holds : Rows.SlackDifferSaid :=
  OpenClaim.holds_of_wide 9 Tryz.f9 rfl rfl rfl rfl rfl rfl rfl ⟨rfl, rfl, rfl, rfl, rfl⟩ rfl rfl rfl rfl rfl (by kernel_rfl) Tryz.func9 (by kernel_rfl)
    (of_decide_eq_true (by kernel_rfl)) (by unfold Func.isWrapper; first | (rw [if_pos (by decide +kernel)]; kernel_rfl) | (rw [if_neg (by decide +kernel)]; exact ⟨rfl, rfl⟩))
    (fun os started H enc _ => differ_lifted os started H enc)
theorem differ_card : Rows.SlackDifferCardSaid := differ_card_of differ_holds
end Go.Proofs.YtaojkmalpihmbaaGreatDoor.M
namespace Go.Proofs.YtaojkmalpihmbaaGreatDoor
theorem slackDiffer_card_holds : Rows.SlackDifferCardSaid := M.differ_card
#print axioms slackDiffer_card_holds
end Go.Proofs.YtaojkmalpihmbaaGreatDoor
