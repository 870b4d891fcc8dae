import Derived.Test.YtaojkmalpihmbaaGreatDoorMRB
import Derived.Deep.RegionLaw
namespace Go.Proofs.YtaojkmalpihmbaaGreatDoor.M
open Go.RowKit Go.Proofs.YtaojkmalpihmbaaGreatDoorW.PrintWords Go.Proofs.YtaojkmalpihmbaaGreatDoorW.PrintLast Go.Proofs.YtaojkmalpihmbaaGreatDoorW.PrintMore Go.Proofs.YtaojkmalpihmbaaGreatDoor.Q
set_option linter.unusedVariables false
set_option linter.unusedSimpArgs false

/-! The document's Ends. -/
/-- An element of a row of lists: where it lies, and that it is own. -/
theorem rows_elem {w : World} {base : Nat} {v : Value} {Os : List (List Int)} (h : Kd.R kLists 23 w base (fun _ => True) v Os) {j : Nat} {l : List Int} (hx : Os[j]? = some l) :
    ∃ g c A' c', v = .slice (some ⟨g, 0, none⟩) Os.length c ∧ w.cell? ⟨g, j, none⟩ = some (.slice A' l.length c') ∧ OwnR w base l (.slice A' l.length c') := by
  obtain ⟨_, inner, ho, hr⟩ := h
  have hjl := (List.getElem?_eq_some_iff.1 hx).1
  obtain ⟨g, cap, rfl, hb, hg⟩ := ho.form (by omega)
  obtain ⟨v', hcs, hrv⟩ := hr.2 j l hx
  have hcs' : (inner.drop (j * 1)).take 1 = [v'] := hcs
  obtain ⟨A', c', rfl⟩ := Kd.R_slice hrv
  have hi0 : inner[j]? = some (.slice A' l.length c') := by
    have := congrArg (fun l => l[0]?) hcs'
    simpa using this
  have hw := ho.cells (g := g) rfl
  exact ⟨g, cap, A', c', rfl, by have hq := hw _ _ hi0; rwa [show (⟨g, 0, none⟩ : Addr).add j = ⟨g, j, none⟩ from by cases j <;> simp [Addr.add]] at hq, Kd.R_mono hrv (fun _ _ => trivial)⟩
theorem runCGo_at_last (pl : List Int) : ∀ (mv pc : List Int), (runCGo pl pc mv)[mv.length]? = some (mv.foldl (fun pc m => movedC m pl pc) pc)
  | [], _ => rfl
  | m :: mv, pc => by simpa [runCGo] using runCGo_at_last pl mv (movedC m pl pc)
theorem runC_last (pl mv : List Int) : (runC pl mv)[mv.length]? = some (lastC pl mv) := runCGo_at_last pl mv _
section
variable {A0 A1 A2 : Option Addr} {c0 c1 c2 : Nat} {ms : List S64} {mv : List Int} {rs : List S66}
/-- Run, and its last row. -/
theorem refRun_last {w : World} (h : PR w A0 c0 ms A1 c1 mv A2 c2 rs) {A : Option Addr} {c : Nat} {pl : List Int} (hp : IR w A c pl) (ho : okPl pl) (hm : okMv mv) (hl : pl.length ≤ 100) (hv : mv.length ≤ 100) :
    Calls Tryz.prog 60 #[.agg #[.slice A0 ms.length c0, .slice A1 mv.length c1, .slice A2 rs.length c2], .slice A pl.length c] w fun e w' =>
      (∃ g cap Ae ce, e = .returned (.slice (some ⟨g, 0, none⟩) (mv.length + 1) cap) ∧ w'.cell? ⟨g, mv.length, none⟩ = some (.slice Ae (lastC pl mv).length ce) ∧ OwnR w' w.heap.size (lastC pl mv) (.slice Ae (lastC pl mv).length ce)) ∧ Below w.heap.size w w' := by
  refine (refRun_calls h hp ho hm hl hv).mono ?_
  rintro e w' ⟨⟨v, rfl, hr⟩, hb⟩
  obtain ⟨g, cap, Ae, ce, rfl, hcell, hown⟩ := rows_elem hr (runC_last pl mv)
  exact ⟨⟨g, cap, Ae, ce, by rw [runC_length], hcell, hown⟩, hb⟩
set_option maxHeartbeats 4000000 in
set_option maxRecDepth 100000 in
theorem refEnds_calls {w : World} (h : PR w A0 c0 ms A1 c1 mv A2 c2 rs) {A : Option Addr} {c : Nat} {L : List (List Int)} (hL : Kd.C kLists w A L.length L) (hc : L.length ≤ c) (hl : L.length ≤ 1000) (ho : ∀ pl ∈ L, okPl pl ∧ pl.length ≤ 100) (hm : okMv mv) (hv : mv.length ≤ 100) :
    Calls Tryz.prog 55 #[.agg #[.slice A0 ms.length c0, .slice A1 mv.length c1, .slice A2 rs.length c2], .slice A L.length c] w fun e w' =>
      (∃ v, e = .returned v ∧ Kd.R kLists 23 w' w.heap.size (fun _ => True) v (L.map fun pl => lastC pl mv)) ∧ Below w.heap.size w w' := by
  have H := Aside0.mk h
  have HL := Aside0.mk hL
  have HOP := Aside0.mk ho
  have HOM := Aside0.mk hm
  have HB0 := Aside0.mk (below_alloc (Below.refl w.heap.size w) (.cells #[.slice A0 ms.length c0, .slice A1 mv.length c1, .slice A2 rs.length c2] 26))
  have HK0 := Aside0.mk (Blk.new w #[.slice A0 ms.length c0, .slice A1 mv.length c1, .slice A2 rs.length c2] 26)
  clear h hL ho hm
  go_enter Tryz.func55, Tryz.ntmps55
  go_wp2
  go_loopg [5, 6] (L.length) (fun k v i wr => ∃ (j : Nat) (Os : List (List Int)), j + k = L.length ∧ i = .int .i64 j ∧ Os.length = j ∧ Aside0 (Os = (L.take j).map fun pl => lastC pl mv) ∧ Aside0 (Kd.R kLists 23 wr w.heap.size (fun _ => True) v Os) ∧ Below w.heap.size w wr ∧ Aside0 (Blk wr w.heap.size #[.slice A0 ms.length c0, .slice A1 mv.length c1, .slice A2 rs.length c2] 26))
  case atStart => exact ⟨0, [], by omega, rfl, rfl, ⟨by simp⟩, ⟨none_row _ _ _ _ _⟩, HB0.out, HK0⟩
  case round =>
    obtain ⟨j, Os, hj, rfl, hos, HOs, HV, hBr, HBK⟩ := hrel
    obtain ⟨Av, cv, rfl⟩ := Kd.R_slice HV.out
    have hj' : j ≤ L.length := by omega
    have HJ := Aside0.mk hj
    clear hj
    by_cases hlt : j < L.length
    · obtain ⟨l, hl9⟩ : ∃ l, L[j]? = some l := ⟨_, List.getElem?_eq_getElem hlt⟩
      obtain ⟨ad, Al, cl, rfl, hcell0, hcl, hcr⟩ := at_row HL.out hl9 hlt
      have hcell := pw_cell_below hBr hcell0
      obtain ⟨hol, hll⟩ := HOP.out l (List.mem_of_getElem? hl9)
      have HIR : Aside0 (IR wr Al cl l) := ⟨⟨Kd.C_below hcr hBr, hcl, by omega⟩⟩
      have HRN : Aside0 (∀ {u : World}, Below wr.heap.size wr u → Calls Tryz.prog 60 #[.agg #[.slice A0 ms.length c0, .slice A1 mv.length c1, .slice A2 rs.length c2], .slice Al l.length cl] u fun e w' =>
          (∃ g cap Ae ce, e = .returned (.slice (some ⟨g, 0, none⟩) (mv.length + 1) cap) ∧ w'.cell? ⟨g, mv.length, none⟩ = some (.slice Ae (lastC l mv).length ce) ∧ OwnR w' u.heap.size (lastC l mv) (.slice Ae (lastC l mv).length ce)) ∧ Below u.heap.size u w') :=
        ⟨fun {u} hu => refRun_last ((H.out.below hBr).below hu) (HIR.out.below hu) hol HOM.out hll hv⟩
      have HE := Aside0.mk hl9
      have hcellA : (wr.drew).cell? (ad.add j) = some (.slice Al l.length cl) := hcell
      have hk0 := HBK.out.drew.cell 0 rfl
      have hk1 := HBK.out.drew.cell 1 rfl
      have hk2 := HBK.out.drew.cell 2 rfl
      clear hcell0 hcl hcr hol hll hl9
      have hosl : Os.length ≤ 1000 := by omega
      have HO9 := Aside0.mk hos
      clear hos
      have hi1 : (mv.length : Int) < (mv.length : Int) + 1 := by omega
      have hi2 : (mv.length : Int) < ((mv.length + 1 : Nat) : Int) := by omega
      go_upto_region 5 with fail
      go_region_law (first | (go_simp; go_at_call 60; (with_reducible refine (HRN.out (below_drew1 (Below.refl _ _))).mono ?_); rintro e w2 ⟨⟨g2, cap2, Ae, ce, rfl, hcell2, hown2⟩, hb2⟩; have hk3 : w2.cell? ⟨w.heap.size, 1, none⟩ = some (.slice A1 mv.length c1) := (HBK.out.drew.below hb2).cell 1 rfl; have HBK2 := Aside0.mk (HBK.out.drew.below hb2); have HBx := Aside0.mk (bthen (w := wr) (below_drew1 (Below.refl _ _)) hb2); have HM2 := Aside0.mk (kLists_mk (Kd.R_bound (Kd.R_lower (base' := w.heap.size) hown2 hBr.size))); have HV2 := Aside0.mk (Kd.R_below HV.out HBx.out); have HB2 := Aside0.mk (hBr.trans (HBx.out.mono hBr.size)); clear hown2 hb2) | (refine Kd.R_append_step kLists (w0 := w) (W := w2) w.heap.size (by rfl) (.tmp 13) (.tmp 25) 30 23 (.slice none 0 0) 24 (by rfl) Tryz.underlying30 info23 rfl (by decide) (by decide) (.slice Av Os.length cv) Os (lastC l mv) [.slice Ae (lastC l mv).length ce] (fun _ => True) _ (by rfl) (by rfl) HM2.out ?hokp (fun _ _ => trivial) HV2.out HB2.out ?hb ?hl ?_; (case hokp => (intro k hk; exact ⟨trivial, ints_ne HV2.out hk⟩)); (case hb => exact below_size HB2.out); (case hl => omega); intro v1 w3 hr3 hb3 hg3 _; have HR3 := Aside0.mk hr3; have HB3 := Aside0.mk hb3; have HBK3 : Aside0 (Blk w3 w.heap.size #[.slice A0 ms.length c0, .slice A1 mv.length c1, .slice A2 rs.length c2] 26) := ⟨HBK2.out.grown hg3 (Kd.R_ne HV2.out HBK2.out (by decide))⟩; clear hr3 hb3 hg3))
      all_goals go_wp2
      all_goals go_roundg (gk - 1)
      all_goals first
        | exact ⟨j + 1, _, by have := HJ.out; omega, by go_num, by rw [List.length_append, HO9.out]; rfl, ⟨by rw [HOs.out, List.take_add_one, HE.out, List.map_append]; rfl⟩, HR3, HB3.out, HBK3⟩
        | (have := HJ.out; omega)
    · obtain rfl : j = L.length := by omega
      have HX : Aside0 (Os = L.map fun pl => lastC pl mv) := ⟨by rw [HOs.out, List.take_length]⟩
      have HO9 := Aside0.mk hos
      clear hos
      go_wp2
      go_ret
      exact ⟨⟨_, rfl, by rw [← HX.out]; exact HV.out⟩, hBr⟩
end
end Go.Proofs.YtaojkmalpihmbaaGreatDoor.M
