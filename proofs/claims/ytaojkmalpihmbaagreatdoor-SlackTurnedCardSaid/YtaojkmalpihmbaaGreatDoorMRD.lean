import Derived.Test.YtaojkmalpihmbaaGreatDoorMRC
import Derived.Test.YtaojkmalpihmbaaGreatDoorB42
import Derived.Deep.RegionHeld3
namespace Go.Proofs.YtaojkmalpihmbaaGreatDoor.M
open Go.RowKit Go.Proofs.YtaojkmalpihmbaaGreatDoorW.PrintWords Go.Proofs.YtaojkmalpihmbaaGreatDoorW.PrintLast Go.Proofs.YtaojkmalpihmbaaGreatDoorW.PrintMore Go.Proofs.YtaojkmalpihmbaaGreatDoor.Q
set_option linter.unusedVariables false
set_option linter.unusedSimpArgs false

/-! The document's Fits. -/
theorem refIn_at (x a b : Int) (w : World) : Calls Tryz.prog 34 #[.int .i64 x, .int .i64 a, .int .i64 b] w fun e w' => e = .returned (.bool (inB x a b)) ∧ Below w.heap.size w w' := by
  refine (tellurionref03_in.calls x a b _ w (in_f x a b)).mono ?_
  rintro e w' ⟨rfl, hd⟩
  exact ⟨rfl, hd.below⟩
def fitAt (L : List (List Int)) (r : S66) : Bool := inB ((L.getD r.f0.toNat []).getD r.f1.toNat 0) (r.f2 - r.f3) (r.f2 + r.f3)
def fitB (rs : List S66) (pl mv : List Int) : Bool := !anyB (fun r => !fitAt (runC pl mv) r) rs
theorem liveGo_iff (rs : List S66) (Os : List (List Int)) : liveGo rs 0 Os = true ↔ ∀ (j : Nat) l, Os[j]? = some l → agreeB rs l (j : Nat) = true := by
  constructor
  · intro h j l hl
    rcases hb : agreeB rs l (j : Nat) with _ | _
    · have := liveGo_false rs Os 0 j l hl (by simpa using hb)
      rw [h] at this
      cases this
    · rfl
  · intro h
    exact liveGo_true rs Os 0 (fun j l hl => by simpa using h j l hl)
theorem piece_reading {ms : List S64} {mv : List Int} {rs : List S66} (h : pieceB ms mv rs = true) : ∀ r ∈ rs, (0 ≤ r.f0 ∧ r.f0 ≤ mv.length) ∧ (1 ≤ r.f1 ∧ r.f1 ≤ ms.length) ∧ (-5000 ≤ r.f2 ∧ r.f2 ≤ 5000) ∧ (0 ≤ r.f3 ∧ r.f3 ≤ 50) := by
  intro r hr
  simp only [pieceB, Bool.and_eq_true, Bool.not_eq_true', anyB, List.any_eq_false] at h
  have := h.2.2.2.2.2 r hr
  simp [readingBad, inB] at this
  omega
theorem live_fit {ms : List S64} {mv : List Int} {rs : List S66} {pl : List Int} (h : pieceB ms mv rs = true) (ho : okPl pl) (hl : pl.length = ms.length) : liveB rs pl mv = fitB rs pl mv := by
  obtain ⟨p1, p2, p3, _⟩ := piece_len h
  have hm := piece_okMv h
  have hrd := piece_reading h
  have hrun : runL pl mv = runC pl mv := runL_eq ho (by omega) hm (by omega)
  have hinv := runC_inv ho hm
  rw [Bool.eq_iff_iff, liveB, hrun, liveGo_iff]
  simp only [fitB, Bool.not_eq_true', anyB, List.any_eq_false, agreeB]
  have key : ∀ r ∈ rs, ∀ (j : Nat) l, (runC pl mv)[j]? = some l → r.f0 = j → (readAt l (j : Nat) r = fitAt (runC pl mv) r) := by
    intro r hr j l hlj hj
    have hb := hrd r hr
    have hi := hinv l (List.mem_of_getElem? hlj)
    have hln := hi.length
    obtain ⟨x, hx⟩ : ∃ x, l[r.f1.toNat]? = some x := ⟨_, List.getElem?_eq_getElem (by omega)⟩
    have hxb := hi.bound ho x (List.mem_of_getElem? hx)
    have e1 : (runC pl mv).getD r.f0.toNat [] = l := by rw [hj, Int.toNat_natCast, List.getD_eq_getElem?_getD, hlj]; rfl
    have e2 : l.getD r.f1.toNat 0 = x := by rw [List.getD_eq_getElem?_getD, hx]; rfl
    have e3 : readAt l (j : Nat) r = inB (wrap64 (x - r.f2)) (wrap64 (-r.f3)) r.f3 := by simp [readAt, hj, hx]
    have e4 : fitAt (runC pl mv) r = inB x (r.f2 - r.f3) (r.f2 + r.f3) := by unfold fitAt; rw [e1, e2]
    rw [e3, e4, wr_in (by omega) (by omega), wr_in (by omega) (by omega), Bool.eq_iff_iff]
    simp only [inB, Bool.and_eq_true, decide_eq_true_eq]
    omega
  constructor
  · intro hall r hr
    have hb := hrd r hr
    obtain ⟨j, hj⟩ : ∃ j : Nat, r.f0 = j := ⟨r.f0.toNat, by omega⟩
    obtain ⟨l, hlj⟩ : ∃ l, (runC pl mv)[j]? = some l := ⟨_, List.getElem?_eq_getElem (by rw [runC_length]; omega)⟩
    have h1 := hall j l hlj r hr
    rw [key r hr j l hlj hj] at h1
    exact h1
  · intro hall j l hlj r hr
    by_cases hj : r.f0 = (j : Int)
    · rw [key r hr j l hlj hj]
      exact hall r hr
    · have : (r.f0 == (j : Int)) = false := by simpa using hj
      simp [readAt, this]
section
variable {A0 A1 A2 : Option Addr} {c0 c1 c2 : Nat} {ms : List S64} {mv : List Int} {rs : List S66}
theorem plays_ok {pl : List Int} (hb : playsB ms pl = true) : okPl pl := by
  intro n hn
  simp only [playsB, Bool.and_eq_true, Bool.not_eq_true', anyB, List.any_eq_false] at hb
  have := hb.2 n hn
  simp [playBad, inB] at this
  omega
set_option maxHeartbeats 4000000 in
set_option maxRecDepth 100000 in
theorem refFits_calls {w : World} (h : PR w A0 c0 ms A1 c1 mv A2 c2 rs) {A : Option Addr} {c : Nat} {pl : List Int} (hp : IR w A c pl) (hok : pieceB ms mv rs = true) (ho : okPl pl) (hlm : pl.length = ms.length) :
    Calls Tryz.prog 26 #[.agg #[.slice A0 ms.length c0, .slice A1 mv.length c1, .slice A2 rs.length c2], .slice A pl.length c] w fun e w' => e = .returned (.bool (okB pl ms && fitB rs pl mv)) ∧ Below w.heap.size w w' := by
  obtain ⟨p1, p2, p3, p4⟩ := piece_len hok
  have H := Aside0.mk h
  have HP := Aside0.mk hp
  have HOP := Aside0.mk ho
  have HOM := Aside0.mk (piece_okMv hok)
  have HRD := Aside0.mk (piece_reading hok)
  have HLM := Aside0.mk hlm
  have hpl4 : pl.length ≤ 4 := by omega
  have HB0 := Aside0.mk (below_alloc (Below.refl w.heap.size w) (.cells #[.slice A0 ms.length c0, .slice A1 mv.length c1, .slice A2 rs.length c2] 26))
  have HK0 := Aside0.mk (Blk.new w #[.slice A0 ms.length c0, .slice A1 mv.length c1, .slice A2 rs.length c2] 26)
  have HW : Aside0 (∀ {u : World}, Below w.heap.size w u → Calls Tryz.prog 13 #[.agg #[.slice A0 ms.length c0, .slice A1 mv.length c1, .slice A2 rs.length c2], .slice A pl.length c] u fun e w' => e = .returned (.bool (okB pl ms)) ∧ Below u.heap.size u w') := ⟨fun {u} hu => within_at (h.below hu) (hp.below hu) hlm⟩
  clear h hp ho hok hlm
  rcases hb : okB pl ms with _ | _
  · have HV := Aside0.mk hb
    clear hb
    go_enter Tryz.func26, Tryz.ntmps26
    go_wp2_with (go_at_call 13; (with_reducible refine (HW.out HB0.out).mono ?_); rintro e w1 ⟨rfl, hb1⟩; rw [HV.out]; have HB1 := Aside0.mk (bthen HB0.out hb1); clear hb1)
    go_ret
    exact ⟨rfl, HB1.out⟩
  have HV := Aside0.mk hb
  clear hb
  simp only [Bool.true_and]
  have HRN : Aside0 (∀ {u : World}, Below w.heap.size w u → Calls Tryz.prog 60 #[.agg #[.slice A0 ms.length c0, .slice A1 mv.length c1, .slice A2 rs.length c2], .slice A pl.length c] u fun e w' =>
      (∃ Ar cr, e = .returned (.slice Ar (mv.length + 1) cr) ∧ Kd.C kLists w' Ar (mv.length + 1) (runC pl mv)) ∧ Below u.heap.size u w') := ⟨fun {u} hu => by
    refine (refRun_calls (H.out.below hu) (HP.out.below hu) HOP.out HOM.out (by omega) (by omega)).mono ?_
    rintro e w' ⟨⟨v, rfl, hr⟩, hb⟩
    obtain ⟨Ar, cr, rfl⟩ := Kd.R_slice hr
    obtain ⟨_, _, k0⟩ := Kd.R_reads' hr
    rw [runC_length] at k0
    exact ⟨⟨Ar, cr, by rw [runC_length], k0⟩, hb⟩⟩
  go_enter Tryz.func26, Tryz.ntmps26
  go_wp2_with (first
    | (go_at_call 13; (with_reducible refine (HW.out HB0.out).mono ?_); rintro e w1 ⟨rfl, hb1⟩; rw [HV.out]; have HB1 := Aside0.mk (bthen HB0.out hb1); have HK1 := Aside0.mk (HK0.out.below hb1); have hk0 := HK1.out.cell 0 rfl; have hk1 := HK1.out.cell 1 rfl; have hk2 := HK1.out.cell 2 rfl; clear hb1)
    | (go_at_call 60; (with_reducible refine (HRN.out HB1.out).mono ?_); rintro e w2 ⟨⟨Ar, cr, rfl, hr2⟩, hb2⟩; have HR2 := Aside0.mk hr2; have HB2 := Aside0.mk (bthen HB1.out hb2); have HK2 := Aside0.mk (HK1.out.below hb2); clear hr2 hb2))
  go_loopg [6] (rs.length) (fun k i wr => ∃ (j : Nat), j + k = rs.length ∧ i = .int .i64 j ∧ Aside0 (idxFrom (fun r => !fitAt (runC pl mv) r) rs j) ∧ Below w2.heap.size w2 wr)
  case atStart => exact ⟨0, by omega, rfl, ⟨idxFrom_zero _ _⟩, Below.refl _ _⟩
  case round =>
    obtain ⟨j, hj, rfl, HI, hBr⟩ := hrel
    have hj' : j ≤ rs.length := by omega
    have HJ := Aside0.mk hj
    clear hj
    have HKr := Aside0.mk (HK2.out.below hBr)
    have hq2 := HKr.out.cell 2 rfl
    by_cases hlt : j < rs.length
    · obtain ⟨r, hr⟩ : ∃ r, rs[j]? = some r := ⟨_, List.getElem?_eq_getElem hlt⟩
      obtain ⟨⟨r1, r2⟩, ⟨r3, r4⟩, ⟨r5, r6⟩, r7, r8⟩ := HRD.out r (List.mem_of_getElem? hr)
      obtain ⟨ad, rfl, hc0, hc1, hc2, hc3⟩ := at_reading (Kd.C_below H.out.r2 (HB2.out.trans (hBr.mono HB2.out.size))) hr hlt
      obtain ⟨l, hl⟩ : ∃ l, (runC pl mv)[r.f0.toNat]? = some l := ⟨_, List.getElem?_eq_getElem (by rw [runC_length]; omega)⟩
      obtain ⟨ar, Al, cl, rfl, hcell0, hcl, hcr⟩ := at_row HR2.out hl (by omega)
      have hll : l.length = pl.length + 1 := (runC_inv HOP.out HOM.out l (List.mem_of_getElem? hl)).length
      obtain ⟨x, hx⟩ : ∃ x, l[r.f1.toNat]? = some x := ⟨_, List.getElem?_eq_getElem (by have := HLM.out; omega)⟩
      obtain ⟨al, rfl, hcx0⟩ := at_int hcr hx (by have := HLM.out; omega)
      have HV2 : Aside0 (fitAt (runC pl mv) r = inB x (r.f2 - r.f3) (r.f2 + r.f3)) := ⟨by unfold fitAt; rw [show (runC pl mv).getD r.f0.toNat [] = l from by rw [List.getD_eq_getElem?_getD, hl]; rfl, show l.getD r.f1.toNat 0 = x from by rw [List.getD_eq_getElem?_getD, hx]; rfl]⟩
      have hBx := below_drew1 (below_alloc (Below.refl wr.heap.size wr) (.cells #[.int .i64 r.f0, .int .i64 r.f1, .int .i64 r.f2, .int .i64 r.f3] 66))
      have hcell := pw_cell_below hBx (pw_cell_below hBr hcell0)
      have hcx := pw_cell_below hBx (pw_cell_below hBr hcx0)
      have HBX : Aside0 (Below w2.heap.size w2 ((wr.alloc (.cells #[.int .i64 r.f0, .int .i64 r.f1, .int .i64 r.f2, .int .i64 r.f3] 66)).drew)) := ⟨below_drew1 (below_alloc hBr _)⟩
      have HE := Aside0.mk hr
      have hkn := (Blk.new wr #[.int .i64 r.f0, .int .i64 r.f1, .int .i64 r.f2, .int .i64 r.f3] 66).drew
      have hn0 := hkn.cell 0 rfl
      have hn1 := hkn.cell 1 rfl
      have hn2 := hkn.cell 2 rfl
      have hn3 := hkn.cell 3 rfl
      have HN0 := Aside0.mk hn0
      have HN1 := Aside0.mk hn1
      have HN2 := Aside0.mk hn2
      have HN3 := Aside0.mk hn3
      have HC0 := Aside0.mk hcell
      have HC1 := Aside0.mk hcx
      have hi1 : r.f0 < (mv.length : Int) + 1 := by omega
      have hi2 : r.f0 < ((mv.length + 1 : Nat) : Int) := by omega
      have hi3 : r.f1 < (l.length : Int) := by have := HLM.out; omega
      have hi4 : 0 ≤ r.f1 := by omega
      have HLL := Aside0.mk hll
      have hw1 : IntKind.i64.wrap (r.f2 - r.f3) = r.f2 - r.f3 := IntWalk.i64_in _ (by omega)
      have hw2 : IntKind.i64.wrap (r.f2 + r.f3) = r.f2 + r.f3 := IntWalk.i64_in _ (by omega)
      clear hr hl hx hcell0 hcx0 hBx hkn hll hcl hcr
      go_upto_region 8 with fail
      rcases hf : inB x (r.f2 - r.f3) (r.f2 + r.f3) with _ | _
      · have HF := Aside0.mk hf
        clear hf
        go_region_held3 (fun w' => w'.cell? ⟨wr.heap.size, 0, none⟩ = some (.int .i64 r.f0) ∧ w'.cell? ⟨wr.heap.size, 1, none⟩ = some (.int .i64 r.f1) ∧ w'.cell? ⟨wr.heap.size, 2, none⟩ = some (.int .i64 r.f2) ∧ w'.cell? ⟨wr.heap.size, 3, none⟩ = some (.int .i64 r.f3) ∧ w'.cell? (ar.add r.f0.toNat) = some (.slice (some al) l.length cl) ∧ w'.cell? (al.add r.f1.toNat) = some (.int .i64 x)) (first | go_keep | (exact ⟨pw_cell_below HB4.out HN0.out, pw_cell_below HB4.out HN1.out, pw_cell_below HB4.out HN2.out, pw_cell_below HB4.out HN3.out, pw_cell_below HB4.out HC0.out, pw_cell_below HB4.out HC1.out⟩)) (first | (go_at_call 34; (with_reducible refine (refIn_at _ _ _ _).mono ?_); rintro e w3 ⟨rfl, hb3⟩; rw [HF.out]; have HB4 := Aside0.mk hb3; have HB3 := Aside0.mk (bthen HBX.out hb3); clear hb3))
        go_wp2
        go_ret
        refine ⟨?_, HB2.out.trans (HB3.out.mono HB2.out.size)⟩
        rw [fitB, any_of_at HE.out (by rw [HV2.out, HF.out]; rfl)]
        rfl
      · have HF := Aside0.mk hf
        clear hf
        go_region_held3 (fun w' => w'.cell? ⟨wr.heap.size, 0, none⟩ = some (.int .i64 r.f0) ∧ w'.cell? ⟨wr.heap.size, 1, none⟩ = some (.int .i64 r.f1) ∧ w'.cell? ⟨wr.heap.size, 2, none⟩ = some (.int .i64 r.f2) ∧ w'.cell? ⟨wr.heap.size, 3, none⟩ = some (.int .i64 r.f3) ∧ w'.cell? (ar.add r.f0.toNat) = some (.slice (some al) l.length cl) ∧ w'.cell? (al.add r.f1.toNat) = some (.int .i64 x)) (first | go_keep | (exact ⟨pw_cell_below HB4.out HN0.out, pw_cell_below HB4.out HN1.out, pw_cell_below HB4.out HN2.out, pw_cell_below HB4.out HN3.out, pw_cell_below HB4.out HC0.out, pw_cell_below HB4.out HC1.out⟩)) (first | (go_at_call 34; (with_reducible refine (refIn_at _ _ _ _).mono ?_); rintro e w3 ⟨rfl, hb3⟩; rw [HF.out]; have HB4 := Aside0.mk hb3; have HB3 := Aside0.mk (bthen HBX.out hb3); clear hb3))
        go_wp2
        go_roundg (gk - 1)
        case measure => have := HJ.out; omega
        case rel => exact ⟨j + 1, by have := HJ.out; omega, by go_num, ⟨idxFrom_succ HI.out HE.out (by rw [HV2.out, HF.out]; rfl)⟩, HB3.out⟩
    · obtain rfl : j = rs.length := by omega
      go_wp2
      go_ret
      refine ⟨?_, HB2.out.trans (hBr.mono HB2.out.size)⟩
      rw [fitB, any_of_all HI.out]
      rfl
end
end Go.Proofs.YtaojkmalpihmbaaGreatDoor.M
