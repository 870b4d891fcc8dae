import Derived.Test.YtaojkmalpihmbaaGreatDoorB42
namespace Go.Proofs.YtaojkmalpihmbaaGreatDoor.M
open Go.RowKit Go.Proofs.YtaojkmalpihmbaaGreatDoorW.PrintWords Go.Proofs.YtaojkmalpihmbaaGreatDoorW.PrintLast Go.Proofs.YtaojkmalpihmbaaGreatDoorW.PrintMore Go.Proofs.YtaojkmalpihmbaaGreatDoor.Q
set_option linter.unusedVariables false
set_option linter.unusedSimpArgs false

/-! SlackOrder. -/
attribute [local go_sem] max2_int min2_int
section
variable {A0 A1 A2 : Option Addr} {c0 c1 c2 : Nat} {ms : List S64} {mv : List Int} {rs : List S66} {pl : List Int} {A : Option Addr} {c : Nat}
set_option maxHeartbeats 8000000 in
set_option maxRecDepth 100000 in
theorem order_calls {w : World} (hw : LibW w) (h : PQ w A0 c0 ms A1 c1 mv A2 c2 rs) (hp : Kd.C (Kd.int .i64) w A pl.length pl) (hpc : pl.length ≤ c) :
    Calls Tryz.prog 3 #[.agg #[.slice A0 ms.length c0, .slice A1 mv.length c1, .slice A2 rs.length c2], .slice A pl.length c] w fun e w' => e = .returned (.bool true) ∧ Below w.heap.size w w' := by
  have HL := Aside0.mk hw
  have H := Aside0.mk h
  have HP := Aside0.mk hp
  have HPC := Aside0.mk hpc
  have hb0 := below_alloc (Below.refl w.heap.size w) (.cells #[.slice A0 ms.length c0, .slice A1 mv.length c1, .slice A2 rs.length c2] 26)
  have hk0 := Blk.new w #[.slice A0 ms.length c0, .slice A1 mv.length c1, .slice A2 rs.length c2] 26
  have HBz := Aside0.mk hb0
  have HK := Aside0.mk hk0
  have HS0 := Aside0.mk (short_at (h.below hb0))
  clear hw h hp hpc hb0 hk0
  rcases hs : shortB ms mv rs with _ | _
  · have HSS := Aside0.mk hs
    clear hs
    go_enter Tryz.func3, Tryz.ntmps3
    go_wp2_with (first
      | (go_at_call 10; (with_reducible refine (HS0.out).mono ?_); rintro e w1 ⟨rfl, hb⟩; rw [HSS.out]; replace HBz := Aside0.mk (HBz.out.trans (Below.mono hb HBz.out.size)); replace HK := Aside0.mk (HK.out.below hb); have hk0 : World.cell? _ ⟨w.heap.size, 0, none⟩ = some (.slice A0 ms.length c0) := HK.out.cell 0 rfl; have hk1 : World.cell? _ ⟨w.heap.size, 1, none⟩ = some (.slice A1 mv.length c1) := HK.out.cell 1 rfl; have hk2 : World.cell? _ ⟨w.heap.size, 2, none⟩ = some (.slice A2 rs.length c2) := HK.out.cell 2 rfl; clear hb)
      | (go_at_call 14; (with_reducible refine (known_calls (HL.out.below HBz.out)).mono ?_); rintro e wn ⟨rfl, hb⟩; replace HBz := Aside0.mk (HBz.out.trans (Below.mono hb HBz.out.size)); clear hb))
    go_ret
    exact ⟨rfl, HBz.out⟩
  have HSS := Aside0.mk hs
  obtain ⟨hm6, hv10, hr8⟩ := short_len hs
  clear hs
  have HPR : Aside0 (PR w A0 c0 ms A1 c1 mv A2 c2 rs) := ⟨⟨H.out.r0, H.out.r1, H.out.r2, H.out.c0, H.out.c1, H.out.c2, by omega, by omega, by omega⟩⟩
  by_cases hp6 : ¬ (pl.length : Int) ≤ 6
  · have hp6' : (6 : Int) < (pl.length : Int) := by omega
    clear hp6
    go_enter Tryz.func3, Tryz.ntmps3
    go_wp2_with (first
      | (go_at_call 10; (with_reducible refine (HS0.out).mono ?_); rintro e w1 ⟨rfl, hb⟩; rw [HSS.out]; replace HBz := Aside0.mk (HBz.out.trans (Below.mono hb HBz.out.size)); replace HK := Aside0.mk (HK.out.below hb); have hk0 : World.cell? _ ⟨w.heap.size, 0, none⟩ = some (.slice A0 ms.length c0) := HK.out.cell 0 rfl; have hk1 : World.cell? _ ⟨w.heap.size, 1, none⟩ = some (.slice A1 mv.length c1) := HK.out.cell 1 rfl; have hk2 : World.cell? _ ⟨w.heap.size, 2, none⟩ = some (.slice A2 rs.length c2) := HK.out.cell 2 rfl; clear hb)
      | (go_at_call 14; (with_reducible refine (known_calls (HL.out.below HBz.out)).mono ?_); rintro e wn ⟨rfl, hb⟩; replace HBz := Aside0.mk (HBz.out.trans (Below.mono hb HBz.out.size)); clear hb))
    go_ret
    exact ⟨rfl, HBz.out⟩
  have hp6' : pl.length ≤ 6 := by omega
  have hp6'' : ¬ (6 : Int) < (pl.length : Int) := by omega
  clear hp6
  have HIR : Aside0 (IR w A c pl) := ⟨⟨HP.out, HPC.out, by omega⟩⟩
  rcases hs : pieceB ms mv rs with _ | _
  · have HPB := Aside0.mk hs
    clear hs
    go_enter Tryz.func3, Tryz.ntmps3
    go_wp2_with (first
      | (go_at_call 10; (with_reducible refine (HS0.out).mono ?_); rintro e w1 ⟨rfl, hb⟩; rw [HSS.out]; replace HBz := Aside0.mk (HBz.out.trans (Below.mono hb HBz.out.size)); replace HK := Aside0.mk (HK.out.below hb); have hk0 : World.cell? _ ⟨w.heap.size, 0, none⟩ = some (.slice A0 ms.length c0) := HK.out.cell 0 rfl; have hk1 : World.cell? _ ⟨w.heap.size, 1, none⟩ = some (.slice A1 mv.length c1) := HK.out.cell 1 rfl; have hk2 : World.cell? _ ⟨w.heap.size, 2, none⟩ = some (.slice A2 rs.length c2) := HK.out.cell 2 rfl; clear hb)
      | (go_at_call 11; (with_reducible refine (piece_at (HPR.out.below HBz.out)).mono ?_); rintro e w2 ⟨rfl, hb⟩; rw [HPB.out]; replace HBz := Aside0.mk (HBz.out.trans (Below.mono hb HBz.out.size)); replace HK := Aside0.mk (HK.out.below hb); have hk0 : World.cell? _ ⟨w.heap.size, 0, none⟩ = some (.slice A0 ms.length c0) := HK.out.cell 0 rfl; have hk1 : World.cell? _ ⟨w.heap.size, 1, none⟩ = some (.slice A1 mv.length c1) := HK.out.cell 1 rfl; have hk2 : World.cell? _ ⟨w.heap.size, 2, none⟩ = some (.slice A2 rs.length c2) := HK.out.cell 2 rfl; clear hb)
      | (go_at_call 14; (with_reducible refine (known_calls (HL.out.below HBz.out)).mono ?_); rintro e wn ⟨rfl, hb⟩; replace HBz := Aside0.mk (HBz.out.trans (Below.mono hb HBz.out.size)); clear hb))
    go_ret
    exact ⟨rfl, HBz.out⟩
  have HPB := Aside0.mk hs
  clear hs
  rcases hs : playsB ms pl with _ | _
  · have HYB := Aside0.mk hs
    clear hs
    go_enter Tryz.func3, Tryz.ntmps3
    go_wp2_with (first
      | (go_at_call 10; (with_reducible refine (HS0.out).mono ?_); rintro e w1 ⟨rfl, hb⟩; rw [HSS.out]; replace HBz := Aside0.mk (HBz.out.trans (Below.mono hb HBz.out.size)); replace HK := Aside0.mk (HK.out.below hb); have hk0 : World.cell? _ ⟨w.heap.size, 0, none⟩ = some (.slice A0 ms.length c0) := HK.out.cell 0 rfl; have hk1 : World.cell? _ ⟨w.heap.size, 1, none⟩ = some (.slice A1 mv.length c1) := HK.out.cell 1 rfl; have hk2 : World.cell? _ ⟨w.heap.size, 2, none⟩ = some (.slice A2 rs.length c2) := HK.out.cell 2 rfl; clear hb)
      | (go_at_call 11; (with_reducible refine (piece_at (HPR.out.below HBz.out)).mono ?_); rintro e w2 ⟨rfl, hb⟩; rw [HPB.out]; replace HBz := Aside0.mk (HBz.out.trans (Below.mono hb HBz.out.size)); replace HK := Aside0.mk (HK.out.below hb); have hk0 : World.cell? _ ⟨w.heap.size, 0, none⟩ = some (.slice A0 ms.length c0) := HK.out.cell 0 rfl; have hk1 : World.cell? _ ⟨w.heap.size, 1, none⟩ = some (.slice A1 mv.length c1) := HK.out.cell 1 rfl; have hk2 : World.cell? _ ⟨w.heap.size, 2, none⟩ = some (.slice A2 rs.length c2) := HK.out.cell 2 rfl; clear hb)
      | (go_at_call 12; (with_reducible refine (plays_at (HPR.out.below HBz.out) (HIR.out.below HBz.out)).mono ?_); rintro e w3 ⟨rfl, hb⟩; rw [HYB.out]; replace HBz := Aside0.mk (HBz.out.trans (Below.mono hb HBz.out.size)); replace HK := Aside0.mk (HK.out.below hb); have hk0 : World.cell? _ ⟨w.heap.size, 0, none⟩ = some (.slice A0 ms.length c0) := HK.out.cell 0 rfl; have hk1 : World.cell? _ ⟨w.heap.size, 1, none⟩ = some (.slice A1 mv.length c1) := HK.out.cell 1 rfl; have hk2 : World.cell? _ ⟨w.heap.size, 2, none⟩ = some (.slice A2 rs.length c2) := HK.out.cell 2 rfl; clear hb)
      | (go_at_call 14; (with_reducible refine (known_calls (HL.out.below HBz.out)).mono ?_); rintro e wn ⟨rfl, hb⟩; replace HBz := Aside0.mk (HBz.out.trans (Below.mono hb HBz.out.size)); clear hb))
    go_ret
    exact ⟨rfl, HBz.out⟩
  have HYB := Aside0.mk hs
  have HLM := Aside0.mk (plays_len hs)
  clear hs
  rcases hs : okB pl ms with _ | _
  · have HVB := Aside0.mk hs
    clear hs
    go_enter Tryz.func3, Tryz.ntmps3
    go_wp2_with (first
      | (go_at_call 10; (with_reducible refine (HS0.out).mono ?_); rintro e w1 ⟨rfl, hb⟩; rw [HSS.out]; replace HBz := Aside0.mk (HBz.out.trans (Below.mono hb HBz.out.size)); replace HK := Aside0.mk (HK.out.below hb); have hk0 : World.cell? _ ⟨w.heap.size, 0, none⟩ = some (.slice A0 ms.length c0) := HK.out.cell 0 rfl; have hk1 : World.cell? _ ⟨w.heap.size, 1, none⟩ = some (.slice A1 mv.length c1) := HK.out.cell 1 rfl; have hk2 : World.cell? _ ⟨w.heap.size, 2, none⟩ = some (.slice A2 rs.length c2) := HK.out.cell 2 rfl; clear hb)
      | (go_at_call 11; (with_reducible refine (piece_at (HPR.out.below HBz.out)).mono ?_); rintro e w2 ⟨rfl, hb⟩; rw [HPB.out]; replace HBz := Aside0.mk (HBz.out.trans (Below.mono hb HBz.out.size)); replace HK := Aside0.mk (HK.out.below hb); have hk0 : World.cell? _ ⟨w.heap.size, 0, none⟩ = some (.slice A0 ms.length c0) := HK.out.cell 0 rfl; have hk1 : World.cell? _ ⟨w.heap.size, 1, none⟩ = some (.slice A1 mv.length c1) := HK.out.cell 1 rfl; have hk2 : World.cell? _ ⟨w.heap.size, 2, none⟩ = some (.slice A2 rs.length c2) := HK.out.cell 2 rfl; clear hb)
      | (go_at_call 12; (with_reducible refine (plays_at (HPR.out.below HBz.out) (HIR.out.below HBz.out)).mono ?_); rintro e w3 ⟨rfl, hb⟩; rw [HYB.out]; replace HBz := Aside0.mk (HBz.out.trans (Below.mono hb HBz.out.size)); replace HK := Aside0.mk (HK.out.below hb); have hk0 : World.cell? _ ⟨w.heap.size, 0, none⟩ = some (.slice A0 ms.length c0) := HK.out.cell 0 rfl; have hk1 : World.cell? _ ⟨w.heap.size, 1, none⟩ = some (.slice A1 mv.length c1) := HK.out.cell 1 rfl; have hk2 : World.cell? _ ⟨w.heap.size, 2, none⟩ = some (.slice A2 rs.length c2) := HK.out.cell 2 rfl; clear hb)
      | (go_at_call 13; (with_reducible refine (within_at (HPR.out.below HBz.out) (HIR.out.below HBz.out) HLM.out).mono ?_); rintro e w4 ⟨rfl, hb⟩; rw [HVB.out]; replace HBz := Aside0.mk (HBz.out.trans (Below.mono hb HBz.out.size)); replace HK := Aside0.mk (HK.out.below hb); have hk0 : World.cell? _ ⟨w.heap.size, 0, none⟩ = some (.slice A0 ms.length c0) := HK.out.cell 0 rfl; have hk1 : World.cell? _ ⟨w.heap.size, 1, none⟩ = some (.slice A1 mv.length c1) := HK.out.cell 1 rfl; have hk2 : World.cell? _ ⟨w.heap.size, 2, none⟩ = some (.slice A2 rs.length c2) := HK.out.cell 2 rfl; clear hb)
      | (go_at_call 14; (with_reducible refine (known_calls (HL.out.below HBz.out)).mono ?_); rintro e wn ⟨rfl, hb⟩; replace HBz := Aside0.mk (HBz.out.trans (Below.mono hb HBz.out.size)); clear hb))
    go_ret
    exact ⟨rfl, HBz.out⟩
  have HVB := Aside0.mk hs
  clear hs
  have HOK : Aside0 (ranB ms mv rs pl = true) := ⟨by simp [ranB, HPB.out, HYB.out, HVB.out]⟩
  obtain ⟨hokp, -, -, hp1, hp4, hmv8, hrun⟩ := ran_form HOK.out
  have HOKP := Aside0.mk hokp
  have HRUN := Aside0.mk hrun
  clear hokp hrun
  have hz0 : (((mv.length : Int) + 1) == 0) = false := by simp; omega
  go_enter Tryz.func3, Tryz.ntmps3
  go_wp2_with (first
    | (go_at_call 10; (with_reducible refine (HS0.out).mono ?_); rintro e w1 ⟨rfl, hb⟩; rw [HSS.out]; replace HBz := Aside0.mk (HBz.out.trans (Below.mono hb HBz.out.size)); replace HK := Aside0.mk (HK.out.below hb); have hk0 : World.cell? _ ⟨w.heap.size, 0, none⟩ = some (.slice A0 ms.length c0) := HK.out.cell 0 rfl; have hk1 : World.cell? _ ⟨w.heap.size, 1, none⟩ = some (.slice A1 mv.length c1) := HK.out.cell 1 rfl; have hk2 : World.cell? _ ⟨w.heap.size, 2, none⟩ = some (.slice A2 rs.length c2) := HK.out.cell 2 rfl; clear hb)
    | (go_at_call 11; (with_reducible refine (piece_at (HPR.out.below HBz.out)).mono ?_); rintro e w2 ⟨rfl, hb⟩; rw [HPB.out]; replace HBz := Aside0.mk (HBz.out.trans (Below.mono hb HBz.out.size)); replace HK := Aside0.mk (HK.out.below hb); have hk0 : World.cell? _ ⟨w.heap.size, 0, none⟩ = some (.slice A0 ms.length c0) := HK.out.cell 0 rfl; have hk1 : World.cell? _ ⟨w.heap.size, 1, none⟩ = some (.slice A1 mv.length c1) := HK.out.cell 1 rfl; have hk2 : World.cell? _ ⟨w.heap.size, 2, none⟩ = some (.slice A2 rs.length c2) := HK.out.cell 2 rfl; clear hb)
    | (go_at_call 12; (with_reducible refine (plays_at (HPR.out.below HBz.out) (HIR.out.below HBz.out)).mono ?_); rintro e w3 ⟨rfl, hb⟩; rw [HYB.out]; replace HBz := Aside0.mk (HBz.out.trans (Below.mono hb HBz.out.size)); replace HK := Aside0.mk (HK.out.below hb); have hk0 : World.cell? _ ⟨w.heap.size, 0, none⟩ = some (.slice A0 ms.length c0) := HK.out.cell 0 rfl; have hk1 : World.cell? _ ⟨w.heap.size, 1, none⟩ = some (.slice A1 mv.length c1) := HK.out.cell 1 rfl; have hk2 : World.cell? _ ⟨w.heap.size, 2, none⟩ = some (.slice A2 rs.length c2) := HK.out.cell 2 rfl; clear hb)
    | (go_at_call 13; (with_reducible refine (within_at (HPR.out.below HBz.out) (HIR.out.below HBz.out) HLM.out).mono ?_); rintro e w4 ⟨rfl, hb⟩; rw [HVB.out]; replace HBz := Aside0.mk (HBz.out.trans (Below.mono hb HBz.out.size)); replace HK := Aside0.mk (HK.out.below hb); have hk0 : World.cell? _ ⟨w.heap.size, 0, none⟩ = some (.slice A0 ms.length c0) := HK.out.cell 0 rfl; have hk1 : World.cell? _ ⟨w.heap.size, 1, none⟩ = some (.slice A1 mv.length c1) := HK.out.cell 1 rfl; have hk2 : World.cell? _ ⟨w.heap.size, 2, none⟩ = some (.slice A2 rs.length c2) := HK.out.cell 2 rfl; clear hb)
    | (go_at_call 15; (with_reducible refine (lawrun_calls (HPR.out.below HBz.out) (HIR.out.below HBz.out) HOK.out).mono ?_); rintro e w5 ⟨⟨Ar, cr, rfl, hr, hc⟩, hb⟩; have HR := Aside0.mk hr; have HRc := Aside0.mk hc; replace HBz := Aside0.mk (HBz.out.trans (Below.mono hb HBz.out.size)); replace HK := Aside0.mk (HK.out.below hb); have hk0 : World.cell? _ ⟨w.heap.size, 0, none⟩ = some (.slice A0 ms.length c0) := HK.out.cell 0 rfl; have hk1 : World.cell? _ ⟨w.heap.size, 1, none⟩ = some (.slice A1 mv.length c1) := HK.out.cell 1 rfl; have hk2 : World.cell? _ ⟨w.heap.size, 2, none⟩ = some (.slice A2 rs.length c2) := HK.out.cell 2 rfl; clear hr hc hb))
  have hd6 : decide ((6 : Int) < (pl.length : Int)) = false := decide_eq_false (by omega)
  rw [hd6]
  obtain ⟨l00, hl00⟩ : ∃ l, (runL pl mv)[0]? = some l := ⟨_, List.getElem?_eq_getElem (by rw [runL_length]; omega)⟩
  obtain ⟨ad, Ax, cx, hAr, -, -, -⟩ := at_row HR.out hl00 (by omega)
  subst hAr
  obtain ⟨x00, hx00⟩ : ∃ x, pl[0]? = some x := ⟨_, List.getElem?_eq_getElem (by omega)⟩
  obtain ⟨ap, hAp, -⟩ := at_int HP.out hx00 (by omega)
  subst hAp
  clear hl00 hx00
  have HB5 := HBz
  go_loopg [6, 8] (pl.length) (fun k s i wr => ∃ (j : Nat), j + k = pl.length ∧ i = .int .i64 j ∧ s = .int .i64 (sumP (pl.take j)) ∧ wr = w5)
  case atStart => exact ⟨0, by omega, rfl, rfl, rfl⟩
  case round =>
    obtain ⟨j, hj, rfl, rfl, hw⟩ := hrel
    subst hw
    have HJ := Aside0.mk hj
    have hj' : j ≤ pl.length := by omega
    clear hj
    by_cases hlt : j < pl.length
    · obtain ⟨x, hx⟩ : ∃ x, pl[j]? = some x := ⟨_, List.getElem?_eq_getElem hlt⟩
      obtain ⟨ap', hap, hcx⟩ := at_int (Kd.C_below HP.out HBz.out) hx hlt
      cases hap
      have hsx := sum_take hx
      have h0 := sumP_nonneg (l := pl.take j) (fun n hn => HOKP.out n (List.mem_of_mem_take hn))
      have h1 := sum_bound (l := pl.take j) (fun n hn => HOKP.out n (List.mem_of_mem_take hn))
      have h2 := HOKP.out x (List.mem_of_getElem? hx)
      have h3 : (pl.take j).length ≤ 6 := by rw [List.length_take]; omega
      have hws : wrap64 (sumP (pl.take j) + x) = sumP (pl.take j) + x := w64in _ (by omega)
      have HSX := Aside0.mk hsx
      clear hx hsx h0 h1 h2 h3
      go_wp2
      go_roundg (gk - 1)
      case measure => have := HJ.out; omega
      case rel =>
        refine ⟨j + 1, by have := HJ.out; omega, by go_num, ?_, rfl⟩
        rw [HSX.out, hws]
    · obtain rfl : j = pl.length := by omega
      rw [List.take_length]
      obtain ⟨sm, hsm⟩ : ∃ sm, sumP pl = sm := ⟨_, rfl⟩
      have hs0 := sumP_nonneg HOKP.out
      have hs1 := sum_bound HOKP.out
      rw [hsm] at hs0 hs1 ⊢
      have HSM := Aside0.mk hsm
      clear hsm
      go_wp2
      obtain ⟨w6, rfl⟩ : ∃ w6 : World, w6 = wr := ⟨_, rfl⟩
      obtain ⟨gk0, rfl⟩ : ∃ gk0 : Nat, gk0 = gk := ⟨_, rfl⟩
      go_loopg [7, 9] (mv.length + 1) (fun k m i wr => ∃ (j : Nat), j + k = mv.length + 1 ∧ i = .int .i64 j ∧ m = .int .i64 (mostAt (runL pl mv) j) ∧ Below w6.heap.size w6 wr)
      case atStart => exact ⟨0, by omega, rfl, rfl, Below.refl _ _⟩
      case round =>
        obtain ⟨j, hj, rfl, rfl, hBr⟩ := hrel
        have HJ2 := Aside0.mk hj
        have hj' : j ≤ mv.length + 1 := by omega
        clear hj
        by_cases hlt : j < mv.length + 1
        · obtain ⟨l, hl⟩ : ∃ l, (runL pl mv)[j]? = some l := ⟨_, List.getElem?_eq_getElem (by rw [runL_length]; exact hlt)⟩
          obtain ⟨ad', Al, cl, hadl, hcell, hcl, hcr⟩ := at_row (Kd.C_below HR.out hBr) hl hlt
          cases hadl
          obtain ⟨hll, hbd⟩ := ran_row HOK.out (List.mem_of_getElem? hl)
          rw [hll] at hcell hcl hcr
          obtain ⟨x, hx⟩ : ∃ x, l[0]? = some x := ⟨_, List.getElem?_eq_getElem (by omega)⟩
          obtain ⟨al, hal, hcx0⟩ := at_int hcr hx (by omega)
          subst hal
          have hhd : l.headD 0 = x := by
            rcases l with _ | ⟨y, l⟩
            · simp at hx
            · simpa using hx
          have hmost := most_succ hl
          have hrow := order_at pl (runL pl mv) 0 none (by rw [HRUN.out]; exact order_run HOKP.out) j l hl
          have hxb := hbd x (List.mem_of_getElem? hx)
          have HROW : Aside0 (RowOk pl (mostAt (runL pl mv) j) (if j = 0 then none else (runL pl mv)[j - 1]?) l) := ⟨hrow⟩
          have HHD := Aside0.mk hhd
          have HLL := Aside0.mk hll
          have HBD := Aside0.mk hbd
          have HCR := Aside0.mk hcr
          have HLj := Aside0.mk hl
          have HX0 := Aside0.mk hx
          have HMS := Aside0.mk hmost
          obtain ⟨M, hM⟩ : ∃ M, mostAt (runL pl mv) j = M := ⟨_, rfl⟩
          rw [hM] at HROW HMS ⊢
          clear hM hhd hll hbd hcr hl hx hmost hrow
          have hdj : decide ((j : Int) < (mv.length : Int) + 1) = true := decide_eq_true (by omega)
          go_wp2
          try rw [hdj]
          obtain ⟨w7, rfl⟩ : ∃ w7 : World, w7 = wr := ⟨_, rfl⟩
          obtain ⟨gk1, rfl⟩ : ∃ gk1 : Nat, gk1 = gk := ⟨_, rfl⟩
          go_loopg [10] (pl.length) (fun g i wr => ∃ (k : Nat), k + g = pl.length ∧ i = .int .i64 k ∧ Below w7.heap.size w7 wr)
          case atStart => exact ⟨0, by omega, rfl, Below.refl _ _⟩
          case round =>
            obtain ⟨k, hk, rfl, hB2⟩ := hrel
            have HJ3 := Aside0.mk hk
            have hk' : k ≤ pl.length := by omega
            clear hk
            by_cases hlt3 : k < pl.length
            · obtain ⟨n, hn⟩ : ∃ n, pl[k]? = some n := ⟨_, List.getElem?_eq_getElem hlt3⟩
              obtain ⟨a, ha⟩ : ∃ a, l[k]? = some a := ⟨_, List.getElem?_eq_getElem (by rw [HLL.out]; omega)⟩
              obtain ⟨b, hb⟩ : ∃ b, l[k + 1]? = some b := ⟨_, List.getElem?_eq_getElem (by rw [HLL.out]; omega)⟩
              have hB67 : Below w6.heap.size w6 wr := hBr.trans (Below.mono hB2 hBr.size)
              have hBw : Below w.heap.size w wr := HBz.out.trans (Below.mono hB67 HBz.out.size)
              obtain ⟨ap', hap, hcn⟩ := at_int (Kd.C_below HP.out hBw) hn hlt3
              cases hap
              have hcl2 := pw_cell_below hB2 hcell
              obtain ⟨al', hal', hca⟩ := at_int (Kd.C_below HCR.out hB2) ha (by omega)
              cases hal'
              obtain ⟨al', hal', hcb⟩ := at_int (Kd.C_below HCR.out hB2) hb (by omega)
              cases hal'
              have hc0 := pw_cell_below hB2 hcx0
              have hc0' : wr.cell? al = some (.int .i64 x) := hc0
              obtain ⟨r1, r2, r3, r4⟩ := HROW.out k n a b hn ha hb
              rw [HHD.out] at r3 r4
              have hab := HBD.out a (List.mem_of_getElem? ha)
              have hbb := HBD.out b (List.mem_of_getElem? hb)
              have HR3 := Aside0.mk r3
              have HR4 := Aside0.mk r4
              clear hn ha hb r3 r4
              have hi1 : (j : Int) < (mv.length : Int) + 1 := by omega
              have hi2 : (k : Int) < (pl.length : Int) + 1 := by omega
              have hi3 : (k : Int) + 1 < (pl.length : Int) + 1 := by omega
              have hi4 : (k : Int) < (pl.length : Int) := by omega
              have hi5 : (0 : Int) < (pl.length : Int) + 1 := by omega
              have hn1 : ((k : Int) + 1).toNat = k + 1 := by omega
              have hi10 : (0 : Int) ≤ (k : Int) + 1 := by omega
              have hi11 : ¬ ((k : Int) + 1 < 0) := by omega
              have hi6 : (j : Int) < ((mv.length + 1 : Nat) : Int) := by omega
              have hi7 : (k : Int) < ((pl.length + 1 : Nat) : Int) := by omega
              have hi8 : (k : Int) + 1 < ((pl.length + 1 : Nat) : Int) := by omega
              have hi9 : (0 : Int) < ((pl.length + 1 : Nat) : Int) := by omega
              have hq1 : -9223372036854775808 ≤ a - b ∧ a - b ≤ 9223372036854775807 := by omega
              have hq2 : -9223372036854775808 ≤ (k : Int) + 1 ∧ (k : Int) + 1 ≤ 9223372036854775807 := by omega
              have hcb' : wr.cell? ⟨al.block, al.off + (k + 1), none⟩ = some (.int .i64 b) := hcb
              have hwab : IntKind.i64.wrap (a - b) = a - b := IntWalk.i64_in _ hq1
              have hw1 : IntKind.i64.wrap ((k : Int) + 1) = (k : Int) + 1 := IntWalk.i64_in _ hq2
              clear hq1 hq2
              go_wp2
              go_quiet (fail)
              by_cases hx2 : M ≤ x
              · have r5 := HR3.out hx2
                have hne1 : ((a - b) == n) = true := by simp [r5]
                have hne2 : ((a - b) != n) = false := by simp [r5]
                clear r5
                go_wp2
                by_cases hj0 : (0 : Int) < (j : Int)
                · obtain ⟨y, hy⟩ : ∃ y, (runL pl mv)[j - 1]? = some y := ⟨_, List.getElem?_eq_getElem (by rw [runL_length]; omega)⟩
                  obtain ⟨ad', py, cy, hady, hcy, hcly, hcry⟩ := at_row (Kd.C_below HR.out hB67) hy (by omega)
                  cases hady
                  obtain ⟨hyl, hyb⟩ := ran_row HOK.out (List.mem_of_getElem? hy)
                  rw [hyl] at hcy hcly hcry
                  obtain ⟨y0, hy0⟩ : ∃ x, y[0]? = some x := ⟨_, List.getElem?_eq_getElem (by omega)⟩
                  obtain ⟨py', hpy, hcy0⟩ := at_int hcry hy0 (by omega)
                  subst hpy
                  have hcy0' : wr.cell? py' = some (.int .i64 y0) := hcy0
                  have hyh : y.headD 0 = y0 := by
                    rcases y with _ | ⟨z, y⟩
                    · simp at hy0
                    · simpa using hy0
                  have r6 := HR4.out y (by rw [if_neg (by omega)]; exact hy)
                  rw [hyh, HSM.out] at r6
                  have hyb0 := hyb y0 (List.mem_of_getElem? hy0)
                  have hjq1 : -9223372036854775808 ≤ (j : Int) - 1 ∧ (j : Int) - 1 ≤ 9223372036854775807 := by omega
                  have hjq2 : -9223372036854775808 ≤ y0 - sm ∧ y0 - sm ≤ 9223372036854775807 := by omega
                  have hi12 : (j : Int) - 1 < ((mv.length + 1 : Nat) : Int) := by omega
                  have hi13 : (0 : Int) ≤ (j : Int) - 1 := by omega
                  have hi14 : ((j : Int) - 1).toNat = j - 1 := by omega
                  have hi15 : (j : Int) - 1 < (mv.length : Int) + 1 := by omega
                  have R6 := Aside0.mk r6
                  clear hy hy0 hyh hyb hyl hcly hcry r6
                  have hj0n : 0 < j := by omega
                  have hg0 : decide ((0 : Int) < (j : Int)) = true := decide_eq_true hj0
                  have hg0n : decide (0 < j) = true := decide_eq_true hj0n
                  by_cases hM : M ≤ y0
                  · have hg1 : decide (M ≤ y0) = true := decide_eq_true hM
                    by_cases hS : x ≤ y0 - sm
                    · have hg2 : decide (x ≤ y0 - sm) = true := decide_eq_true hS
                      have r7 := R6.out hM hS
                      have hz9 : ((a - b) == 0) = true := by simp [r7]
                      have hz8 : ((a - b) != 0) = false := by simp [r7]
                      have HR7 := Aside0.mk r7
                      clear r7
                      have hwj : IntKind.i64.wrap ((j : Int) - 1) = (j : Int) - 1 := IntWalk.i64_in _ hjq1; have hwy : IntKind.i64.wrap (y0 - sm) = y0 - sm := IntWalk.i64_in _ hjq2
                      go_quiet (fail)
                      go_wp2
                      go_roundg (gk - 1)
                      case measure => have := HJ3.out; omega
                      case rel => exact ⟨k + 1, by have := HJ3.out; omega, by go_num, by repeat (first | exact hB2 | apply pw_below_drewN | apply below_drew1)⟩
                    · have hg2 : decide (x ≤ y0 - sm) = false := decide_eq_false hS
                      have hwj : IntKind.i64.wrap ((j : Int) - 1) = (j : Int) - 1 := IntWalk.i64_in _ hjq1; have hwy : IntKind.i64.wrap (y0 - sm) = y0 - sm := IntWalk.i64_in _ hjq2
                      go_quiet (fail)
                      go_wp2
                      go_roundg (gk - 1)
                      case measure => have := HJ3.out; omega
                      case rel => exact ⟨k + 1, by have := HJ3.out; omega, by go_num, by repeat (first | exact hB2 | apply pw_below_drewN | apply below_drew1)⟩
                  · have hg1 : decide (M ≤ y0) = false := decide_eq_false hM
                    have hwj : IntKind.i64.wrap ((j : Int) - 1) = (j : Int) - 1 := IntWalk.i64_in _ hjq1; have hwy : IntKind.i64.wrap (y0 - sm) = y0 - sm := IntWalk.i64_in _ hjq2
                    go_quiet (fail)
                    go_wp2
                    go_roundg (gk - 1)
                    case measure => have := HJ3.out; omega
                    case rel => exact ⟨k + 1, by have := HJ3.out; omega, by go_num, by repeat (first | exact hB2 | apply pw_below_drewN | apply below_drew1)⟩
                · have hg0 : decide ((0 : Int) < (j : Int)) = false := decide_eq_false hj0
                  have hg0n : decide (0 < j) = false := decide_eq_false (by omega)
                  go_quiet (fail)
                  go_wp2
                  go_roundg (gk - 1)
                  case measure => have := HJ3.out; omega
                  case rel => exact ⟨k + 1, by have := HJ3.out; omega, by go_num, by repeat (first | exact hB2 | apply pw_below_drewN | apply below_drew1)⟩
              · go_wp2
                by_cases hj0 : (0 : Int) < (j : Int)
                · obtain ⟨y, hy⟩ : ∃ y, (runL pl mv)[j - 1]? = some y := ⟨_, List.getElem?_eq_getElem (by rw [runL_length]; omega)⟩
                  obtain ⟨ad', py, cy, hady, hcy, hcly, hcry⟩ := at_row (Kd.C_below HR.out hB67) hy (by omega)
                  cases hady
                  obtain ⟨hyl, hyb⟩ := ran_row HOK.out (List.mem_of_getElem? hy)
                  rw [hyl] at hcy hcly hcry
                  obtain ⟨y0, hy0⟩ : ∃ x, y[0]? = some x := ⟨_, List.getElem?_eq_getElem (by omega)⟩
                  obtain ⟨py', hpy, hcy0⟩ := at_int hcry hy0 (by omega)
                  subst hpy
                  have hcy0' : wr.cell? py' = some (.int .i64 y0) := hcy0
                  have hyh : y.headD 0 = y0 := by
                    rcases y with _ | ⟨z, y⟩
                    · simp at hy0
                    · simpa using hy0
                  have r6 := HR4.out y (by rw [if_neg (by omega)]; exact hy)
                  rw [hyh, HSM.out] at r6
                  have hyb0 := hyb y0 (List.mem_of_getElem? hy0)
                  have hjq1 : -9223372036854775808 ≤ (j : Int) - 1 ∧ (j : Int) - 1 ≤ 9223372036854775807 := by omega
                  have hjq2 : -9223372036854775808 ≤ y0 - sm ∧ y0 - sm ≤ 9223372036854775807 := by omega
                  have hi12 : (j : Int) - 1 < ((mv.length + 1 : Nat) : Int) := by omega
                  have hi13 : (0 : Int) ≤ (j : Int) - 1 := by omega
                  have hi14 : ((j : Int) - 1).toNat = j - 1 := by omega
                  have hi15 : (j : Int) - 1 < (mv.length : Int) + 1 := by omega
                  have R6 := Aside0.mk r6
                  clear hy hy0 hyh hyb hyl hcly hcry r6
                  have hj0n : 0 < j := by omega
                  have hg0 : decide ((0 : Int) < (j : Int)) = true := decide_eq_true hj0
                  have hg0n : decide (0 < j) = true := decide_eq_true hj0n
                  by_cases hM : M ≤ y0
                  · have hg1 : decide (M ≤ y0) = true := decide_eq_true hM
                    by_cases hS : x ≤ y0 - sm
                    · have hg2 : decide (x ≤ y0 - sm) = true := decide_eq_true hS
                      have r7 := R6.out hM hS
                      have hz9 : ((a - b) == 0) = true := by simp [r7]
                      have hz8 : ((a - b) != 0) = false := by simp [r7]
                      have HR7 := Aside0.mk r7
                      clear r7
                      have hwj : IntKind.i64.wrap ((j : Int) - 1) = (j : Int) - 1 := IntWalk.i64_in _ hjq1; have hwy : IntKind.i64.wrap (y0 - sm) = y0 - sm := IntWalk.i64_in _ hjq2
                      go_quiet (fail)
                      go_wp2
                      go_roundg (gk - 1)
                      case measure => have := HJ3.out; omega
                      case rel => exact ⟨k + 1, by have := HJ3.out; omega, by go_num, by repeat (first | exact hB2 | apply pw_below_drewN | apply below_drew1)⟩
                    · have hg2 : decide (x ≤ y0 - sm) = false := decide_eq_false hS
                      have hwj : IntKind.i64.wrap ((j : Int) - 1) = (j : Int) - 1 := IntWalk.i64_in _ hjq1; have hwy : IntKind.i64.wrap (y0 - sm) = y0 - sm := IntWalk.i64_in _ hjq2
                      go_quiet (fail)
                      go_wp2
                      go_roundg (gk - 1)
                      case measure => have := HJ3.out; omega
                      case rel => exact ⟨k + 1, by have := HJ3.out; omega, by go_num, by repeat (first | exact hB2 | apply pw_below_drewN | apply below_drew1)⟩
                  · have hg1 : decide (M ≤ y0) = false := decide_eq_false hM
                    have hwj : IntKind.i64.wrap ((j : Int) - 1) = (j : Int) - 1 := IntWalk.i64_in _ hjq1; have hwy : IntKind.i64.wrap (y0 - sm) = y0 - sm := IntWalk.i64_in _ hjq2
                    go_quiet (fail)
                    go_wp2
                    go_roundg (gk - 1)
                    case measure => have := HJ3.out; omega
                    case rel => exact ⟨k + 1, by have := HJ3.out; omega, by go_num, by repeat (first | exact hB2 | apply pw_below_drewN | apply below_drew1)⟩
                · have hg0 : decide ((0 : Int) < (j : Int)) = false := decide_eq_false hj0
                  have hg0n : decide (0 < j) = false := decide_eq_false (by omega)
                  go_quiet (fail)
                  go_wp2
                  go_roundg (gk - 1)
                  case measure => have := HJ3.out; omega
                  case rel => exact ⟨k + 1, by have := HJ3.out; omega, by go_num, by repeat (first | exact hB2 | apply pw_below_drewN | apply below_drew1)⟩
            · obtain rfl : k = pl.length := by omega
              have hB67 : Below w6.heap.size w6 wr := hBr.trans (Below.mono hB2 hBr.size)
              have hcl2 := pw_cell_below hB2 hcell
              have hc0 := pw_cell_below hB2 hcx0
              have hc0' : wr.cell? al = some (.int .i64 x) := hc0
              have hi1 : (j : Int) < (mv.length : Int) + 1 := by omega
              have hi5 : (0 : Int) < (pl.length : Int) + 1 := by omega
              have hi6 : (j : Int) < ((mv.length + 1 : Nat) : Int) := by omega
              have hi9 : (0 : Int) < ((pl.length + 1 : Nat) : Int) := by omega
              go_wp2
              go_roundg (gk1 - 1)
              case measure => have := HJ2.out; omega
              case rel =>
                refine ⟨j + 1, by have := HJ2.out; omega, by go_num, ?_, hB67⟩
                rw [HMS.out, HHD.out]
        · obtain rfl : j = mv.length + 1 := by omega
          replace HBz := Aside0.mk (HBz.out.trans (Below.mono hBr HBz.out.size))
          go_wp2_with (go_at_call 14; (with_reducible refine (known_calls (HL.out.below HBz.out)).mono ?_); rintro e wn ⟨rfl, hb⟩; replace HBz := Aside0.mk (HBz.out.trans (Below.mono hb HBz.out.size)); clear hb)
          go_ret
          exact ⟨rfl, HBz.out⟩
end
end Go.Proofs.YtaojkmalpihmbaaGreatDoor.M
