import Derived.Test.YtaojkmalpihmbaaGreatDoorB12
import Derived.Test.YtaojkmalpihmbaaGreatDoorB10
import Derived.Test.YtaojkmalpihmbaaGreatDoorB14
import Derived.Test.YtaojkmalpihmbaaGreatDoorB15
namespace Go.Proofs.YtaojkmalpihmbaaGreatDoor.M
open Go.RowKit Go.Proofs.YtaojkmalpihmbaaGreatDoorW.PrintWords Go.Proofs.YtaojkmalpihmbaaGreatDoorW.PrintLast Go.Proofs.YtaojkmalpihmbaaGreatDoorW.PrintMore Go.Proofs.YtaojkmalpihmbaaGreatDoor.Q
set_option linter.unusedVariables false
set_option linter.unusedSimpArgs false

/-! Plain: the document's Piece, Plays and Within say what the program's say. -/
theorem in_f (a b c : Int) : tellurionref03_in.f a b c = some (inB a b c) := by
  unfold tellurionref03_in.f
  split
  · next h => simp [inB, show b ≤ a from h]
  · next h => simp [inB, show ¬ b ≤ a from h]
theorem w1_nat {j : Nat} (h : j ≤ 1000) : wrap64 ((j : Int) + 1) = ((j + 1 : Nat) : Int) := by unfold wrap64; omega
theorem rd64_nat {l : List S64} {j : Nat} (h : j < l.length) : rd_T64 l (j : Int) = l[j] := by simp [rd_T64, List.getD_eq_getElem?_getD, List.getElem?_eq_getElem h]
theorem rd66_nat {l : List S66} {j : Nat} (h : j < l.length) : rd_T66 l (j : Int) = l[j] := by simp [rd_T66, List.getD_eq_getElem?_getD, List.getElem?_eq_getElem h]
theorem rd_nat {l : List Int} {j : Nat} (h : j < l.length) : rd l (j : Int) = l[j] := by simp [rd, List.getD_eq_getElem?_getD, List.getElem?_eq_getElem h]
section
variable {ms : List S64} {mv : List Int} {rs : List S66} {pl : List Int}
theorem l2_f (hl : rs.length ≤ 1000) : ∀ (d j : Nat), j + d = rs.length → tellurionref03_Piece.l2 (d + 1) (j : Int) ms mv rs = some (!anyB (readingBad mv.length ms.length) (rs.drop j))
  | 0, j, h => by
    have h1 : ¬ (j : Int) < (rs.length : Int) := by omega
    rw [tellurionref03_Piece.l2, if_neg h1, List.drop_of_length_le (by omega)]
    rfl
  | d + 1, j, h => by
    have hj : j < rs.length := by omega
    rw [tellurionref03_Piece.l2, if_pos (by omega), if_pos (by omega), w1_nat (by omega), l2_f hl d (j + 1) (by omega), List.drop_eq_getElem_cons hj, rd66_nat hj]
    simp only [in_f, tellurionref03_Last.f, Option.bind_some, anyB, List.any_cons, readingBad]
    rcases inB rs[j].f0 0 mv.length with _ | _ <;> rcases inB rs[j].f1 1 ms.length with _ | _ <;> rcases inB rs[j].f2 (-5000) 5000 with _ | _ <;> rcases inB rs[j].f3 0 50 with _ | _ <;> simp
theorem l1_f (hl : rs.length ≤ 1000) (hl1 : mv.length ≤ 1000) : ∀ (d j : Nat), j + d = mv.length → tellurionref03_Piece.l1 (rs.length + 1 + d + 1) (j : Int) ms mv rs = some (!anyB moveBad (mv.drop j) && !anyB (readingBad mv.length ms.length) rs)
  | 0, j, h => by
    have h1 : ¬ (j : Int) < (mv.length : Int) := by omega
    have h2 := l2_f (ms := ms) (mv := mv) hl rs.length 0 (by omega)
    rw [tellurionref03_Piece.l1, if_neg h1, List.drop_of_length_le (by omega)]
    exact h2
  | d + 1, j, h => by
    have hj : j < mv.length := by omega
    have ih := l1_f hl hl1 d (j + 1) (by omega)
    rw [tellurionref03_Piece.l1, if_pos (by omega), if_pos (by omega), w1_nat (by omega), show rs.length + 1 + (d + 1) = rs.length + 1 + d + 1 from rfl, ih, List.drop_eq_getElem_cons hj, rd_nat hj]
    simp only [in_f, Option.bind_some, anyB, List.any_cons, moveBad]
    rcases inB mv[j] (-300) 300 with _ | _ <;> simp
theorem l0_f (hl : rs.length ≤ 1000) (hl1 : mv.length ≤ 1000) (hl0 : ms.length ≤ 1000) : ∀ (d j : Nat), j + d = ms.length → tellurionref03_Piece.l0 (rs.length + 1 + mv.length + 1 + d + 1) (j : Int) ms mv rs = some (!anyB meshBad (ms.drop j) && (!anyB moveBad mv && !anyB (readingBad mv.length ms.length) rs))
  | 0, j, h => by
    have h1 : ¬ (j : Int) < (ms.length : Int) := by omega
    have h2 := l1_f (ms := ms) hl hl1 mv.length 0 (by omega)
    rw [tellurionref03_Piece.l0, if_neg h1, List.drop_of_length_le (by omega)]
    exact h2
  | d + 1, j, h => by
    have hj : j < ms.length := by omega
    have ih := l0_f hl hl1 hl0 d (j + 1) (by omega)
    rw [tellurionref03_Piece.l0, if_pos (by omega), if_pos (by omega), w1_nat (by omega), show rs.length + 1 + mv.length + 1 + (d + 1) = rs.length + 1 + mv.length + 1 + d + 1 from rfl, ih, List.drop_eq_getElem_cons hj, rd64_nat hj]
    simp only [anyB, List.any_cons, meshBad, spanB]
    by_cases h1 : ms[j].f0.f0 < 0
    · simp [h1, show ¬ 0 ≤ ms[j].f0.f0 by omega]
    by_cases h2 : ms[j].f0.f0 > ms[j].f0.f1
    · simp [h1, h2, show ¬ ms[j].f0.f0 ≤ ms[j].f0.f1 by omega]
    by_cases h3 : ms[j].f0.f1 > 100
    · simp [h1, h2, h3, show ¬ ms[j].f0.f1 ≤ 100 by omega]
    rw [wr_in (by omega) (by omega)]
    by_cases h4 : ms[j].f0.f1 - ms[j].f0.f0 > 4
    · simp [h1, h2, h3, h4]
    · simp [h1, h2, h3, h4, show 0 ≤ ms[j].f0.f0 by omega, show ms[j].f0.f0 ≤ ms[j].f0.f1 by omega, show ms[j].f0.f1 ≤ 100 by omega]
theorem piece_f (hl : rs.length ≤ 1000) (hl1 : mv.length ≤ 1000) (hl0 : ms.length ≤ 1000) : ∃ k, tellurionref03_Piece.f k ms mv rs = some (pieceB ms mv rs) := by
  refine ⟨rs.length + 1 + mv.length + 1 + ms.length + 1 + 1, ?_⟩
  have h0 := l0_f hl hl1 hl0 ms.length 0 (by omega)
  rw [List.drop_zero] at h0
  simp only [tellurionref03_Piece.f, in_f, Option.bind_some, tellurionref03_Piece.j0, pieceB]
  rcases hb : inB ms.length 1 4 with _ | _
  · simp
  · by_cases h1 : (mv.length : Int) > 8
    · simp [h1, show ¬ (mv.length : Int) ≤ 8 by omega]
    · by_cases h2 : (rs.length : Int) > 6
      · simp [h1, h2, show ¬ (rs.length : Int) ≤ 6 by omega]
      · have h0' : tellurionref03_Piece.l0 (rs.length + 1 + mv.length + 1 + ms.length + 1) 0 ms mv rs = _ := h0
        simp only [h1, h2, if_false, decide_false, Bool.false_eq_true, h0', if_true, show (mv.length : Int) ≤ 8 by omega, show (rs.length : Int) ≤ 6 by omega, decide_true, Bool.true_and]
theorem plays_l (hl : pl.length ≤ 1000) : ∀ (d j : Nat), j + d = pl.length → tellurionref03_Plays.l0 (d + 1) pl (j : Int) ms mv rs = some (!anyB playBad (pl.drop j) && decide (pl.length = ms.length))
  | 0, j, h => by
    have h1 : ¬ (j : Int) < (pl.length : Int) := by omega
    rw [tellurionref03_Plays.l0, if_neg h1, List.drop_of_length_le (by omega)]
    congr 1
    simp only [anyB, List.any_nil, Bool.not_false, Bool.true_and]
    rw [Bool.eq_iff_iff]
    simp
    omega
  | d + 1, j, h => by
    have hj : j < pl.length := by omega
    rw [tellurionref03_Plays.l0, if_pos (by omega), if_pos (by omega), w1_nat (by omega), plays_l hl d (j + 1) (by omega), List.drop_eq_getElem_cons hj, rd_nat hj]
    simp only [in_f, Option.bind_some, anyB, List.any_cons, playBad]
    rcases inB pl[j] 0 100 with _ | _ <;> simp
theorem plays_f (hl : pl.length ≤ 1000) : ∃ k, tellurionref03_Plays.f k ms mv rs pl = some (playsB ms pl) := by
  refine ⟨pl.length + 1, ?_⟩
  have h := plays_l (ms := ms) (mv := mv) (rs := rs) hl pl.length 0 (by omega)
  rw [List.drop_zero] at h
  rw [playsB, Bool.and_comm]
  exact h
theorem within_l (hl : pl.length ≤ 1000) (hm : pl.length = ms.length) : ∀ (d j : Nat), j + d = pl.length → tellurionref03_Within.l0 (d + 1) pl (j : Int) ms mv rs = some (okB (pl.drop j) (ms.drop j))
  | 0, j, h => by
    have h1 : ¬ (j : Int) < (pl.length : Int) := by omega
    rw [tellurionref03_Within.l0, if_neg h1, List.drop_of_length_le (by omega), List.drop_of_length_le (by omega)]
    rfl
  | d + 1, j, h => by
    have hj : j < pl.length := by omega
    have hk : j < ms.length := by omega
    rw [tellurionref03_Within.l0, if_pos (by omega), if_pos (by omega), if_pos (by omega), w1_nat (by omega), within_l hl hm d (j + 1) (by omega), List.drop_eq_getElem_cons hj, List.drop_eq_getElem_cons hk, rd_nat hj, rd64_nat hk]
    simp only [in_f, Option.bind_some, okB, meshOk]
    rcases inB pl[j] ms[j].f0.f0 ms[j].f0.f1 with _ | _ <;> simp
theorem within_f (hl : pl.length ≤ 1000) (hm : pl.length = ms.length) : ∃ k, tellurionref03_Within.f k ms mv rs pl = some (okB pl ms) := by
  refine ⟨pl.length + 1, ?_⟩
  have h := within_l (mv := mv) (rs := rs) hl hm pl.length 0 (by omega)
  rw [List.drop_zero, List.drop_zero] at h
  exact h
end
end Go.Proofs.YtaojkmalpihmbaaGreatDoor.M

namespace Go.Proofs.YtaojkmalpihmbaaGreatDoor.M
open Go.RowKit Go.Proofs.YtaojkmalpihmbaaGreatDoorW.PrintWords Go.Proofs.YtaojkmalpihmbaaGreatDoorW.PrintLast Go.Proofs.YtaojkmalpihmbaaGreatDoorW.PrintMore Go.Proofs.YtaojkmalpihmbaaGreatDoor.Q
set_option linter.unusedVariables false
set_option linter.unusedSimpArgs false

/-! The law's own run. -/
theorem at_row {w : World} {A : Option Addr} {n : Nat} {xs : List (List Int)} (h : Kd.C kLists w A n xs) {j : Nat} {l : List Int} (hx : xs[j]? = some l) (hj : j < n) : ∃ ad A0 c0, A = some ad ∧ w.cell? (ad.add j) = some (.slice A0 l.length c0) ∧ l.length ≤ c0 ∧ (Kd.int .i64).C w A0 l.length l := by
  obtain ⟨ad, e, hc⟩ := h.2.2 (by omega)
  obtain ⟨c, _, ⟨A0, c0, rfl, hk, hr⟩, hcell⟩ := hc j l hx
  exact ⟨ad, A0, c0, e, by have := hcell 0 _ rfl; simpa [kLists, Kd.slice] using this, hk, hr⟩
section
variable {A0 A1 A2 : Option Addr} {c0 c1 c2 : Nat} {ms : List S64} {mv : List Int} {rs : List S66} {pl : List Int}
theorem ran_form (hok : ranB ms mv rs pl = true) : okPl pl ∧ okMv mv ∧ pl.length = ms.length ∧ 1 ≤ pl.length ∧ pl.length ≤ 4 ∧ mv.length ≤ 8 ∧ runL pl mv = runC pl mv := by
  simp only [ranB, Bool.and_eq_true] at hok
  obtain ⟨hp, hb, _⟩ := hok
  obtain ⟨p1, p2, p3, _⟩ := piece_len hp
  have hm := piece_okMv hp
  have hl := plays_len hb
  have ho : okPl pl := by
    intro n hn
    simp only [playsB, Bool.and_eq_true, Bool.not_eq_true', anyB, List.any_eq_false] at hb
    have := hb.2 n hn
    simp [playBad, inB] at this
    omega
  exact ⟨ho, hm, hl, by omega, by omega, by omega, runL_eq ho (by omega) hm (by omega)⟩
theorem ran_row (hok : ranB ms mv rs pl = true) {l : List Int} (hl : l ∈ runL pl mv) : l.length = pl.length + 1 ∧ ∀ v ∈ l, -5000 ≤ v ∧ v ≤ 5000 := by
  obtain ⟨ho, hm, _, _, h4, h8, e⟩ := ran_form hok
  rw [e] at hl
  have hi := runC_inv ho hm l hl
  refine ⟨hi.length, fun v hv => ?_⟩
  have := hi.bound ho v hv
  omega
theorem Run_ok {w : World} (h : PR w A0 c0 ms A1 c1 mv A2 c2 rs) {A : Option Addr} {c : Nat} (hp : IR w A c pl) (hok : ranB ms mv rs pl = true) :
    Calls Tryz.prog 35 #[.agg #[.slice A0 ms.length c0, .slice A1 mv.length c1, .slice A2 rs.length c2], .slice A pl.length c] w fun e w' => (∃ A' c', e = .returned (.tuple #[.slice A' (mv.length + 1) c', .int .i64 0]) ∧ Kd.C kLists w' A' (mv.length + 1) (runL pl mv) ∧ mv.length + 1 ≤ c') ∧ Below w.heap.size w w' := by
  refine (Run_calls h hp).mono ?_
  rintro e w' ⟨⟨v, rfl, hr⟩, hb⟩
  have e1 : ranL ms mv rs pl = runL pl mv := by simp [ranL, hok]
  have e2 : ranE ms mv rs pl = 0 := by simp [ranE, hok]
  rw [e1] at hr
  rw [e2]
  obtain ⟨A', c', rfl⟩ := Kd.R_slice hr
  obtain ⟨_, g0, k0⟩ := Kd.R_reads' hr
  rw [runL_length] at g0 k0
  exact ⟨⟨A', c', by rw [runL_length], k0, g0⟩, hb⟩
set_option maxHeartbeats 4000000 in
set_option maxRecDepth 100000 in
theorem lawrun_calls {w : World} (h : PR w A0 c0 ms A1 c1 mv A2 c2 rs) {A : Option Addr} {c : Nat} (hp : IR w A c pl) (hok : ranB ms mv rs pl = true) :
    Calls Tryz.prog 15 #[.agg #[.slice A0 ms.length c0, .slice A1 mv.length c1, .slice A2 rs.length c2], .slice A pl.length c] w fun e w' => (∃ A' c', e = .returned (.slice A' (mv.length + 1) c') ∧ Kd.C kLists w' A' (mv.length + 1) (runL pl mv) ∧ mv.length + 1 ≤ c') ∧ Below w.heap.size w w' := by
  have H := Aside0.mk h
  have HP := Aside0.mk hp
  have HOK := Aside0.mk hok
  obtain ⟨-, -, -, hp1, hp4, hmv, -⟩ := ran_form hok
  have HB0 := Aside0.mk (below_alloc (Below.refl w.heap.size w) (.cells #[.slice A0 ms.length c0, .slice A1 mv.length c1, .slice A2 rs.length c2] 26))
  have HK0 := Aside0.mk (Blk.new w #[.slice A0 ms.length c0, .slice A1 mv.length c1, .slice A2 rs.length c2] 26)
  have HR0 := Aside0.mk (Run_ok (H.out.below HB0.out) (HP.out.below HB0.out) hok)
  clear h hp hok
  go_enter Tryz.func15, Tryz.ntmps15
  go_wp2_with (go_at_call 35; (with_reducible refine HR0.out.mono ?_); rintro e w1 ⟨⟨Ar, cr, rfl, hr, hc⟩, hb⟩; have HR := Aside0.mk hr; have HRc := Aside0.mk hc; have HB1 := Aside0.mk (bthen HB0.out hb); have hk1 : w1.cell? ⟨w.heap.size, 1, none⟩ = some (.slice A1 mv.length c1) := (HK0.out.below hb).cell 1 rfl; clear hr hc hb)
  go_loopg [7] (mv.length + 1) (fun k i wr => ∃ (j : Nat), j + k = mv.length + 1 ∧ i = .int .i64 j ∧ wr = w1)
  case atStart => exact ⟨0, by omega, rfl, rfl⟩
  case round =>
    obtain ⟨j, hj, rfl, hw⟩ := hrel
    subst hw
    have HJ := Aside0.mk hj
    have hj' : j ≤ mv.length + 1 := by omega
    clear hj
    by_cases hlt : j < mv.length + 1
    · obtain ⟨l, hl⟩ : ∃ l, (runL pl mv)[j]? = some l := ⟨_, List.getElem?_eq_getElem (by rw [runL_length]; exact hlt)⟩
      obtain ⟨ad, Al, cl, rfl, hcell, hcl, hcr⟩ := at_row HR.out hl hlt
      obtain ⟨hll, hbd⟩ := ran_row HOK.out (List.mem_of_getElem? hl)
      rw [hll] at hcell hcl hcr
      have HLL := Aside0.mk hll
      have HCR := Aside0.mk hcr
      have HBD := Aside0.mk hbd
      clear hl hcr hbd hll
      have hdj : decide ((j : Int) < (mv.length : Int) + 1) = true := decide_eq_true (by omega)
      go_wp2
      try rw [hdj]
      obtain ⟨gk2, rfl⟩ : ∃ gk2 : Nat, gk2 = gk := ⟨_, rfl⟩
      obtain ⟨w2, rfl⟩ : ∃ w2 : World, w2 = wr := ⟨_, rfl⟩
      go_loopg [8] (pl.length + 1) (fun k i wr => ∃ (j2 : Nat), j2 + k = pl.length + 1 ∧ i = .int .i64 j2 ∧ wr = w2)
      case atStart => exact ⟨0, by omega, rfl, rfl⟩
      case round =>
        obtain ⟨j2, hj2, rfl, hw⟩ := hrel
        subst hw
        have HJ2 := Aside0.mk hj2
        have hj2' : j2 ≤ pl.length + 1 := by omega
        clear hj2
        by_cases hlt2 : j2 < pl.length + 1
        · obtain ⟨x, hx⟩ : ∃ x, l[j2]? = some x := ⟨_, List.getElem?_eq_getElem (by rw [HLL.out]; exact hlt2)⟩
          obtain ⟨ad2, rfl, hcx⟩ := at_int HCR.out hx hlt2
          have hbx := HBD.out x (List.mem_of_getElem? hx)
          clear hx
          go_wp2
          go_roundg (gk - 1)
          case measure => have := HJ2.out; omega
          case rel => exact ⟨j2 + 1, by have := HJ2.out; omega, by go_num, rfl⟩
        · obtain rfl : j2 = pl.length + 1 := by omega
          go_wp2
          go_roundg (gk2 - 1)
          case measure => have := HJ.out; omega
          case rel => exact ⟨j + 1, by have := HJ.out; omega, by go_num, rfl⟩
    · obtain rfl : j = mv.length + 1 := by omega
      go_wp2
      go_ret
      exact ⟨⟨Ar, cr, rfl, HR.out, HRc.out⟩, HB1.out⟩
end
end Go.Proofs.YtaojkmalpihmbaaGreatDoor.M

namespace Go.Proofs.YtaojkmalpihmbaaGreatDoor.M
open Go.RowKit Go.Proofs.YtaojkmalpihmbaaGreatDoorW.PrintWords Go.Proofs.YtaojkmalpihmbaaGreatDoorW.PrintLast Go.Proofs.YtaojkmalpihmbaaGreatDoorW.PrintMore Go.Proofs.YtaojkmalpihmbaaGreatDoor.Q
set_option linter.unusedVariables false
set_option linter.unusedSimpArgs false

/-! Plain: the theorem of arbors. -/
def sumP : List Int → Int
  | [] => 0
  | n :: l => n + sumP l
theorem sumP_nonneg : ∀ {l : List Int}, okPl l → 0 ≤ sumP l
  | [], _ => by simp [sumP]
  | n :: l, h => by
    have h1 := h.head
    have h2 := sumP_nonneg h.tail
    simp only [sumP]
    omega
def ubB : Int → List Int → List Int → Prop
  | _, [], [] => True
  | M, n :: pl, q :: r => q ≤ M - n ∧ ubB (M - n) pl r
  | _, _, _ => False
theorem ub_mono : ∀ (pl r : List Int) (M M' : Int), M ≤ M' → ubB M pl r → ubB M' pl r
  | [], [], _, _, _, _ => trivial
  | [], _ :: _, _, _, _, h => h.elim
  | _ :: _, [], _, _, _, h => h.elim
  | n :: pl, q :: r, M, M', hm, h => ⟨by have := h.1; omega, ub_mono pl r _ _ (by omega) h.2⟩
theorem ub_moved : ∀ (pl r : List Int) (M p : Int), p ≤ M → ubB M pl r → ubB M pl (movedGo p pl r)
  | [], [], _, _, _, _ => trivial
  | [], _ :: _, _, _, _, h => h.elim
  | _ :: _, [], _, _, _, h => h.elim
  | n :: pl, q :: r, M, p, hp, h => by
    have h1 := h.1
    exact ⟨by omega, ub_moved pl r (M - n) _ (by omega) h.2⟩
theorem ub_beg : ∀ (l : List Int) (p : Int), ∃ r, begC p l = p :: r ∧ ubB p l r
  | [], p => ⟨[], rfl, trivial⟩
  | n :: l, p => by
    obtain ⟨r, e, h⟩ := ub_beg l (p - n)
    exact ⟨(p - n) :: r, by simp [begC, e], by omega, h⟩
def tautL : Int → List Int → List Int
  | _, [] => []
  | x, n :: pl => (x - n) :: tautL (x - n) pl
theorem taut_of : ∀ (pl r : List Int) (x : Int), chainB x pl r → ubB x pl r → r = tautL x pl
  | [], [], _, _, _ => rfl
  | [], _ :: _, _, h, _ => h.elim
  | _ :: _, [], _, h, _ => h.elim
  | n :: pl, q :: r, x, h, g => by
    have h1 := h.1
    have g1 := g.1
    obtain rfl : q = x - n := by omega
    simp only [tautL]
    rw [taut_of pl r _ h.2.2 g.2]
theorem taut_moved : ∀ (pl : List Int) (y p : Int), okPl pl → p ≤ y - sumP pl → movedGo p pl (tautL y pl) = List.replicate pl.length p
  | [], _, _, _, _ => rfl
  | n :: pl, y, p, ho, h => by
    have h1 := ho.head
    have h2 := sumP_nonneg ho.tail
    simp only [sumP] at h
    have h3 : min p (max (p - n) (y - n)) = p := by omega
    simp only [tautL, movedGo, h3, List.length_cons, List.replicate_succ]
    rw [taut_moved pl (y - n) p ho.tail (by omega)]
theorem chain_idx : ∀ (pl r : List Int) (x : Int), chainB x pl r → ∀ (k : Nat) (n a b : Int), pl[k]? = some n → (x :: r)[k]? = some a → (x :: r)[k + 1]? = some b → 0 ≤ a - b ∧ a - b ≤ n
  | [], [], _, _, _, _, _, _, hn, _, _ => by simp at hn
  | [], _ :: _, _, h, _, _, _, _, _, _, _ => h.elim
  | _ :: _, [], _, h, _, _, _, _, _, _, _ => h.elim
  | m :: pl, q :: r, x, h, 0, n, a, b, hn, ha, hb => by
    simp at hn ha hb
    have h1 := h.1
    have h2 := h.2.1
    omega
  | m :: pl, q :: r, x, h, k + 1, n, a, b, hn, ha, hb => chain_idx pl r q h.2.2 k n a b (by simpa using hn) (by simpa using ha) (by simpa using hb)
theorem taut_idx : ∀ (pl : List Int) (x : Int) (k : Nat) (n a b : Int), pl[k]? = some n → (x :: tautL x pl)[k]? = some a → (x :: tautL x pl)[k + 1]? = some b → a - b = n
  | [], _, _, _, _, _, hn, _, _ => by simp at hn
  | m :: pl, x, 0, n, a, b, hn, ha, hb => by
    simp [tautL] at hn ha hb
    omega
  | m :: pl, x, k + 1, n, a, b, hn, ha, hb => taut_idx pl (x - m) k n a b (by simpa using hn) (by simpa [tautL] using ha) (by simpa [tautL] using hb)
def RowOk (pl : List Int) (most : Int) (prev : Option (List Int)) (l : List Int) : Prop :=
  ∀ (k : Nat) (n a b : Int), pl[k]? = some n → l[k]? = some a → l[k + 1]? = some b →
    0 ≤ a - b ∧ a - b ≤ n ∧ (most ≤ l.headD 0 → a - b = n) ∧ (∀ y, prev = some y → most ≤ y.headD 0 → l.headD 0 ≤ y.headD 0 - sumP pl → a - b = 0)
def OrderOk (pl : List Int) : Int → Option (List Int) → List (List Int) → Prop
  | _, _, [] => True
  | most, prev, l :: rest => RowOk pl most prev l ∧ OrderOk pl (max most (l.headD 0)) (some l) rest
def PrevOk (pl : List Int) (most : Int) (prev : Option (List Int)) (pc : List Int) : Prop :=
  ∀ y, prev = some y → most ≤ y.headD 0 → ∃ m y0, y = y0 :: tautL y0 pl ∧ pc = movedC m pl y
theorem row_ok {pl r : List Int} {x most : Int} {prev : Option (List Int)} (ho : okPl pl) (hc : chainB x pl r) (hu : ubB (max most x) pl r) (hp : PrevOk pl most prev (x :: r)) : RowOk pl most prev (x :: r) := by
  intro k n a b hn ha hb
  have h1 := chain_idx pl r x hc k n a b hn ha hb
  refine ⟨h1.1, h1.2, fun hm => ?_, fun y hy hm hs => ?_⟩
  · have hm' : most ≤ x := hm
    have e := taut_of pl r x hc (by rwa [Int.max_eq_right hm'] at hu)
    rw [e] at ha hb
    exact taut_idx pl x k n a b hn ha hb
  · obtain ⟨m, y0, rfl, e⟩ := hp y hy hm
    have hs' : x ≤ y0 - sumP pl := hs
    simp only [movedC, List.cons.injEq] at e
    obtain ⟨e1, e2⟩ := e
    rw [← e1, taut_moved pl y0 x ho hs'] at e2
    rw [e2] at ha hb
    have q1 : a = x := by
      have := List.mem_of_getElem? ha
      simp only [List.mem_cons, List.mem_replicate] at this
      omega
    have q2 : b = x := by
      have := List.mem_of_getElem? hb
      simp only [List.mem_cons, List.mem_replicate] at this
      omega
    omega
theorem order_go {pl : List Int} (ho : okPl pl) : ∀ (mv : List Int) (x : Int) (r : List Int) (most : Int) (prev : Option (List Int)), chainB x pl r → ubB (max most x) pl r → PrevOk pl most prev (x :: r) → OrderOk pl most prev (runCGo pl (x :: r) mv)
  | [], x, r, most, prev, hc, hu, hp => ⟨row_ok ho hc hu hp, trivial⟩
  | m :: mv, x, r, most, prev, hc, hu, hp => by
    refine ⟨row_ok ho hc hu hp, ?_⟩
    have hl := chainB_length _ _ _ hc
    refine order_go ho mv (x + m) (movedGo (x + m) pl r) (max most x) (some (x :: r)) (moved_chain pl r _ ho hl) ?_ ?_
    · exact ub_moved pl r _ _ (by omega) (ub_mono pl r _ _ (by omega) hu)
    · intro y hy hm
      cases hy
      have hm' : max most x ≤ x := hm
      have e : max most x = x := by omega
      rw [e] at hu
      exact ⟨m, x, by rw [← taut_of pl r x hc hu], rfl⟩
theorem order_run {pl mv : List Int} (ho : okPl pl) : OrderOk pl 0 none (runC pl mv) := by
  obtain ⟨r, e, h⟩ := begC_chain pl 0 ho
  obtain ⟨r', e', h'⟩ := ub_beg pl 0
  rw [e] at e'
  cases e'
  unfold runC
  rw [e]
  exact order_go ho mv 0 r 0 none h (by simpa using h') (fun y hy => by cases hy)
def mostAt (L : List (List Int)) (i : Nat) : Int := (L.take i).foldl (fun m l => max m (l.headD 0)) 0
theorem order_at (pl : List Int) : ∀ (L : List (List Int)) (most : Int) (prev : Option (List Int)), OrderOk pl most prev L → ∀ (i : Nat) (l : List Int), L[i]? = some l → RowOk pl ((L.take i).foldl (fun m l => max m (l.headD 0)) most) (if i = 0 then prev else L[i - 1]?) l
  | [], _, _, _, i, l, h => by simp at h
  | a :: L, most, prev, h, 0, l, hl => by
    simp at hl
    subst hl
    exact h.1
  | a :: L, most, prev, h, i + 1, l, hl => by
    have := order_at pl L _ _ h.2 i l (by simpa using hl)
    simp only [List.take_succ_cons, List.foldl_cons, Nat.add_one_ne_zero, if_false, Nat.add_sub_cancel]
    rcases i with _ | i
    · simpa using this
    · simpa using this
theorem most_succ {L : List (List Int)} {i : Nat} {l : List Int} (h : L[i]? = some l) : mostAt L (i + 1) = max (mostAt L i) (l.headD 0) := by
  simp [mostAt, List.take_add_one, h, List.foldl_append]
end Go.Proofs.YtaojkmalpihmbaaGreatDoor.M

