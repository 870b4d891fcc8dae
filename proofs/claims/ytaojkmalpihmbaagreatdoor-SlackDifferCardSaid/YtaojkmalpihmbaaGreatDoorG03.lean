import Derived.Test.YtaojkmalpihmbaaGreatDoorG00
import Derived.Test.YtaojkmalpihmbaaGreatDoorB33
import Derived.Test.YtaojkmalpihmbaaGreatDoorG01
import Derived.Test.YtaojkmalpihmbaaGreatDoorG02
namespace Go.Proofs.YtaojkmalpihmbaaGreatDoor.M
open Go.RowKit Go.Proofs.YtaojkmalpihmbaaGreatDoorW.PrintWords Go.Proofs.YtaojkmalpihmbaaGreatDoorW.PrintLast Go.Proofs.YtaojkmalpihmbaaGreatDoorW.PrintMore Go.Proofs.YtaojkmalpihmbaaGreatDoor.Q
set_option linter.unusedVariables false
set_option linter.unusedSimpArgs false

/-! Hands: the document's Hand and Shown. -/
theorem down_f {a b : Int} (ha1 : -1000000000 ≤ a) (ha2 : a ≤ 1000000000) (hb1 : 1 ≤ b) (hb2 : b ≤ 1000000) : tellurionref03_down.f a b = some (a / b) := by
  obtain ⟨h1, h2, h3⟩ := tdiv_parts a b (by omega)
  obtain ⟨h4, h5⟩ := tdiv_bound (a := a) (b := b) (M := 1000000000) hb1 ha1 ha2
  have e1 : wrap64 (a.tdiv b) = a.tdiv b := wr_in (by omega) (by omega)
  have e2 : a.tdiv b * b = a - a.tmod b := by rw [Int.mul_comm]; omega
  have e3 : wrap64 (a.tdiv b * b) = a - a.tmod b := by rw [e2]; exact wr_in (by omega) (by omega)
  unfold tellurionref03_down.f
  rw [if_neg (by omega), e1, e3]
  by_cases h : a.tmod b < 0
  · rw [if_pos (by omega), (floor_neg (by omega) h).1]
    exact congrArg some (wr_in (by omega) (by omega))
  · rw [if_neg (by omega), (floor_pos (by omega) h).1]
theorem rdS_nat {l : List S44} {j : Nat} {x : S44} (h : l[j]? = some x) : rd_T44 l (j : Int) = x := by simp [rd_T44, List.getD_eq_getElem?_getD, h]
theorem shown_f {num den v arb : Int} {es : List S44} (hp : HandP num den es) (h1 : -100000 ≤ v) (h2 : v ≤ 100000) : tellurionref03_Shown.f arb num den es v = some ((showsF num den es v).f0, (showsF num den es v).f1) := by
  obtain ⟨n1, n2, d1, d2, l1, l2, hes⟩ := hp
  obtain ⟨hm1, hm2⟩ := mul_bound h1 h2 n1 n2
  obtain ⟨hd1, hd2⟩ := div_bound d1 (by decide) hm1 hm2
  have hr1 := Int.emod_nonneg (v * num / den) (show (21600 : Int) ≠ 0 by decide)
  have hr2 := Int.emod_lt_of_pos (v * num / den) (show (0 : Int) < 21600 by decide)
  obtain ⟨hs1, hs2, k, hk, hkn⟩ := step_idx hr1 hr2 l1 l2
  obtain ⟨s, hs⟩ : ∃ s, es[k]? = some s := ⟨_, List.getElem?_eq_getElem hkn⟩
  obtain ⟨hz1, hz2, hz3⟩ := hes s (List.mem_of_getElem? hs)
  have HF : showsF num den es v = ⟨v * num / den + s.f0, v * num / den + s.f1⟩ := by simp only [showsF, hk, Int.toNat_natCast, List.getD_eq_getElem?_getD, hs, Option.getD_some]
  have em : v * num / den % 21600 = v * num / den - v * num / den / 21600 * 21600 := by have := Int.emod_def (v * num / den) 21600; omega
  have hq : -1000000000 ≤ v * num / den / 21600 ∧ v * num / den / 21600 ≤ 1000000000 := by omega
  obtain ⟨at', hat⟩ : ∃ at', v * num / den = at' := ⟨_, rfl⟩
  have b1 : -9000000000000000000 ≤ v * num ∧ v * num ≤ 9000000000000000000 := by omega
  have b1' : -1000000000 ≤ v * num ∧ v * num ≤ 1000000000 := by omega
  have d3 : den ≤ 1000000 := by omega
  have D1 : tellurionref03_down.f (v * num) den = some (v * num / den) := down_f b1'.1 b1'.2 d1 d3
  rw [hat] at hd1 hd2 hr1 hr2 hs1 hs2 hk HF em hq D1
  have b6 : -1000000000 ≤ at' ∧ at' ≤ 1000000000 := by omega
  have D2 : tellurionref03_down.f at' 21600 = some (at' / 21600) := down_f b6.1 b6.2 (by decide) (by decide)
  obtain ⟨R, hR⟩ : ∃ R, at' % 21600 = R := ⟨_, rfl⟩
  rw [hR] at hr1 hr2 hs1 hs2 hk em
  obtain ⟨Q, hQ⟩ : ∃ Q, at' / 21600 = Q := ⟨_, rfl⟩
  rw [hQ] at em hq D2
  have b2 : -9000000000000000000 ≤ Q * 21600 ∧ Q * 21600 ≤ 9000000000000000000 := by omega
  have b3 : -9000000000000000000 ≤ R ∧ R ≤ 9000000000000000000 := by omega
  have b4 : -9000000000000000000 ≤ R * (es.length : Int) ∧ R * (es.length : Int) ≤ 9000000000000000000 := by omega
  have b5 : -9000000000000000000 ≤ (k : Int) ∧ (k : Int) ≤ 9000000000000000000 := by omega
  have b7 : -9000000000000000000 ≤ at' + s.f0 ∧ at' + s.f0 ≤ 9000000000000000000 := by omega
  have b8 : -9000000000000000000 ≤ at' + s.f1 ∧ at' + s.f1 ≤ 9000000000000000000 := by omega
  have c1 : (0 : Int) ≤ (k : Int) := by omega
  have c2 : (k : Int) < (es.length : Int) := by omega
  have w1 : wrap64 (v * num) = v * num := wr_in b1.1 b1.2
  have w2 : wrap64 (Q * 21600) = Q * 21600 := wr_in b2.1 b2.2
  have w3 : wrap64 (at' - Q * 21600) = R := by rw [← em]; exact wr_in b3.1 b3.2
  have w4 : wrap64 (R * (es.length : Int)) = R * (es.length : Int) := wr_in b4.1 b4.2
  have w5 : Int.tdiv (R * (es.length : Int)) 21600 = (k : Int) := by rw [Int.tdiv_eq_ediv_of_nonneg hs1]; exact hk
  have w6 : wrap64 (k : Int) = (k : Int) := wr_in b5.1 b5.2
  have w7 : wrap64 (at' + s.f0) = at' + s.f0 := wr_in b7.1 b7.2
  have w8 : wrap64 (at' + s.f1) = at' + s.f1 := wr_in b8.1 b8.2
  unfold tellurionref03_Shown.f
  rw [w1, D1, Option.bind_some, D2, Option.bind_some, w2, w3, w4, w5, w6, if_pos c1, if_pos c2, rdS_nat hs, HF, w7, w8]
theorem shows_small {num den v : Int} {es : List S44} (hp : HandP num den es) (h1 : -5000 ≤ v) (h2 : v ≤ 5000) : -500030 ≤ (showsF num den es v).f0 ∧ (showsF num den es v).f0 ≤ (showsF num den es v).f1 ∧ (showsF num den es v).f1 ≤ 500030 := by
  obtain ⟨n1, n2, d1, d2, l1, l2, hes⟩ := hp
  have a1 := Int.mul_le_mul_of_nonneg_right h2 (show 0 ≤ num by omega)
  have a2 := Int.mul_le_mul_of_nonneg_right h1 (show 0 ≤ num by omega)
  obtain ⟨hd1, hd2⟩ := div_bound (a := v * num) (M := 500000) d1 (by decide) (by omega) (by omega)
  have hr1 := Int.emod_nonneg (v * num / den) (show (21600 : Int) ≠ 0 by decide)
  have hr2 := Int.emod_lt_of_pos (v * num / den) (show (0 : Int) < 21600 by decide)
  obtain ⟨hs1, hs2, k, hk, hkn⟩ := step_idx hr1 hr2 l1 l2
  obtain ⟨s, hs⟩ : ∃ s, es[k]? = some s := ⟨_, List.getElem?_eq_getElem hkn⟩
  obtain ⟨hz1, hz2, hz3⟩ := hes s (List.mem_of_getElem? hs)
  have HF : showsF num den es v = ⟨v * num / den + s.f0, v * num / den + s.f1⟩ := by simp only [showsF, hk, Int.toNat_natCast, List.getD_eq_getElem?_getD, hs, Option.getD_some]
  rw [HF]
  refine ⟨?_, ?_, ?_⟩ <;> dsimp only <;> omega
section
variable {ms : List S64} {mv : List Int} {rs : List S66} {arb num den : Int} {es : List S44}
theorem hand_l (hl : es.length ≤ 1000) : ∀ (d j : Nat), j + d = es.length → tellurionref03_Hand.l0 (d + 1) (j : Int) ms mv rs arb num den es = some (!anyB handBad (es.drop j) && (inB arb 0 ms.length && (inB num 1 100 && (inB den 1 100 && inB es.length 1 8))))
  | 0, j, h => by
    rw [tellurionref03_Hand.l0, if_neg (by omega), List.drop_of_length_le (by omega)]
    simp only [in_f, Option.bind_some, anyB, List.any_nil, Bool.not_false, Bool.true_and]
    rcases inB arb 0 ms.length with _ | _
    · simp
    · rcases inB num 1 100 with _ | _
      · simp
      · rcases inB den 1 100 with _ | _ <;> simp
  | d + 1, j, h => by
    have hj : j < es.length := by omega
    rw [tellurionref03_Hand.l0, if_pos (by omega), if_pos (by omega), w1_nat (by omega), hand_l hl d (j + 1) (by omega), List.drop_eq_getElem_cons hj, rdS_nat (List.getElem?_eq_getElem hj)]
    simp only [anyB, List.any_cons, handBad, spanB]
    by_cases h1 : es[j].f0 < -30
    · simp [h1, show ¬ -30 ≤ es[j].f0 by omega]
    by_cases h2 : es[j].f0 > es[j].f1
    · simp [h1, h2, show ¬ es[j].f0 ≤ es[j].f1 by omega]
    by_cases h3 : es[j].f1 > 30
    · simp [h1, h2, h3, show ¬ es[j].f1 ≤ 30 by omega]
    simp [h1, h2, h3, show -30 ≤ es[j].f0 by omega, show es[j].f0 ≤ es[j].f1 by omega, show es[j].f1 ≤ 30 by omega]
theorem hand_f (hl : es.length ≤ 1000) : ∃ k, tellurionref03_Hand.f k ms mv rs arb num den es = some (handB ms.length arb num den es) := by
  refine ⟨es.length + 1, ?_⟩
  have h := hand_l (ms := ms) (mv := mv) (rs := rs) (arb := arb) (num := num) (den := den) hl es.length 0 (by omega)
  rw [List.drop_zero] at h
  rw [show tellurionref03_Hand.f (es.length + 1) ms mv rs arb num den es = _ from h, handB]
  congr 1
  rcases inB arb 0 ms.length with _ | _ <;> rcases inB num 1 100 with _ | _ <;> rcases inB den 1 100 with _ | _ <;> rcases inB es.length 1 8 with _ | _ <;> simp
variable {A0 A1 A2 : Option Addr} {c0 c1 c2 : Nat}
theorem Hand_at {w : World} (h : PR w A0 c0 ms A1 c1 mv A2 c2 rs) {AE : Option Addr} {ce : Nat} (he : ER w AE ce es) (arb num den : Int) :
    Calls Tryz.prog 30 #[.agg #[.slice A0 ms.length c0, .slice A1 mv.length c1, .slice A2 rs.length c2], .agg #[.int .i64 arb, .int .i64 num, .int .i64 den, .slice AE es.length ce]] w fun e w' => e = .returned (.bool (handB ms.length arb num den es)) ∧ Below w.heap.size w w' := by
  obtain ⟨k, hk⟩ := hand_f (ms := ms) (mv := mv) (rs := rs) (arb := arb) (num := num) (den := den) he.l
  exact tellurionref03_Hand.calls k A0 c0 ms A1 c1 mv A2 c2 rs arb num den AE ce es _ w h.r0 h.c0 h.r1 h.c1 h.r2 h.c2 he.r he.c hk
theorem Shown_at {w : World} {AE : Option Addr} {ce : Nat} (he : ER w AE ce es) (arb : Int) (hp : HandP num den es) {v : Int} (h1 : -100000 ≤ v) (h2 : v ≤ 100000) :
    Calls Tryz.prog 33 #[.agg #[.int .i64 arb, .int .i64 num, .int .i64 den, .slice AE es.length ce], .int .i64 v] w fun e w' => e = .returned (.agg #[.int .i64 (showsF num den es v).f0, .int .i64 (showsF num den es v).f1]) ∧ Below w.heap.size w w' :=
  tellurionref03_Shown.calls arb num den AE ce es v _ _ w he.r he.c (shown_f hp h1 h2)
theorem brief_at {w : World} {AE : Option Addr} {ce : Nat} (hr : Kd.C k44 w AE es.length es) (hc : es.length ≤ ce) (arb num den : Int) :
    Calls Tryz.prog 28 #[.agg #[.int .i64 arb, .int .i64 num, .int .i64 den, .slice AE es.length ce]] w fun e w' => e = .returned (.bool (decide ((es.length : Int) ≤ 10))) ∧ Below w.heap.size w w' :=
  tellurionlaw03_brief.calls arb num den AE ce es _ w hr hc rfl
end
/-! Plain: two hands. -/
theorem overL_neg {f g : S89 → S44} {T : List S89} (hT : T ≠ []) (h : ∀ x ∈ T, (g x).f0 = -(f x).f1 ∧ (g x).f1 = -(f x).f0) : (overL g T).f0 = -(overL f T).f1 ∧ (overL g T).f1 = -(overL f T).f0 := by
  obtain ⟨⟨y, hy, ey⟩, ⟨z, hz, ez⟩⟩ := overL_ex (f := g) hT
  obtain ⟨⟨y', hy', ey'⟩, ⟨z', hz', ez'⟩⟩ := overL_ex (f := f) hT
  have g1 := overL_le (f := f) hy
  have g2 := overL_le (f := f) hz
  have g3 := overL_le (f := g) hy'
  have g4 := overL_le (f := g) hz'
  have q1 := h y hy
  have q2 := h z hz
  have q3 := h y' hy'
  have q4 := h z' hz'
  omega
end Go.Proofs.YtaojkmalpihmbaaGreatDoor.M

