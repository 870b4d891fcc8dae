import Derived.Test.YtaojkmalpihmbaaGreatDoorD01
import Derived.Test.YtaojkmalpihmbaaGreatDoorB42
import Derived.Test.YtaojkmalpihmbaaGreatDoorWX
import Derived.Test.YtaojkmalpihmbaaGreatDoorB04
namespace Go.Proofs.YtaojkmalpihmbaaGreatDoor.M
open Go.RowKit Go.Proofs.YtaojkmalpihmbaaGreatDoorW.PrintWords Go.Proofs.YtaojkmalpihmbaaGreatDoorW.PrintLast Go.Proofs.YtaojkmalpihmbaaGreatDoorW.PrintMore Go.Proofs.YtaojkmalpihmbaaGreatDoor.Q
set_option linter.unusedVariables false
set_option linter.unusedSimpArgs false

/-! Plain: what is true of all truths; lost motion. -/
theorem over_fold (f : S89 → S44) : ∀ (T : List S89) (s : S44),
    (T.foldl (fun s y => widerS s (f y) false) s).f0 ≤ s.f0 ∧ s.f1 ≤ (T.foldl (fun s y => widerS s (f y) false) s).f1 ∧
    (∀ x ∈ T, (T.foldl (fun s y => widerS s (f y) false) s).f0 ≤ (f x).f0 ∧ (f x).f1 ≤ (T.foldl (fun s y => widerS s (f y) false) s).f1) ∧
    ((T.foldl (fun s y => widerS s (f y) false) s).f0 = s.f0 ∨ ∃ y ∈ T, (T.foldl (fun s y => widerS s (f y) false) s).f0 = (f y).f0) ∧
    ((T.foldl (fun s y => widerS s (f y) false) s).f1 = s.f1 ∨ ∃ y ∈ T, (T.foldl (fun s y => widerS s (f y) false) s).f1 = (f y).f1)
  | [], s => ⟨Int.le_refl _, Int.le_refl _, fun x hx => by simp at hx, .inl rfl, .inl rfl⟩
  | x :: T, s => by
    obtain ⟨h1, h2, h3, h4, h5⟩ := over_fold f T (widerS s (f x) false)
    have e0 : (widerS s (f x) false).f0 = mn s.f0 (f x).f0 := rfl
    have e1 : (widerS s (f x) false).f1 = mx s.f1 (f x).f1 := rfl
    rw [mn_eq] at e0
    rw [mx_eq] at e1
    simp only [List.foldl_cons]
    refine ⟨by omega, by omega, fun y hy => ?_, ?_, ?_⟩
    · rcases List.mem_cons.1 hy with rfl | hy
      · omega
      · exact h3 y hy
    · rcases h4 with h4 | ⟨y, hy, h4⟩
      · rcases (show mn s.f0 (f x).f0 = s.f0 ∨ mn s.f0 (f x).f0 = (f x).f0 by rw [mn_eq]; omega) with h | h
        · exact .inl (by rw [h4]; exact h)
        · exact .inr ⟨x, List.mem_cons_self .., by rw [h4]; exact h⟩
      · exact .inr ⟨y, List.mem_cons_of_mem _ hy, h4⟩
    · rcases h5 with h5 | ⟨y, hy, h5⟩
      · rcases (show mx s.f1 (f x).f1 = s.f1 ∨ mx s.f1 (f x).f1 = (f x).f1 by rw [mx_eq]; omega) with h | h
        · exact .inl (by rw [h5]; exact h)
        · exact .inr ⟨x, List.mem_cons_self .., by rw [h5]; exact h⟩
      · exact .inr ⟨y, List.mem_cons_of_mem _ hy, h5⟩
theorem overL_le {f : S89 → S44} {T : List S89} {x : S89} (hx : x ∈ T) : (overL f T).f0 ≤ (f x).f0 ∧ (f x).f1 ≤ (overL f T).f1 := by
  rcases T with _ | ⟨y, T⟩
  · simp at hx
  · obtain ⟨h1, h2, h3, _, _⟩ := over_fold f T (f y)
    rcases List.mem_cons.1 hx with rfl | hx
    · exact ⟨h1, h2⟩
    · exact h3 x hx
theorem overL_ex {f : S89 → S44} {T : List S89} (hT : T ≠ []) : (∃ y ∈ T, (overL f T).f0 = (f y).f0) ∧ ∃ y ∈ T, (overL f T).f1 = (f y).f1 := by
  rcases T with _ | ⟨y, T⟩
  · exact absurd rfl hT
  · obtain ⟨_, _, _, h4, h5⟩ := over_fold f T (f y)
    constructor
    · rcases h4 with h4 | ⟨z, hz, h4⟩
      · exact ⟨y, List.mem_cons_self .., h4⟩
      · exact ⟨z, List.mem_cons_of_mem _ hz, h4⟩
    · rcases h5 with h5 | ⟨z, hz, h5⟩
      · exact ⟨y, List.mem_cons_self .., h5⟩
      · exact ⟨z, List.mem_cons_of_mem _ hz, h5⟩
theorem truthsFrom_has (mv : List Int) (rs : List S66) : ∀ (ms : List S64) (pre l : List Int), okB l ms = true → liveB rs (pre ++ l) mv = true → (⟨pre ++ l, lastL (pre ++ l) mv⟩ : S89) ∈ truthsFrom mv rs ms pre
  | [], pre, [], _, h => by
    simp only [List.append_nil] at h ⊢
    simp [truthsFrom, h]
  | [], _, _ :: _, h, _ => by simp [okB] at h
  | _ :: _, _, [], h, _ => by simp [okB] at h
  | m :: ms, pre, n :: l, h, hl => by
    simp only [okB, Bool.and_eq_true] at h
    have hn := h.1
    simp only [meshOk, inB, Bool.and_eq_true, decide_eq_true_eq] at hn
    simp only [truthsFrom, List.mem_flatMap]
    refine ⟨n, ?_, ?_⟩
    · simp only [upTo, List.mem_map, List.mem_range]
      exact ⟨(n - m.f0.f0).toNat, by omega, by omega⟩
    · have := truthsFrom_has mv rs ms (pre ++ [n]) l h.2 (by simpa using hl)
      simpa using this
theorem truth_mem {ms : List S64} {mv : List Int} {rs : List S66} {pl : List Int} (h : pieceB ms mv rs = true) (ho : okPl pl) (hb : okB pl ms = true) (hlm : pl.length = ms.length) (hf : fitB rs pl mv = true) : (⟨pl, lastC pl mv⟩ : S89) ∈ truthsL ms mv rs := by
  obtain ⟨p1, p2, p3, _⟩ := piece_len h
  have h1 := truthsFrom_has mv rs ms [] pl hb (by rw [List.nil_append, live_fit h ho hlm]; exact hf)
  rwa [List.nil_append, lastL_eq ho (by omega) (piece_okMv h) (by omega)] at h1
theorem sumW_go : ∀ (l : List Int) (s : Int), okPl l → -100000 ≤ s → s + 100 * (l.length : Int) ≤ 1000000 → l.foldl (fun s x => wrap64 (s + x)) s = s + sumP l
  | [], s, _, _, _ => by simp [sumP]
  | x :: l, s, ho, h1, h2 => by
    have hx := ho.head
    simp only [List.length_cons, Int.natCast_add, Int.natCast_one] at h2
    simp only [List.foldl_cons, sumP]
    rw [wr_in (by omega) (by omega), sumW_go l (s + x) ho.tail (by omega) (by omega)]
    omega
theorem sumP_take : ∀ (l : List Int) (k : Nat), sumP (l.take k) = sumP' l k
  | [], k => by simp [sumP, sumP']
  | x :: l, 0 => by simp [sumP, sumP']
  | x :: l, k + 1 => by simp only [List.take_succ_cons, sumP, sumP', sumP_take l k]
theorem sumP'_le : ∀ (l : List Int) (k : Nat), okPl l → sumP' l k ≤ 100 * (l.length : Int)
  | [], k, _ => by simp [sumP']
  | x :: l, 0, h => by simp only [sumP', List.length_cons, Int.natCast_add]; omega
  | x :: l, k + 1, h => by
    have h1 := h.head
    have h2 := sumP'_le l k h.tail
    simp only [sumP', List.length_cons, Int.natCast_add, Int.natCast_one]
    omega
/-- Behind, and ahead, of one truth: plain numbers, none below 0. -/
theorem lost_vals {ms : List S64} {mv : List Int} {rs : List S66} (h : pieceB ms mv rs = true) {x : S89} (hx : x ∈ truthsL ms mv rs) {a : Nat} (h1 : 1 ≤ a) (h2 : a ≤ ms.length) :
    ∃ x0 v, x.f1[0]? = some x0 ∧ x.f1[a]? = some v ∧ behindF a x = x0 - v ∧ aheadF a x = sumP' x.f0 a - (x0 - v) ∧ 0 ≤ x0 - v ∧ x0 - v ≤ sumP' x.f0 a ∧ sumP' x.f0 a ≤ 400 := by
  obtain ⟨hl0, hl1⟩ := truthsL_mem hx
  obtain ⟨p1, p2, p3, _⟩ := piece_len h
  obtain ⟨ho, e, ⟨x0, r, e1, hc, _, _⟩, hb⟩ := truthsL_form h hx hl0
  have hrl := chainB_length _ _ _ hc
  obtain ⟨k, rfl⟩ : ∃ k, a = k + 1 := ⟨a - 1, by omega⟩
  obtain ⟨v, hv⟩ : ∃ v, r[k]? = some v := ⟨_, List.getElem?_eq_getElem (by omega)⟩
  have hn := chain_near x.f0 r x0 ho hc k v hv
  have hs := sumP'_le x.f0 (k + 1) ho
  have hx0 := hb x0 (by rw [e1]; simp)
  have hvb := hb v (by rw [e1]; exact List.mem_cons_of_mem _ (List.mem_of_getElem? hv))
  have eb : behindF (k + 1) x = x0 - v := by
    unfold behindF
    rw [e1]
    rw [show (x0 :: r).getD 0 0 = x0 from rfl, show (x0 :: r).getD (k + 1) 0 = v from by simp [List.getD_eq_getElem?_getD, hv]]
    exact wr_in (by omega) (by omega)
  have ea : aheadF (k + 1) x = sumP' x.f0 (k + 1) - (x0 - v) := by
    unfold aheadF
    have ho' : okPl (x.f0.take (k + 1)) := fun n hn => ho n (List.mem_of_mem_take hn)
    have hlt : (x.f0.take (k + 1)).length ≤ 4 := by rw [List.length_take]; omega
    have := sumW_go (x.f0.take (k + 1)) 0 ho' (by omega) (by omega)
    rw [eb, show sumW (x.f0.take (k + 1)) = sumP' x.f0 (k + 1) from by unfold sumW; rw [this, sumP_take]; omega]
    exact wr_in (by omega) (by omega)
  exact ⟨x0, v, by rw [e1]; rfl, by rw [e1]; simpa using hv, eb, ea, by omega, by omega, by omega⟩
theorem runCGo_on (pl : List Int) (m : Int) : ∀ (mv pc : List Int), (runCGo pl pc (mv ++ [m]))[mv.length + 1]? = some (movedC m pl (mv.foldl (fun pc m => movedC m pl pc) pc)) ∧ (runCGo pl pc (mv ++ [m]))[mv.length]? = some (mv.foldl (fun pc m => movedC m pl pc) pc)
  | [], pc => by simp [runCGo]
  | n :: mv, pc => by simpa [runCGo] using runCGo_on pl m mv (movedC n pl pc)
theorem runC_on (pl mv : List Int) (m : Int) : (runC pl (mv ++ [m]))[mv.length + 1]? = some (movedC m pl (lastC pl mv)) ∧ (runC pl (mv ++ [m]))[mv.length]? = some (lastC pl mv) := runCGo_on pl m mv _
theorem piece_on {ms : List S64} {mv : List Int} {rs : List S66} {m : Int} (h : pieceB ms mv rs = true) (hl : mv.length < 8) (h1 : -300 ≤ m) (h2 : m ≤ 300) : pieceB ms (mv ++ [m]) rs = true := by
  simp only [pieceB, Bool.and_eq_true, decide_eq_true_eq, Bool.not_eq_true', anyB, List.any_eq_false] at h ⊢
  obtain ⟨q1, q2, q3, q4, q5, q6⟩ := h
  refine ⟨q1, by simp; omega, q3, q4, fun x hx => ?_, fun r hr => ?_⟩
  · rcases List.mem_append.1 hx with hx | hx
    · exact q5 x hx
    · simp at hx
      subst hx
      simp [moveBad, inB]
      omega
  · have := q6 r hr
    simp only [readingBad, inB, Bool.or_eq_true, Bool.not_eq_true', not_or, Bool.not_eq_false', Bool.and_eq_true, decide_eq_true_eq, Bool.not_eq_false] at this ⊢
    simp only [List.length_append, List.length_cons, List.length_nil]
    omega
/-- The theorem of lost motion. -/
structure TurnOk (pl mv : List Int) (a : Nat) (m : Int) (on back : S44) (p q : Int) : Prop where
  o0 : 0 ≤ on.f0
  b0 : 0 ≤ back.f0
  o1 : on.f0 ≤ on.f1
  b1 : back.f0 ≤ back.f1
  l : -10000 ≤ p ∧ p ≤ 10000 ∧ -10000 ≤ q ∧ q ≤ 10000
  s : m ≤ on.f0 → -m ≤ back.f0 → p - q = 0
  f : on.f1 < m → 0 < p - q
  b : back.f1 < -m → p - q < 0
theorem turn_law {ms : List S64} {mv : List Int} {rs : List S66} {pl : List Int} (h : pieceB ms mv rs = true) (ho : okPl pl) (hb : okB pl ms = true) (hlm : pl.length = ms.length) (hf : fitB rs pl mv = true) {a : Nat} (h1 : 1 ≤ a) (h2 : a ≤ ms.length) {m : Int} (h3 : -300 ≤ m) (h4 : m ≤ 300) :
    ∃ p q, (movedC m pl (lastC pl mv))[a]? = some p ∧ (lastC pl mv)[a]? = some q ∧ TurnOk pl mv a m (overL (lostS a 0) (truthsL ms mv rs)) (overL (lostS a 1) (truthsL ms mv rs)) p q := by
  have hmem := truth_mem h ho hb hlm hf
  have hne : truthsL ms mv rs ≠ [] := fun e => by rw [e] at hmem; simp at hmem
  obtain ⟨x0, v, e0, ev, eb, ea, g1, g2, g3⟩ := lost_vals h hmem h1 h2
  simp only at e0 ev eb ea g1 g2 g3
  obtain ⟨p1, p2, p3, _⟩ := piece_len h
  have hinv := lastC_inv (mv := mv) ho (piece_okMv h)
  obtain ⟨y0, r, e1, hc, hy1, hy2⟩ := hinv
  obtain ⟨k, rfl⟩ : ∃ k, a = k + 1 := ⟨a - 1, by omega⟩
  rw [e1] at e0 ev
  simp only [List.getElem?_cons_zero, Option.some.injEq, List.getElem?_cons_succ] at e0 ev
  subst e0
  have hm := moved_at pl r y0 (y0 + m) ho hc k v ev
  have o := overL_le (f := lostS (k + 1) 0) hmem
  have b := overL_le (f := lostS (k + 1) 1) hmem
  obtain ⟨⟨y, hy, ey⟩, ⟨z, hz, ez⟩⟩ := overL_ex (f := lostS (k + 1) 0) hne
  obtain ⟨⟨y', hy', ey'⟩, ⟨z', hz', ez'⟩⟩ := overL_ex (f := lostS (k + 1) 1) hne
  obtain ⟨_, _, _, _, _, fy, i1, i2, _⟩ := lost_vals h hy h1 h2
  obtain ⟨_, _, _, _, fz, _, j1, j2, _⟩ := lost_vals h hy' h1 h2
  have eo : lostS (k + 1) 0 ⟨pl, lastC pl mv⟩ = one (aheadF (k + 1) ⟨pl, lastC pl mv⟩) := rfl
  have ebk : lostS (k + 1) 1 ⟨pl, lastC pl mv⟩ = one (behindF (k + 1) ⟨pl, lastC pl mv⟩) := rfl
  have eoy : (lostS (k + 1) 0 y).f0 = aheadF (k + 1) y := rfl
  have eby : (lostS (k + 1) 1 y').f0 = behindF (k + 1) y' := rfl
  rw [eo, ea] at o
  rw [ebk, eb] at b
  rw [eoy, fy] at ey
  rw [eby, fz] at ey'
  simp only [one] at o b
  refine ⟨min (y0 + m) (max (y0 + m - sumP' pl (k + 1)) v), v, by rw [e1]; simpa [movedC] using hm, by rw [e1]; simpa using ev, ?_⟩
  constructor
  · omega
  · omega
  · omega
  · omega
  · omega
  · intro q1 q2
    omega
  · intro q1
    omega
  · intro q1
    omega
end Go.Proofs.YtaojkmalpihmbaaGreatDoor.M

-- Written by wip/pr.py (print.py with given contracts) out of the translation. Lean checks it.
namespace Go.Proofs.YtaojkmalpihmbaaGreatDoor.Q
open Go.RowKit Go.Proofs.YtaojkmalpihmbaaGreatDoorW.PrintWords Go.Proofs.YtaojkmalpihmbaaGreatDoorW.PrintLast Go.Proofs.YtaojkmalpihmbaaGreatDoorW.PrintMore
attribute [local go_sem] max2_int min2_int max_two min_two max_three min_three max_four min_four   -- for this text's walks alone
set_option linter.unusedVariables false
set_option linter.unusedSimpArgs false

-- NOT PRINTED: function 55 (tellurionref03_Ends)

-- NOT PRINTED: function 21 (tellurionref03_Known)

/-! ### tellurionref03_sum: function 59 -/
def tellurionref03_sum.l0 : Nat → List Int → Int → Int → Int → Option (Int)
  | 0, _, _, _, _ => none
  | k + 1, x0, x1, x5, x6 => if x6 < x1 then (if 0 ≤ x6 then (if x6 < (x0.length : Int) then (tellurionref03_sum.l0 k x0 x1 (wrap64 (x5 + (rd x0 x6))) (wrap64 (x6 + 1))) else (none)) else (none)) else (some x5)
def tellurionref03_sum.f (k : Nat) (l0 : List Int) (a1 : Int) : Option (Int) := tellurionref03_sum.l0 k l0 a1 0 0
theorem tellurionref03_sum.mono_l : ∀ k, (∀ y0 y1 y2 y3, LeO (tellurionref03_sum.l0 k y0 y1 y2 y3) (tellurionref03_sum.l0 (k + 1) y0 y1 y2 y3))
  | 0 => fun _ _ _ _ r h => by simp [tellurionref03_sum.l0] at h
  | k + 1 => by
    have ih0 := tellurionref03_sum.mono_l k
    · intro y0 y1 y2 y3
      unfold tellurionref03_sum.l0
      repeat' first
      | (with_reducible exact ih0 _ _ _ _)
      | (with_reducible exact LeO.refl _)
      | (with_reducible exact LeO.none _)
      | (with_reducible refine LeO.ite ?_ ?_)
      | (with_reducible refine LeO.bind ?_ (fun _ => ?_))
      | exact ih0 _ _ _ _
      | exact LeO.none _
      | refine LeO.ite ?_ ?_
      | refine LeO.bind ?_ (fun _ => ?_)
theorem tellurionref03_sum.mono : ∀ a0 a1 k, LeO (tellurionref03_sum.f k a0 a1) (tellurionref03_sum.f (k + 1) a0 a1) := by
  intro a0 a1 k
  have ih0 := tellurionref03_sum.mono_l k
  unfold tellurionref03_sum.f
  repeat' first
      | (with_reducible exact ih0 _ _ _ _)
      | (with_reducible exact LeO.refl _)
      | (with_reducible exact LeO.none _)
      | (with_reducible refine LeO.ite ?_ ?_)
      | (with_reducible refine LeO.bind ?_ (fun _ => ?_))
      | exact ih0 _ _ _ _
      | exact LeO.none _
      | refine LeO.ite ?_ ?_
      | refine LeO.bind ?_ (fun _ => ?_)
set_option maxHeartbeats 8000000 in
set_option maxRecDepth 100000 in
theorem tellurionref03_sum.calls (k : Nat) (A0 : Option Addr) (c0 : Nat) (l0 : List Int) (a1 : Int) (r : Int) (w : World) (hr0 : Kd.C (Kd.int .i64) w A0 l0.length l0) (hc0 : l0.length ≤ c0) (h : tellurionref03_sum.f k l0 a1 = some r) :
    Calls Tryz.prog 59 #[.slice A0 l0.length c0, .int .i64 a1] w fun e w' => e = .returned (.int .i64 r) ∧ Drawn0 w w' := by
  have HR0 := Aside0.mk hr0
  have HC0 := Aside0.mk hc0
  clear hr0 hc0
  have H : (tellurionref03_sum.l0 k l0 a1 0 0) = some r := h
  clear h
  have H' := Aside0.mk H
  clear H
  go_enter Tryz.func59, Tryz.ntmps59
  go_wp2
  go_loopg [5, 6] k (fun kq v5 v6 w' => ∃ (x5_1 : Int) (x6_1 : Int), v5 = .int .i64 x5_1 ∧ v6 = .int .i64 x6_1 ∧ Aside0 (tellurionref03_sum.l0 kq l0 a1 x5_1 x6_1 = some r) ∧ Aside0 (kq ≤ k) ∧ Drawn0 w w')
  case atStart => exact ⟨(0), (0), (by first | rfl | (simp; done) | (simp [*]; done)), (by first | rfl | (simp; done) | (simp [*]; done)), H', ⟨Nat.le_refl _⟩, by repeat (first | exact Drawn0.refl _ | apply Drawn0.step)⟩
  case round =>
    clear H'
    try clear p2
    obtain ⟨x5_1, x6_1, rfl, rfl, HA, HK1, ⟨m1, rfl⟩⟩ := hrel
    cases gk with
    | zero => exact absurd HA.out (by simp [tellurionref03_sum.l0])
    | succ k1 =>
      have H := HA.out
      clear HA
      simp only [tellurionref03_sum.l0] at H
      by_cases c3 : x6_1 < a1
      · rw [if_pos c3] at H
        have c3b0 : decide (x6_1 < a1) = true := decide_eq_true c3
        clear c3
        by_cases c4 : 0 ≤ x6_1
        · rw [if_pos c4] at H
          have c4b0 : decide (0 ≤ x6_1) = true := decide_eq_true c4
          clear c4
          by_cases c5 : x6_1 < (l0.length : Int)
          · rw [if_pos c5] at H
            have c5b0 : decide (x6_1 < (l0.length : Int)) = true := decide_eq_true c5
            clear c5
            have H' := Aside0.mk H
            clear H
            have p158 : 0 ≤ (x6_1 : Int) := of_decide_eq_true (by first | (with_reducible assumption) | assumption)
            have q158 : x6_1 < (l0.length : Int) := of_decide_eq_true (by first | (with_reducible assumption) | assumption)
            obtain ⟨ad158, e158, hx158_0⟩ := Kd.at_int HR0.out x6_1 p158 q158
            cases e158
            replace p158 := eq_true p158
            replace q158 := eq_true q158
            go_wp2
            go_roundg k1
            case measure => have := HK1.out; omega
            case rel => exact ⟨(wrap64 (x5_1 + (rd l0 x6_1))), (wrap64 (x6_1 + 1)), (by first | rfl | (simp; done) | (simp [*]; done)), (by first | rfl | (simp; done) | (simp [*]; done)), H', ⟨by have := HK1.out; omega⟩, by repeat (first | exact Drawn0.refl _ | apply Drawn0.step)⟩
          · rw [if_neg c5] at H
            exact absurd H (by simp)
        · rw [if_neg c4] at H
          exact absurd H (by simp)
      · rw [if_neg c3] at H
        have c3b0 : decide (x6_1 < a1) = false := decide_eq_false c3
        clear c3
        obtain rfl := Option.some.inj H
        go_wp2
        go_ret
        exact ⟨by first | rfl | (simp; done) | (simp [*]; done), by repeat (first | exact Drawn0.refl _ | apply Drawn0.step)⟩

-- NOT PRINTED: function 25 (tellurionref03_Lost)

/-! ### tellurionlaw03_brief: function 28 -/
def tellurionlaw03_brief.f (a0_0 : Int) (a0_1 : Int) (a0_2 : Int) (l0_3 : List (S44)) : Option (Bool) := some (decide ((l0_3.length : Int) ≤ 10))
set_option maxHeartbeats 8000000 in
set_option maxRecDepth 100000 in
theorem tellurionlaw03_brief.calls (a0_0 : Int) (a0_1 : Int) (a0_2 : Int) (A0_3 : Option Addr) (c0_3 : Nat) (l0_3 : List (S44)) (r : Bool) (w : World) (hr0_3 : Kd.C k44 w A0_3 l0_3.length l0_3) (hc0_3 : l0_3.length ≤ c0_3) (h : tellurionlaw03_brief.f a0_0 a0_1 a0_2 l0_3 = some r) :
    Calls Tryz.prog 28 #[.agg #[.int .i64 a0_0, .int .i64 a0_1, .int .i64 a0_2, .slice A0_3 l0_3.length c0_3]] w fun e w' => e = .returned (.bool r) ∧ Below w.heap.size w w' := by
  have hu52 := Tryz.underlying52
  have HR0_3 := Aside0.mk hr0_3
  have HC0_3 := Aside0.mk hc0_3
  clear hr0_3 hc0_3
  have HB := Aside0.mk (Below.refl w.heap.size w)
  have H : (some (decide ((l0_3.length : Int) ≤ 10))) = some r := h
  clear h
  obtain rfl := Option.some.inj H
  go_enter Tryz.func28, Tryz.ntmps28
  go_wp2_with (first | ((with_reducible refine gate_dst (N := 1) rfl ?_); refine box_event ?hg (N := 1) ?hd (cs := #[.int .i64 a0_0, .int .i64 a0_1, .int .i64 a0_2, .slice A0_3 l0_3.length c0_3]) (t := 52) ?hr ?_; (case hd => rfl); (case hg => rfl); (case hr => first | (go_simp; done) | (go_simp; rfl)); intro gb162 hg w2 hbox hb; have n0_ := Aside0.mk (below_step (by repeat (first | (with_reducible first | exact HB.out | apply below_alloc | apply pw_below_drewN | apply below_drew1) | exact HB.out)) hb); have n1_ := Aside0.mk (hbox); have n2_ := Aside0.mk ((by rw [hg]; exact (below_size (by repeat (first | (with_reducible first | exact HB.out | apply below_alloc | apply pw_below_drewN | apply below_drew1) | exact HB.out))) : w.heap.size ≤ gb162)); have n3_ := Aside0.mk ((by rw [hg]; exact (below_size (by repeat (first | (with_reducible first | exact HB.out | apply below_alloc | apply pw_below_drewN | apply below_drew1) | exact HB.out))) : w.heap.size ≤ gb162)); clear HB; have HB := n0_; have BK162 := n1_; have GW162 := n2_; have GE162 := n3_; clear n0_ n1_ n2_ n3_; clear hb hbox hg; have hcz3_0 : w2.cell? ⟨gb162, 0, none⟩ = some (.int .i64 a0_0) := (blk_cell BK162.out 0).trans rfl; have hcz3_1 : w2.cell? ⟨gb162, 1, none⟩ = some (.int .i64 a0_1) := (blk_cell BK162.out 1).trans rfl; have hcz3_2 : w2.cell? ⟨gb162, 2, none⟩ = some (.int .i64 a0_2) := (blk_cell BK162.out 2).trans rfl; have hcz3_3 : w2.cell? ⟨gb162, 3, none⟩ = some (.slice A0_3 l0_3.length c0_3) := (blk_cell BK162.out 3).trans rfl; have hfz3_0 := blk_frozen BK162.out 0; have hfz3_1 := blk_frozen BK162.out 1; have hfz3_2 := blk_frozen BK162.out 2; have hfz3_3 := blk_frozen BK162.out 3))
  go_ret
  exact ⟨by first | rfl | (simp [errW_none, errW_some] <;> rfl) | (simp [*, errW_none, errW_some] <;> rfl), by repeat (first | (with_reducible first | exact HB.out | apply below_alloc | apply pw_below_drewN | apply below_drew1 | refine below_set ?_ GE162.out) | exact HB.out)⟩


end Go.Proofs.YtaojkmalpihmbaaGreatDoor.Q

