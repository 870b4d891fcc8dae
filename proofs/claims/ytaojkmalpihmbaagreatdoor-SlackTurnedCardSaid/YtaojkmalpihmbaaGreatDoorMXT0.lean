import Derived.Test.YtaojkmalpihmbaaGreatDoorMRD
import Derived.Test.YtaojkmalpihmbaaGreatDoorB42
namespace Go.Proofs.YtaojkmalpihmbaaGreatDoor.M
open Go.RowKit Go.Proofs.YtaojkmalpihmbaaGreatDoorW.PrintWords Go.Proofs.YtaojkmalpihmbaaGreatDoorW.PrintLast Go.Proofs.YtaojkmalpihmbaaGreatDoorW.PrintMore Go.Proofs.YtaojkmalpihmbaaGreatDoor.Q
set_option linter.unusedVariables false
set_option linter.unusedSimpArgs false

/-! Plain: what is true of all truths; lost motion. -/
theorem over_fold (f : S89 → S44) : ∀ (T : List S89) (s : S44),
    (T.foldl (fun s y => widerS s (f y) false) s).f0 ≤ s.f0 ∧ s.f1 ≤ (T.foldl (fun s y => widerS s (f y) false) s).f1 ∧
    (∀ x ∈ T, (T.foldl (fun s y => widerS s (f y) false) s).f0 ≤ (f x).f0 ∧ (f x).f1 ≤ (T.foldl (fun s y => widerS s (f y) false) s).f1) ∧
    ((T.foldl (fun s y => widerS s (f y) false) s).f0 = s.f0 ∨ ∃ y ∈ T, (T.foldl (fun s y => widerS s (f y) false) s).f0 = (f y).f0) ∧
    ((T.foldl (fun s y => widerS s (f y) false) s).f1 = s.f1 ∨ ∃ y ∈ T, (T.foldl (fun s y => widerS s (f y) false) s).f1 = (f y).f1)
  | [], s => ⟨Int.le_refl _, Int.le_refl _, fun x hx => by simp at hx, .inl rfl, .inl rfl⟩
  | x :: T, s => by
    obtain ⟨h1, h2, h3, h4, h5⟩ := over_fold f T (widerS s (f x) false)
    have e0 : (widerS s (f x) false).f0 = mn s.f0 (f x).f0 := rfl
    have e1 : (widerS s (f x) false).f1 = mx s.f1 (f x).f1 := rfl
    rw [mn_eq] at e0
    rw [mx_eq] at e1
    simp only [List.foldl_cons]
    refine ⟨by omega, by omega, fun y hy => ?_, ?_, ?_⟩
    · rcases List.mem_cons.1 hy with rfl | hy
      · omega
      · exact h3 y hy
    · rcases h4 with h4 | ⟨y, hy, h4⟩
      · rcases (show mn s.f0 (f x).f0 = s.f0 ∨ mn s.f0 (f x).f0 = (f x).f0 by rw [mn_eq]; omega) with h | h
        · exact .inl (by rw [h4]; exact h)
        · exact .inr ⟨x, List.mem_cons_self .., by rw [h4]; exact h⟩
      · exact .inr ⟨y, List.mem_cons_of_mem _ hy, h4⟩
    · rcases h5 with h5 | ⟨y, hy, h5⟩
      · rcases (show mx s.f1 (f x).f1 = s.f1 ∨ mx s.f1 (f x).f1 = (f x).f1 by rw [mx_eq]; omega) with h | h
        · exact .inl (by rw [h5]; exact h)
        · exact .inr ⟨x, List.mem_cons_self .., by rw [h5]; exact h⟩
      · exact .inr ⟨y, List.mem_cons_of_mem _ hy, h5⟩
theorem overL_le {f : S89 → S44} {T : List S89} {x : S89} (hx : x ∈ T) : (overL f T).f0 ≤ (f x).f0 ∧ (f x).f1 ≤ (overL f T).f1 := by
  rcases T with _ | ⟨y, T⟩
  · simp at hx
  · obtain ⟨h1, h2, h3, _, _⟩ := over_fold f T (f y)
    rcases List.mem_cons.1 hx with rfl | hx
    · exact ⟨h1, h2⟩
    · exact h3 x hx
theorem overL_ex {f : S89 → S44} {T : List S89} (hT : T ≠ []) : (∃ y ∈ T, (overL f T).f0 = (f y).f0) ∧ ∃ y ∈ T, (overL f T).f1 = (f y).f1 := by
  rcases T with _ | ⟨y, T⟩
  · exact absurd rfl hT
  · obtain ⟨_, _, _, h4, h5⟩ := over_fold f T (f y)
    constructor
    · rcases h4 with h4 | ⟨z, hz, h4⟩
      · exact ⟨y, List.mem_cons_self .., h4⟩
      · exact ⟨z, List.mem_cons_of_mem _ hz, h4⟩
    · rcases h5 with h5 | ⟨z, hz, h5⟩
      · exact ⟨y, List.mem_cons_self .., h5⟩
      · exact ⟨z, List.mem_cons_of_mem _ hz, h5⟩
theorem truthsFrom_has (mv : List Int) (rs : List S66) : ∀ (ms : List S64) (pre l : List Int), okB l ms = true → liveB rs (pre ++ l) mv = true → (⟨pre ++ l, lastL (pre ++ l) mv⟩ : S89) ∈ truthsFrom mv rs ms pre
  | [], pre, [], _, h => by
    simp only [List.append_nil] at h ⊢
    simp [truthsFrom, h]
  | [], _, _ :: _, h, _ => by simp [okB] at h
  | _ :: _, _, [], h, _ => by simp [okB] at h
  | m :: ms, pre, n :: l, h, hl => by
    simp only [okB, Bool.and_eq_true] at h
    have hn := h.1
    simp only [meshOk, inB, Bool.and_eq_true, decide_eq_true_eq] at hn
    simp only [truthsFrom, List.mem_flatMap]
    refine ⟨n, ?_, ?_⟩
    · simp only [upTo, List.mem_map, List.mem_range]
      exact ⟨(n - m.f0.f0).toNat, by omega, by omega⟩
    · have := truthsFrom_has mv rs ms (pre ++ [n]) l h.2 (by simpa using hl)
      simpa using this
theorem truth_mem {ms : List S64} {mv : List Int} {rs : List S66} {pl : List Int} (h : pieceB ms mv rs = true) (ho : okPl pl) (hb : okB pl ms = true) (hlm : pl.length = ms.length) (hf : fitB rs pl mv = true) : (⟨pl, lastC pl mv⟩ : S89) ∈ truthsL ms mv rs := by
  obtain ⟨p1, p2, p3, _⟩ := piece_len h
  have h1 := truthsFrom_has mv rs ms [] pl hb (by rw [List.nil_append, live_fit h ho hlm]; exact hf)
  rwa [List.nil_append, lastL_eq ho (by omega) (piece_okMv h) (by omega)] at h1
theorem sumW_go : ∀ (l : List Int) (s : Int), okPl l → -100000 ≤ s → s + 100 * (l.length : Int) ≤ 1000000 → l.foldl (fun s x => wrap64 (s + x)) s = s + sumP l
  | [], s, _, _, _ => by simp [sumP]
  | x :: l, s, ho, h1, h2 => by
    have hx := ho.head
    simp only [List.length_cons, Int.natCast_add, Int.natCast_one] at h2
    simp only [List.foldl_cons, sumP]
    rw [wr_in (by omega) (by omega), sumW_go l (s + x) ho.tail (by omega) (by omega)]
    omega
theorem sumP_take : ∀ (l : List Int) (k : Nat), sumP (l.take k) = sumP' l k
  | [], k => by simp [sumP, sumP']
  | x :: l, 0 => by simp [sumP, sumP']
  | x :: l, k + 1 => by simp only [List.take_succ_cons, sumP, sumP', sumP_take l k]
theorem sumP'_le : ∀ (l : List Int) (k : Nat), okPl l → sumP' l k ≤ 100 * (l.length : Int)
  | [], k, _ => by simp [sumP']
  | x :: l, 0, h => by simp only [sumP', List.length_cons, Int.natCast_add]; omega
  | x :: l, k + 1, h => by
    have h1 := h.head
    have h2 := sumP'_le l k h.tail
    simp only [sumP', List.length_cons, Int.natCast_add, Int.natCast_one]
    omega
/-- Behind, and ahead, of one truth: plain numbers, none below 0. -/
theorem lost_vals {ms : List S64} {mv : List Int} {rs : List S66} (h : pieceB ms mv rs = true) {x : S89} (hx : x ∈ truthsL ms mv rs) {a : Nat} (h1 : 1 ≤ a) (h2 : a ≤ ms.length) :
    ∃ x0 v, x.f1[0]? = some x0 ∧ x.f1[a]? = some v ∧ behindF a x = x0 - v ∧ aheadF a x = sumP' x.f0 a - (x0 - v) ∧ 0 ≤ x0 - v ∧ x0 - v ≤ sumP' x.f0 a ∧ sumP' x.f0 a ≤ 400 := by
  obtain ⟨hl0, hl1⟩ := truthsL_mem hx
  obtain ⟨p1, p2, p3, _⟩ := piece_len h
  obtain ⟨ho, e, ⟨x0, r, e1, hc, _, _⟩, hb⟩ := truthsL_form h hx hl0
  have hrl := chainB_length _ _ _ hc
  obtain ⟨k, rfl⟩ : ∃ k, a = k + 1 := ⟨a - 1, by omega⟩
  obtain ⟨v, hv⟩ : ∃ v, r[k]? = some v := ⟨_, List.getElem?_eq_getElem (by omega)⟩
  have hn := chain_near x.f0 r x0 ho hc k v hv
  have hs := sumP'_le x.f0 (k + 1) ho
  have hx0 := hb x0 (by rw [e1]; simp)
  have hvb := hb v (by rw [e1]; exact List.mem_cons_of_mem _ (List.mem_of_getElem? hv))
  have eb : behindF (k + 1) x = x0 - v := by
    unfold behindF
    rw [e1]
    rw [show (x0 :: r).getD 0 0 = x0 from rfl, show (x0 :: r).getD (k + 1) 0 = v from by simp [List.getD_eq_getElem?_getD, hv]]
    exact wr_in (by omega) (by omega)
  have ea : aheadF (k + 1) x = sumP' x.f0 (k + 1) - (x0 - v) := by
    unfold aheadF
    have ho' : okPl (x.f0.take (k + 1)) := fun n hn => ho n (List.mem_of_mem_take hn)
    have hlt : (x.f0.take (k + 1)).length ≤ 4 := by rw [List.length_take]; omega
    have := sumW_go (x.f0.take (k + 1)) 0 ho' (by omega) (by omega)
    rw [eb, show sumW (x.f0.take (k + 1)) = sumP' x.f0 (k + 1) from by unfold sumW; rw [this, sumP_take]; omega]
    exact wr_in (by omega) (by omega)
  exact ⟨x0, v, by rw [e1]; rfl, by rw [e1]; simpa using hv, eb, ea, by omega, by omega, by omega⟩
theorem runCGo_on (pl : List Int) (m : Int) : ∀ (mv pc : List Int), (runCGo pl pc (mv ++ [m]))[mv.length + 1]? = some (movedC m pl (mv.foldl (fun pc m => movedC m pl pc) pc)) ∧ (runCGo pl pc (mv ++ [m]))[mv.length]? = some (mv.foldl (fun pc m => movedC m pl pc) pc)
  | [], pc => by simp [runCGo]
  | n :: mv, pc => by simpa [runCGo] using runCGo_on pl m mv (movedC n pl pc)
theorem runC_on (pl mv : List Int) (m : Int) : (runC pl (mv ++ [m]))[mv.length + 1]? = some (movedC m pl (lastC pl mv)) ∧ (runC pl (mv ++ [m]))[mv.length]? = some (lastC pl mv) := runCGo_on pl m mv _
theorem piece_on {ms : List S64} {mv : List Int} {rs : List S66} {m : Int} (h : pieceB ms mv rs = true) (hl : mv.length < 8) (h1 : -300 ≤ m) (h2 : m ≤ 300) : pieceB ms (mv ++ [m]) rs = true := by
  simp only [pieceB, Bool.and_eq_true, decide_eq_true_eq, Bool.not_eq_true', anyB, List.any_eq_false] at h ⊢
  obtain ⟨q1, q2, q3, q4, q5, q6⟩ := h
  refine ⟨q1, by simp; omega, q3, q4, fun x hx => ?_, fun r hr => ?_⟩
  · rcases List.mem_append.1 hx with hx | hx
    · exact q5 x hx
    · simp at hx
      subst hx
      simp [moveBad, inB]
      omega
  · have := q6 r hr
    simp only [readingBad, inB, Bool.or_eq_true, Bool.not_eq_true', not_or, Bool.not_eq_false', Bool.and_eq_true, decide_eq_true_eq, Bool.not_eq_false] at this ⊢
    simp only [List.length_append, List.length_cons, List.length_nil]
    omega
/-- The theorem of lost motion. -/
structure TurnOk (pl mv : List Int) (a : Nat) (m : Int) (on back : S44) (p q : Int) : Prop where
  o0 : 0 ≤ on.f0
  b0 : 0 ≤ back.f0
  o1 : on.f0 ≤ on.f1
  b1 : back.f0 ≤ back.f1
  l : -10000 ≤ p ∧ p ≤ 10000 ∧ -10000 ≤ q ∧ q ≤ 10000
  s : m ≤ on.f0 → -m ≤ back.f0 → p - q = 0
  f : on.f1 < m → 0 < p - q
  b : back.f1 < -m → p - q < 0
theorem turn_law {ms : List S64} {mv : List Int} {rs : List S66} {pl : List Int} (h : pieceB ms mv rs = true) (ho : okPl pl) (hb : okB pl ms = true) (hlm : pl.length = ms.length) (hf : fitB rs pl mv = true) {a : Nat} (h1 : 1 ≤ a) (h2 : a ≤ ms.length) {m : Int} (h3 : -300 ≤ m) (h4 : m ≤ 300) :
    ∃ p q, (movedC m pl (lastC pl mv))[a]? = some p ∧ (lastC pl mv)[a]? = some q ∧ TurnOk pl mv a m (overL (lostS a 0) (truthsL ms mv rs)) (overL (lostS a 1) (truthsL ms mv rs)) p q := by
  have hmem := truth_mem h ho hb hlm hf
  have hne : truthsL ms mv rs ≠ [] := fun e => by rw [e] at hmem; simp at hmem
  obtain ⟨x0, v, e0, ev, eb, ea, g1, g2, g3⟩ := lost_vals h hmem h1 h2
  simp only at e0 ev eb ea g1 g2 g3
  obtain ⟨p1, p2, p3, _⟩ := piece_len h
  have hinv := lastC_inv (mv := mv) ho (piece_okMv h)
  obtain ⟨y0, r, e1, hc, hy1, hy2⟩ := hinv
  obtain ⟨k, rfl⟩ : ∃ k, a = k + 1 := ⟨a - 1, by omega⟩
  rw [e1] at e0 ev
  simp only [List.getElem?_cons_zero, Option.some.injEq, List.getElem?_cons_succ] at e0 ev
  subst e0
  have hm := moved_at pl r y0 (y0 + m) ho hc k v ev
  have o := overL_le (f := lostS (k + 1) 0) hmem
  have b := overL_le (f := lostS (k + 1) 1) hmem
  obtain ⟨⟨y, hy, ey⟩, ⟨z, hz, ez⟩⟩ := overL_ex (f := lostS (k + 1) 0) hne
  obtain ⟨⟨y', hy', ey'⟩, ⟨z', hz', ez'⟩⟩ := overL_ex (f := lostS (k + 1) 1) hne
  obtain ⟨_, _, _, _, _, fy, i1, i2, _⟩ := lost_vals h hy h1 h2
  obtain ⟨_, _, _, _, fz, _, j1, j2, _⟩ := lost_vals h hy' h1 h2
  have eo : lostS (k + 1) 0 ⟨pl, lastC pl mv⟩ = one (aheadF (k + 1) ⟨pl, lastC pl mv⟩) := rfl
  have ebk : lostS (k + 1) 1 ⟨pl, lastC pl mv⟩ = one (behindF (k + 1) ⟨pl, lastC pl mv⟩) := rfl
  have eoy : (lostS (k + 1) 0 y).f0 = aheadF (k + 1) y := rfl
  have eby : (lostS (k + 1) 1 y').f0 = behindF (k + 1) y' := rfl
  rw [eo, ea] at o
  rw [ebk, eb] at b
  rw [eoy, fy] at ey
  rw [eby, fz] at ey'
  simp only [one] at o b
  refine ⟨min (y0 + m) (max (y0 + m - sumP' pl (k + 1)) v), v, by rw [e1]; simpa [movedC] using hm, by rw [e1]; simpa using ev, ?_⟩
  constructor
  · omega
  · omega
  · omega
  · omega
  · omega
  · intro q1 q2
    omega
  · intro q1
    omega
  · intro q1
    omega
end Go.Proofs.YtaojkmalpihmbaaGreatDoor.M
