import Derived.Test.YtaojkmalpihmbaaGreatDoorB29
import Derived.Deep.LoopGhost
import Derived.Deep.RegionHeld3
import Derived.IntWalk
import Derived.Test.YtaojkmalpihmbaaGreatDoorB23
import Derived.Test.YtaojkmalpihmbaaGreatDoorB27
namespace Go.Proofs.YtaojkmalpihmbaaGreatDoor.M
open Go.RowKit Go.Proofs.YtaojkmalpihmbaaGreatDoorW.PrintWords Go.Proofs.YtaojkmalpihmbaaGreatDoorW.PrintLast Go.Proofs.YtaojkmalpihmbaaGreatDoorW.PrintMore Go.Proofs.YtaojkmalpihmbaaGreatDoor.Q
set_option linter.unusedVariables false
set_option linter.unusedSimpArgs false

/-! cmp.Compare, cmp.Or, slices.Compare. -/
def cmpI (a b : Int) : Int := if a < b then -1 else if b < a then 1 else 0
theorem isNaN_calls (a : Int) (w : World) : Calls Tryz.prog 115 #[.int .i64 a] w fun e w' => e = .returned (.bool false) ∧ w = w' := by
  have h : (a != a) = false := by simp
  go_enter Tryz.func115, Tryz.ntmps115
  go_wp2
  go_ret
  exact ⟨by simp, rfl⟩
theorem cmpI_calls (a b : Int) (w : World) : Calls Tryz.prog 82 #[.int .i64 a, .int .i64 b] w fun e w' => e = .returned (.int .i64 (cmpI a b)) ∧ w = w' := by
  rcases Int.lt_trichotomy a b with h | h | h
  · go_enter Tryz.func82, Tryz.ntmps82
    go_wp2_with ((with_reducible refine (isNaN_calls _ _).mono ?_); rintro e w1 ⟨rfl, rfl⟩)
    go_ret
    exact ⟨by rw [show cmpI a b = -1 from if_pos h]; rfl, rfl⟩
  · subst h
    go_enter Tryz.func82, Tryz.ntmps82
    go_wp2_with ((with_reducible refine (isNaN_calls _ _).mono ?_); rintro e w1 ⟨rfl, rfl⟩)
    go_ret
    exact ⟨by rw [show cmpI a a = 0 by simp [cmpI]]; rfl, rfl⟩
  · have h' : ¬ a < b := by omega
    go_enter Tryz.func82, Tryz.ntmps82
    go_wp2_with ((with_reducible refine (isNaN_calls _ _).mono ?_); rintro e w1 ⟨rfl, rfl⟩)
    go_ret
    exact ⟨by rw [show cmpI a b = 1 by rw [cmpI, if_neg (by omega), if_pos h]]; rfl, rfl⟩
def orL : List Int → Int
  | [] => 0
  | x :: l => if x = 0 then orL l else x
theorem orL_zero : ∀ (l : List Int), (∀ (j : Nat) (x : Int), l[j]? = some x → x = 0) → orL l = 0
  | [], _ => rfl
  | x :: l, h => by
    rw [orL, if_pos (h 0 x rfl)]
    exact orL_zero l (fun j y hy => h (j + 1) y (by simpa using hy))
theorem orL_at : ∀ (l : List Int) (k : Nat) (x : Int), (∀ (j : Nat) (y : Int), j < k → l[j]? = some y → y = 0) → l[k]? = some x → x ≠ 0 → orL l = x
  | [], _, _, _, h, _ => by simp at h
  | a :: l, 0, x, _, h, hx => by
    simp at h
    subst h
    rw [orL, if_neg hx]
  | a :: l, k + 1, x, hb, h, hx => by
    rw [orL, if_pos (hb 0 a (by omega) rfl)]
    exact orL_at l k x (fun j y hj hy => hb (j + 1) y (by omega) (by simpa using hy)) (by simpa using h) hx
set_option maxHeartbeats 1000000 in
set_option maxRecDepth 100000 in
theorem orL_calls {w : World} {A : Option Addr} {c : Nat} {l : List Int} (h : IR w A c l) :
    Calls Tryz.prog 81 #[.slice A l.length c] w fun e w' => e = .returned (.int .i64 (orL l)) ∧ w = w' := by
  have H := Aside0.mk h
  have hl := h.l
  clear h
  go_enter Tryz.func81, Tryz.ntmps81
  go_wp2
  go_loopg [8] (l.length) (fun k i wr => ∃ (j : Nat), j + k = l.length ∧ i = .int .i64 j ∧ Aside0 (∀ (i : Nat) (y : Int), i < j → l[i]? = some y → y = 0) ∧ w = wr)
  case atStart => exact ⟨0, by omega, rfl, ⟨fun i y hi => by omega⟩, rfl⟩
  case round =>
    obtain ⟨j, hj, rfl, HZ, rfl⟩ := hrel
    have hj' : j ≤ l.length := by omega
    have HJ := Aside0.mk hj
    clear hj
    by_cases hlt : j < l.length
    · obtain ⟨x, hx⟩ : ∃ x, l[j]? = some x := ⟨_, List.getElem?_eq_getElem hlt⟩
      obtain ⟨ad, rfl, hc⟩ := at_int H.out.r hx hlt
      have HX := Aside0.mk hx
      clear hx
      by_cases hz : x = 0
      · subst hz
        go_wp2
        go_roundg (gk - 1)
        case measure => have := HJ.out; omega
        case rel =>
          refine ⟨j + 1, by have := HJ.out; omega, by go_num, ⟨fun i y hi hy => ?_⟩, rfl⟩
          rcases Nat.lt_or_ge i j with h1 | h1
          · exact HZ.out i y h1 hy
          · obtain rfl : i = j := by omega
            rw [HX.out] at hy
            cases hy
            rfl
      · have hz' : (x != 0) = true := by simpa using hz
        have HN := Aside0.mk hz
        clear hz
        go_wp2
        go_ret
        exact ⟨by rw [orL_at l j x HZ.out HX.out HN.out]; rfl, rfl⟩
    · obtain rfl : j = l.length := by omega
      go_wp2
      go_ret
      refine ⟨?_, rfl⟩
      rw [orL_zero l (fun i x hx => HZ.out i x (List.getElem?_eq_some_iff.1 hx).1 hx)]
      rfl
def cmpL : List Int → List Int → Int
  | [], [] => 0
  | [], _ :: _ => -1
  | _ :: _, [] => 1
  | a :: l, b :: m => if cmpI a b = 0 then cmpL l m else cmpI a b
set_option maxHeartbeats 1000000 in
set_option maxRecDepth 100000 in
theorem cmpL_calls {w : World} {A : Option Addr} {c : Nat} {l : List Int} (h : IR w A c l) {B : Option Addr} {d : Nat} {m : List Int} (k : IR w B d m) :
    Calls Tryz.prog 83 #[.slice A l.length c, .slice B m.length d] w fun e w' => e = .returned (.int .i64 (cmpL l m)) ∧ w = w' := by
  have H := Aside0.mk h
  have K := Aside0.mk k
  have hl := h.l
  have kl := k.l
  clear h k
  go_enter Tryz.func83, Tryz.ntmps83
  go_wp2
  go_loopg [11] (l.length) (fun k i wr => ∃ (j : Nat), j + k = l.length ∧ i = .int .i64 j ∧ j ≤ m.length ∧ Aside0 (cmpL l m = cmpL (l.drop j) (m.drop j)) ∧ w = wr)
  case atStart => exact ⟨0, by omega, rfl, by omega, ⟨rfl⟩, rfl⟩
  case round =>
    obtain ⟨j, hj, rfl, hjm, HZ, rfl⟩ := hrel
    have hj' : j ≤ l.length := by omega
    have HJ := Aside0.mk hj
    clear hj
    by_cases hlt : j < l.length
    · obtain ⟨x, hx⟩ : ∃ x, l[j]? = some x := ⟨_, List.getElem?_eq_getElem hlt⟩
      obtain ⟨ad, rfl, hc⟩ := at_int H.out.r hx hlt
      have HX := Aside0.mk (show l.drop j = x :: l.drop (j + 1) by rw [List.drop_eq_getElem_cons hlt]; congr 1; have := List.getElem?_eq_getElem hlt; rw [hx] at this; exact (Option.some.inj this).symm)
      clear hx
      by_cases hmt : j < m.length
      · obtain ⟨y, hy⟩ : ∃ y, m[j]? = some y := ⟨_, List.getElem?_eq_getElem hmt⟩
        obtain ⟨bd, rfl, hd⟩ := at_int K.out.r hy hmt
        have HY := Aside0.mk (show m.drop j = y :: m.drop (j + 1) by rw [List.drop_eq_getElem_cons hmt]; congr 1; have := List.getElem?_eq_getElem hmt; rw [hy] at this; exact (Option.some.inj this).symm)
        clear hy
        by_cases hz : cmpI x y = 0
        · have HN := Aside0.mk hz
          clear hz
          go_wp2_with ((with_reducible refine (cmpI_calls _ _ _).mono ?_); rintro e w1 ⟨rfl, rfl⟩; rw [HN.out])
          go_roundg (gk - 1)
          case measure => have := HJ.out; omega
          case rel => exact ⟨j + 1, by have := HJ.out; omega, by go_num, by omega, ⟨by rw [HZ.out, HX.out, HY.out, cmpL, if_pos HN.out]⟩, rfl⟩
        · obtain ⟨z, hzz⟩ : ∃ z, z = cmpI x y := ⟨_, rfl⟩
          have hz' : (z != 0) = true := by rw [hzz]; simpa using hz
          have HE := Aside0.mk hzz
          have HN := Aside0.mk hz
          clear hz hzz
          go_wp2_with ((with_reducible refine (cmpI_calls _ _ _).mono ?_); rintro e w1 ⟨rfl, rfl⟩; rw [← HE.out])
          go_ret
          exact ⟨by rw [HZ.out, HX.out, HY.out, cmpL, if_neg HN.out, ← HE.out]; rfl, rfl⟩
      · have HY := Aside0.mk (show m.drop j = [] from List.drop_eq_nil_of_le (by omega))
        have hge : m.length ≤ j := by omega
        go_wp2
        go_ret
        exact ⟨by rw [HZ.out, HX.out, HY.out]; rfl, rfl⟩
    · obtain rfl : j = l.length := by omega
      have HX := Aside0.mk (show l.drop l.length = [] from List.drop_eq_nil_of_le (Nat.le_refl _))
      by_cases hmt : l.length < m.length
      · have HY : Aside0 (∃ y r, m.drop l.length = y :: r) := ⟨⟨_, _, List.drop_eq_getElem_cons hmt⟩⟩
        go_wp2
        go_ret
        refine ⟨?_, rfl⟩
        obtain ⟨y, r, hy⟩ := HY.out
        rw [HZ.out, HX.out, hy]
        rfl
      · have HY := Aside0.mk (show m.drop l.length = [] from List.drop_eq_nil_of_le (by omega))
        go_wp2
        go_ret
        exact ⟨by rw [HZ.out, HX.out, HY.out]; rfl, rfl⟩
end Go.Proofs.YtaojkmalpihmbaaGreatDoor.M

namespace Go.Proofs.YtaojkmalpihmbaaGreatDoor.M
open Go.RowKit Go.Proofs.YtaojkmalpihmbaaGreatDoorW.PrintWords Go.Proofs.YtaojkmalpihmbaaGreatDoorW.PrintLast Go.Proofs.YtaojkmalpihmbaaGreatDoorW.PrintMore Go.Proofs.YtaojkmalpihmbaaGreatDoor.Q
set_option linter.unusedVariables false
set_option linter.unusedSimpArgs false

/-! Renew's closures; best of renewals. -/
def priceBad (x : Int) : Bool := !inB x 0 1000
theorem renew1_calls (w : World) : AnyFn 75 #[] w (fun x : Int => .int .i64 x) priceBad := by
  refine ⟨ent Tryz.func75 (by kernel_rfl) rfl, ?_⟩
  intro x W hB
  go_enter Tryz.func75, Tryz.ntmps75
  go_wp2_with ((with_reducible refine (in_calls _ _ _ _).mono ?_); rintro e w1 ⟨rfl, rfl⟩)
  go_ret
  exact ⟨rfl, Below.refl _ _⟩
theorem three_own (w : World) (x y z : Int) : OwnR (w.alloc (.cells #[.int .i64 x, .int .i64 y, .int .i64 z] 3)) w.heap.size [x, y, z] (.slice (some ⟨w.heap.size, 0, none⟩) 3 3) := by
  refine Kd.R_of_own ⟨by simp [encs], .inr ⟨w.heap.size, 3, #[.int .i64 x, .int .i64 y, .int .i64 z], rfl, Nat.le_refl _, heap_alloc_new w _, by simp, by simp [maxLen], by simp, by simp [encs]⟩⟩ (fun _ _ => trivial)
def betterR (x y : S109) : Bool := decide (orL [cmpI x.f1 y.f1, cmpI x.f0.length y.f0.length, cmpL x.f0 y.f0] < 0)
theorem three_ir {W : World} {x y z : Int} : IR (W.alloc (.cells #[.int .i64 x, .int .i64 y, .int .i64 z] 3)) (some ⟨W.heap.size, 0, none⟩) 3 [x, y, z] := OwnR.ir (n := 3) (three_own W x y z) (by simp)
theorem IR.drew {w : World} {A : Option Addr} {c : Nat} {l : List Int} (h : IR w A c l) : IR w.drew A c l := h.below (below_drew1 (Below.refl _ _))
set_option maxHeartbeats 2000000 in
set_option maxRecDepth 100000 in
theorem renew3_calls {w : World} {A : Option Addr} {c : Nat} {x : S109} (hx : IR w A c x.f0) {B : Option Addr} {d : Nat} {y : S109} (hy : IR w B d y.f0) :
    Calls Tryz.prog 80 #[.agg #[.slice A x.f0.length c, .int .i64 x.f1], .agg #[.slice B y.f0.length d, .int .i64 y.f1]] w fun e w' => e = .returned (.bool (betterR x y)) ∧ Below w.heap.size w w' := by
  have HX := Aside0.mk hx
  have HY := Aside0.mk hy
  have hlx := hx.l
  have hly := hy.l
  have HB0 := Aside0.mk (below_alloc (below_alloc (Below.refl w.heap.size w) (.cells #[.slice A x.f0.length c, .int .i64 x.f1] 109)) (.cells #[.slice B y.f0.length d, .int .i64 y.f1] 109))
  have hk0 := (Blk.new w #[.slice A x.f0.length c, .int .i64 x.f1] 109).alloc (.cells #[.slice B y.f0.length d, .int .i64 y.f1] 109)
  have hk1 := Blk.new (w.alloc (.cells #[.slice A x.f0.length c, .int .i64 x.f1] 109)) #[.slice B y.f0.length d, .int .i64 y.f1] 109
  rw [World.size_alloc] at hk1
  clear hx hy
  obtain ⟨c1, hc1⟩ : ∃ c1, c1 = cmpI x.f1 y.f1 := ⟨_, rfl⟩
  obtain ⟨c2, hc2⟩ : ∃ c2, c2 = cmpI x.f0.length y.f0.length := ⟨_, rfl⟩
  obtain ⟨c3, hc3⟩ : ∃ c3, c3 = cmpL x.f0 y.f0 := ⟨_, rfl⟩
  obtain ⟨r, hr⟩ : ∃ r, r = orL [c1, c2, c3] := ⟨_, rfl⟩
  have HF : Aside0 (betterR x y = decide (r < 0)) := ⟨by rw [hr, hc1, hc2, hc3]; rfl⟩
  have HC1 := Aside0.mk hc1
  have HC2 := Aside0.mk hc2
  have HC3 := Aside0.mk hc3
  have HR := Aside0.mk hr
  clear hc1 hc2 hc3 hr
  go_enter Tryz.func80, Tryz.ntmps80
  go_upto_region 1 with fail
  obtain ⟨W4, hW4⟩ : ∃ W4, (w.alloc (.cells #[.slice A x.f0.length c, .int .i64 x.f1] 109)).alloc (.cells #[.slice B y.f0.length d, .int .i64 y.f1] 109) = W4 := ⟨_, rfl⟩
  rw [hW4] at HB0 hk0 hk1 ⊢
  clear hW4
  have hp0 := hk0.cell 0 rfl
  have hp1 := hk0.cell 1 rfl
  have hq0 := hk1.cell 0 rfl
  have hq1 := hk1.cell 1 rfl
  have hlt0 := hk0.lt
  have hlt1 := hk1.lt
  clear hk0 hk1
  go_region_held3 (fun w' => w'.cell? ⟨w.heap.size, 0, none⟩ = some (.slice A x.f0.length c) ∧ w'.cell? ⟨w.heap.size, 1, none⟩ = some (.int .i64 x.f1) ∧ w'.cell? ⟨w.heap.size + 1, 0, none⟩ = some (.slice B y.f0.length d) ∧ w'.cell? ⟨w.heap.size + 1, 1, none⟩ = some (.int .i64 y.f1)) (go_keep) (first
    | (go_at_call 82; (with_reducible refine (cmpI_calls _ _ _).mono ?_); rintro e w1 ⟨rfl, rfl⟩; (first | rw [← HC1.out] | rw [← HC2.out]))
    | (go_at_call 83; (with_reducible refine (cmpL_calls (HX.out.below ?_) (HY.out.below ?_)).mono ?_); (repeat (first | exact HB0.out | apply below_alloc | apply below_drew1)); (repeat (first | exact HB0.out | apply below_alloc | apply below_drew1)); rintro e w1 ⟨rfl, rfl⟩; rw [← HC3.out])
    | (go_at_call 81; (refine (orL_calls (l := [c1, c2, c3]) ?_).mono ?_); (first | exact three_ir | exact three_ir.drew | exact three_ir (W := W4.drew)); rintro e w1 ⟨rfl, rfl⟩; rw [← HR.out]))
  all_goals (go_wp2_with fail)
  all_goals go_ret
  all_goals exact ⟨by rw [HF.out]; rfl, by first | exact below_drew1 (below_alloc HB0.out _) | exact below_alloc (below_drew1 HB0.out) _⟩
/-- A renewal that is read. -/
theorem at_renewal {w : World} {A : Option Addr} {n : Nat} {l : List S109} (h : Kd.C k109 w A n l) {j : Nat} {x : S109} (hx : l[j]? = some x) (hj : j < n) (hl : x.f0.length ≤ 1000) :
    ∃ ad Ap cp, A = some ad ∧ w.cell? (ad.add (j * 2)) = some (.slice Ap x.f0.length cp) ∧ w.cell? ⟨(ad.add (j * 2)).block, (ad.add (j * 2)).off + 1, none⟩ = some (.int .i64 x.f1) ∧ IR w Ap cp x.f0 := by
  obtain ⟨ad, Ap, cp, e, h0, h1, l0, g0⟩ := at_T109 h (j : Int) (by omega) (by omega)
  have hd : rd_T109 l (j : Int) = x := by unfold rd_T109; rw [Int.toNat_natCast, List.getD_eq_getElem?_getD, hx]; rfl
  rw [hd, Int.toNat_natCast] at h0 h1
  rw [hd] at l0 g0
  exact ⟨ad, Ap, cp, e, h0, h1, g0, l0, hl⟩
def bestGo {α : Type} (b : α → α → Bool) (out : α) : List α → α
  | [] => out
  | x :: l => bestGo b (if b x out then x else out) l
def bestOf {α : Type} (b : α → α → Bool) (z : α) : List α → α
  | [] => z
  | x :: l => bestGo b x l
theorem bestGo_snoc {α : Type} (b : α → α → Bool) (y : α) : ∀ (l : List α) (out : α), bestGo b out (l ++ [y]) = if b y (bestGo b out l) then y else bestGo b out l
  | [], out => rfl
  | x :: l, out => by simp only [List.cons_append, bestGo]; exact bestGo_snoc b y l _
theorem bestOf_next {α : Type} (b : α → α → Bool) (z y : α) (l : List α) : bestOf b z (l ++ [y]) = if l.length = 0 then y else if b y (bestOf b z l) then y else bestOf b z l := by
  cases l with
  | nil => rfl
  | cons x l =>
    by_cases hb : b y (bestGo b x l) = true <;> simp [bestOf, bestGo_snoc, hb]
theorem bestOf_take {α : Type} (b : α → α → Bool) (z y : α) (l : List α) (j : Nat) (h : l[j]? = some y) : bestOf b z (l.take (j + 1)) = if j = 0 then y else if b y (bestOf b z (l.take j)) then y else bestOf b z (l.take j) := by
  have hj := (List.getElem?_eq_some_iff.1 h).1
  rw [List.take_add_one, h]
  show bestOf b z (l.take j ++ [y]) = _
  rw [bestOf_next, List.length_take, Nat.min_eq_left (by omega)]
def zR : S109 := ⟨[], 0⟩
def SomeRen (w : World) (x : S109) (e : Ending) : Prop := ∃ A c, e = .returned (.agg #[.slice A x.f0.length c, .int .i64 x.f1]) ∧ IR w A c x.f0
theorem nil_ir (w : World) : IR w none 0 [] := ⟨Kd.C_nil _ _, Nat.le_refl _, by simp⟩
set_option maxHeartbeats 2000000 in
set_option maxRecDepth 100000 in
theorem bestR_calls {w : World} {A : Option Addr} {c : Nat} {l : List S109} (hr : Kd.C k109 w A l.length l) (hl : l.length ≤ 1000) (hm : ∀ x ∈ l, x.f0.length ≤ 1000) :
    Calls Tryz.prog 79 #[.slice A l.length c, .func (.func 80) #[] #[]] w fun e w' => SomeRen w (bestOf betterR zR l) e ∧ Below w.heap.size w w' := by
  have HR := Aside0.mk hr
  have HM := Aside0.mk hm
  have hent := ent Tryz.func80 (by kernel_rfl) rfl
  have HB0 := Aside0.mk (below_alloc (below_alloc (Below.refl w.heap.size w) (.cells #[.slice none 0 0, .int .i64 0] 109)) (.cells #[.slice none 0 0, .int .i64 0] 109))
  have hk0 := (Blk.new w #[.slice none 0 0, .int .i64 0] 109).alloc (.cells #[.slice none 0 0, .int .i64 0] 109)
  have hk1 := Blk.new (w.alloc (.cells #[.slice none 0 0, .int .i64 0] 109)) #[.slice none 0 0, .int .i64 0] 109
  rw [World.size_alloc] at hk1
  have HK0 := Aside0.mk hk0
  have HK1 := Aside0.mk hk1
  clear hr hm hk0 hk1
  go_enter Tryz.func79, Tryz.ntmps79
  go_wp2
  go_loopg [10] (l.length) (fun k i wr => ∃ (j : Nat) (Ao : Option Addr) (co : Nat) (out : S109), j + k = l.length ∧ i = .int .i64 j ∧ Aside0 (out = bestOf betterR zR (l.take j)) ∧ Aside0 (Blk wr (w.heap.size + 1) #[.slice Ao out.f0.length co, .int .i64 out.f1] 109) ∧ Aside0 (IR w Ao co out.f0) ∧ Aside0 (Blk wr w.heap.size #[.slice none 0 0, .int .i64 0] 109) ∧ Below w.heap.size w wr)
  case atStart => exact ⟨0, none, 0, zR, by omega, rfl, ⟨rfl⟩, HK1, ⟨nil_ir w⟩, HK0, HB0.out⟩
  case round =>
    obtain ⟨j, Ao, co, out, hj, rfl, HO, HK, HI, HZ, hBr⟩ := hrel
    have hj' : j ≤ l.length := by omega
    have HJ := Aside0.mk hj
    clear hj
    have hk := HK.out
    have hk0 := hk.cell 0 rfl
    have hk1 := hk.cell 1 rfl
    have hf0 := hk.free 0
    have hf1 := hk.free 1
    have hkl := hk.lt
    have hsz := hBr.size
    clear hk
    by_cases hlt : j < l.length
    · obtain ⟨x, hx⟩ : ∃ x, l[j]? = some x := ⟨_, List.getElem?_eq_getElem hlt⟩
      obtain ⟨ad, Ap, cp, rfl, hca, hcb, hir⟩ := at_renewal (Kd.C_below HR.out hBr) hx hlt (HM.out x (List.mem_of_getElem? hx))
      obtain ⟨_, Ap', cp', e', hca', hcb', hir'⟩ := at_renewal HR.out hx hlt (HM.out x (List.mem_of_getElem? hx))
      cases e'
      have hs := pw_cell_below hBr hca'
      rw [hca] at hs
      injection hs with hs
      injection hs with hs1 hs2 hs3
      subst hs1 hs3
      have HIX := Aside0.mk hir'
      have HX := Aside0.mk (bestOf_take betterR zR x l j hx)
      have HXl := Aside0.mk (Blk.new wr #[.slice Ap x.f0.length cp, .int .i64 x.f1] 109)
      have HBl := Aside0.mk (below_alloc hBr (.cells #[.slice Ap x.f0.length cp, .int .i64 x.f1] 109))
      clear hx hir hir' hca' hcb' hs2
      by_cases hz : j = 0
      · have hb : ((j : Int) == 0) = true := by simp [hz]
        have HZ0 := Aside0.mk hz
        clear hz
        go_wp2
        go_roundg (gk - 1)
        case measure => have := HJ.out; omega
        case rel => exact ⟨j + 1, Ap, cp, x, by have := HJ.out; omega, by go_num, ⟨by rw [HX.out, if_pos HZ0.out]⟩, ⟨((HK.out.put 0 _ rfl).put 1 _ rfl).alloc _⟩, HIX, ⟨((HZ.out.far (by show w.heap.size ≠ w.heap.size + 1; omega) _).far (by show w.heap.size ≠ w.heap.size + 1; omega) _).alloc _⟩, below_alloc (below_set (below_set hBr (by omega)) (by omega)) _⟩
      · have hb : ((j : Int) == 0) = false := by simpa using hz
        have HZ0 := Aside0.mk hz
        clear hz
        rcases hbt : betterR x out with _ | _
        · have HBT := Aside0.mk hbt
          clear hbt
          go_wp2_with (go_at_call 80; (with_reducible refine (renew3_calls (HIX.out.below HBl.out) (HI.out.below HBl.out)).mono ?_); rintro e w5 ⟨rfl, hb5⟩; rw [HBT.out]; have HB5 := Aside0.mk hb5; clear hb5)
          go_roundg (gk - 1)
          case measure => have := HJ.out; omega
          case rel => exact ⟨j + 1, Ao, co, out, by have := HJ.out; omega, by go_num, ⟨by rw [HX.out, if_neg HZ0.out, ← HO.out, HBT.out]; rfl⟩, ⟨(HK.out.alloc _).below HB5.out⟩, HI, ⟨(HZ.out.alloc _).below HB5.out⟩, bthen HBl.out HB5.out⟩
        · have HBT := Aside0.mk hbt
          clear hbt
          go_wp2_with (go_at_call 80; (with_reducible refine (renew3_calls (HIX.out.below HBl.out) (HI.out.below HBl.out)).mono ?_); rintro e w5 ⟨rfl, hb5⟩; rw [HBT.out]; have HB5 := Aside0.mk hb5; have hy := (HK.out.alloc (.cells #[.slice Ap x.f0.length cp, .int .i64 x.f1] 109)).below hb5; have hy0 := hy.cell 0 rfl; have hy1 := hy.cell 1 rfl; have hyf0 := hy.free 0; have hyf1 := hy.free 1; have hyl := hy.lt; have HY := Aside0.mk hy; have hq := HXl.out.below hb5; have hq0 := hq.cell 0 rfl; have hq1 := hq.cell 1 rfl; have hql := hq.lt; clear hb5 hy hq)
          go_roundg (gk - 1)
          case measure => have := HJ.out; omega
          case rel => exact ⟨j + 1, Ap, cp, x, by have := HJ.out; omega, by go_num, ⟨by rw [HX.out, if_neg HZ0.out, ← HO.out, HBT.out]; rfl⟩, ⟨(HY.out.put 0 _ rfl).put 1 _ rfl⟩, HIX, ⟨(((HZ.out.alloc _).below HB5.out).far (by show w.heap.size ≠ w.heap.size + 1; omega) _).far (by show w.heap.size ≠ w.heap.size + 1; omega) _⟩, below_set (below_set (bthen HBl.out HB5.out) (by omega)) (by omega)⟩
    · obtain rfl : j = l.length := by omega
      have hz := HZ.out
      have hz0 := hz.cell 0 rfl
      have hz1 := hz.cell 1 rfl
      have hzf0 := hz.free 0
      have hzf1 := hz.free 1
      have hzl := hz.lt
      clear hz
      go_wp2
      refine bodyPost_ret (results_cell_row rfl _ _ w.heap.size 109 #[.slice Ao out.f0.length co, .int .i64 out.f1] (0,0) _ (by rfl) ((HZ.out.put 0 _ rfl).put 1 _ rfl) Tryz.underlying109 rfl (by kernel_rfl)) rfl ?_
      refine ⟨?_, below_set (below_set hBr (by omega)) (by omega)⟩
      have ho := HO.out
      rw [List.take_length] at ho
      rw [← ho]
      exact ⟨_, _, rfl, HI.out⟩
end Go.Proofs.YtaojkmalpihmbaaGreatDoor.M

namespace Go.Proofs.YtaojkmalpihmbaaGreatDoor.M
open Go.RowKit Go.Proofs.YtaojkmalpihmbaaGreatDoorW.PrintWords Go.Proofs.YtaojkmalpihmbaaGreatDoorW.PrintLast Go.Proofs.YtaojkmalpihmbaaGreatDoorW.PrintMore Go.Proofs.YtaojkmalpihmbaaGreatDoor.Q
set_option linter.unusedVariables false
set_option linter.unusedSimpArgs false

/-! isPlace, isLimit, aimed. -/
theorem isPlace_calls (x : Int) (w : World) : Calls Tryz.prog 71 #[.int .i64 x] w fun e w' => e = .returned (.bool (inB x (-5000) 5000)) ∧ w = w' := by
  go_enter Tryz.func71, Tryz.ntmps71
  go_wp2_with ((with_reducible refine (in_calls _ _ _ _).mono ?_); rintro e w1 ⟨rfl, rfl⟩)
  go_ret
  exact ⟨rfl, rfl⟩
theorem isLimit_calls (x : Int) (w : World) : Calls Tryz.prog 72 #[.int .i64 x] w fun e w' => e = .returned (.bool (inB x 0 5000)) ∧ w = w' := by
  go_enter Tryz.func72, Tryz.ntmps72
  go_wp2_with ((with_reducible refine (in_calls _ _ _ _).mono ?_); rintro e w1 ⟨rfl, rfl⟩)
  go_ret
  exact ⟨rfl, rfl⟩
def aimT (m : Int) (a : Nat) (x : S89) : S44 := one ((afterM m x.f0 x.f1).getD a 0)
def fullT (a : Nat) (x : S89) : Prop := a < x.f1.length ∧ x.f1.length = x.f0.length + 1
set_option maxHeartbeats 4000000 in
set_option maxRecDepth 100000 in
theorem aimed1_of {w : World} {b1 b2 a : Nat} {m : Int} (hb1 : Blk w b1 #[.int .i64 m] 3) (hb2 : Blk w b2 #[.int .i64 (a : Int)] 3) :
    OfFn 113 #[.pointer (some ⟨b1, 0, none⟩), .pointer (some ⟨b2, 0, none⟩)] w (fullT a) (aimT m a) := by
  refine ⟨ent Tryz.func113 (by kernel_rfl) rfl, ?_⟩
  intro x W A c A' c' hB hlt ht
  obtain ⟨L, hL⟩ : ∃ L, L = afterM m x.f0 x.f1 := ⟨_, rfl⟩
  have hLl : L.length = x.f1.length := by rw [hL, afterM_length]
  have hl := ht.q.l
  have haL : a < L.length := by rw [hLl]; exact hlt.1
  have hL1 : L.length ≤ 1000 := by omega
  obtain ⟨v, hv⟩ : ∃ v, L[a]? = some v := ⟨_, List.getElem?_eq_getElem haL⟩
  have HF : Aside0 (aimT m a x = ⟨v, v⟩) := ⟨by simp [aimT, one, ← hL, List.getD_eq_getElem?_getD, hv]⟩
  have HC : Aside0 (∀ V, Below W.heap.size W V → Calls Tryz.prog 107 #[.agg #[.slice A x.f0.length c, .slice A' x.f1.length c'], turnOf m] V fun e w' => TruthR V A c x.f0.length L e w' ∧ Below V.heap.size V w') :=
    ⟨fun V hV => by rw [hL]; exact after_calls (ht.p.below hV) (ht.q.below hV) hlt.2 m⟩
  have hfd : ∀ (u v : Value) (W : World), (Instr.field 89 (.agg #[u, v]) 1).run Tryz.prog W = .ok v W := fun u v W => by kernel_rfl
  have HV := Aside0.mk hv
  have HB0 := Aside0.mk (below_alloc (below_alloc (Below.refl W.heap.size W) (.cells #[.slice A x.f0.length c, .slice A' x.f1.length c'] 89)) (.cells #[.int .i64 0, .int .i64 0] 44))
  have hk0 := (Blk.new W #[.slice A x.f0.length c, .slice A' x.f1.length c'] 89).alloc (.cells #[.int .i64 0, .int .i64 0] 44)
  have hk1 := Blk.new (W.alloc (.cells #[.slice A x.f0.length c, .slice A' x.f1.length c'] 89)) #[.int .i64 0, .int .i64 0] 44
  rw [World.size_alloc] at hk1
  have hb1W := ((hb1.below hB).alloc (.cells #[.slice A x.f0.length c, .slice A' x.f1.length c'] 89)).alloc (.cells #[.int .i64 0, .int .i64 0] 44)
  have hb2W := ((hb2.below hB).alloc (.cells #[.slice A x.f0.length c, .slice A' x.f1.length c'] 89)).alloc (.cells #[.int .i64 0, .int .i64 0] 44)
  clear hb1 hb2 hB ht hlt hv hL hLl hl
  simp only [List.push_toArray, List.append_toArray, List.nil_append, List.cons_append]
  go_enter Tryz.func113, Tryz.ntmps113
  go_upto_region 1 with fail
  obtain ⟨W4, hW4⟩ : ∃ W4, (W.alloc (.cells #[.slice A x.f0.length c, .slice A' x.f1.length c'] 89)).alloc (.cells #[.int .i64 0, .int .i64 0] 44) = W4 := ⟨_, rfl⟩
  rw [hW4] at HB0 hk0 hk1 hb1W hb2W ⊢
  clear hW4
  have HK0 := Aside0.mk hk0
  have HK1 := Aside0.mk hk1
  have HH1 := Aside0.mk hb1W
  have HH2 := Aside0.mk hb2W
  have hp0 := hk0.cell 0 rfl
  have hp1 := hk0.cell 1 rfl
  have ha0 := hb1W.cell 0 rfl
  have hc0 := hb2W.cell 0 rfl
  have hlt0 := hk0.lt
  have hlt1 := hk1.lt
  have hlt2 := hb1W.lt
  have hlt3 := hb2W.lt
  clear hk0 hk1 hb1W hb2W
  go_region_with (first
    | (go_at_call 108; (with_reducible refine (turned_calls _ _).mono ?_); rintro e w1 ⟨rfl, rfl⟩)
    | (go_at_call 107; (with_reducible refine (HC.out _ ?_).mono ?_); (repeat (first | exact HB0.out | apply below_alloc | apply below_drew1)); rintro e w2 ⟨⟨A2, c2, rfl, hown⟩, hb2⟩; obtain ⟨ad, rfl, hcv⟩ := at_int (OwnR.ir hown hL1).r HV.out haL; have hbx : Below W4.heap.size W4 w2 := bthen (by repeat (first | exact Below.refl _ _ | apply below_alloc | apply below_drew1)) hb2; have HB2 := Aside0.mk hbx; have hs2 := (HH2.out.below hbx).cell 0 rfl; have hs2l := (HH2.out.below hbx).lt; clear hown hb2 hbx)
    | (go_at_call 51; (with_reducible refine (just_calls _ _).mono ?_); rintro e w3 ⟨rfl, hb3⟩; have HB3 := Aside0.mk (bthen HB2.out hb3); have hr := (HK1.out.below HB2.out).below hb3; have hr0 := hr.cell 0 rfl; have hr1 := hr.cell 1 rfl; have hrf0 := hr.free 0; have hrf1 := hr.free 1; have hrl := hr.lt; have HR9 := Aside0.mk hr; clear hb3 hr))
  all_goals (go_wp2_with fail)
  all_goals (refine bodyPost_ret (results_cell_row rfl _ _ (W.heap.size + 1) 44 #[.int .i64 v, .int .i64 v] (0,0) _ (by rfl) ((HR9.out.put 0 _ rfl).put 1 _ rfl) Tryz.underlying44 rfl (by kernel_rfl)) rfl ?_)
  all_goals exact ⟨by rw [HF.out], below_set (below_set (HB0.out.trans (HB3.out.mono HB0.out.size)) (by omega)) (by omega)⟩
end Go.Proofs.YtaojkmalpihmbaaGreatDoor.M

