import Derived.Test.YtaojkmalpihmbaaGreatDoorB04
import Derived.WalkLawsBesides
import Derived.WalkSpells
namespace Go.Proofs.YtaojkmalpihmbaaGreatDoor.M
open Go.RowKit Go.Proofs.YtaojkmalpihmbaaGreatDoorW.PrintWords Go.Proofs.YtaojkmalpihmbaaGreatDoorW.PrintLast Go.Proofs.YtaojkmalpihmbaaGreatDoorW.PrintMore Go.Proofs.YtaojkmalpihmbaaGreatDoor.Q
set_option linter.unusedVariables false
set_option linter.unusedSimpArgs false

/-! Small functions that only compute. -/
theorem ret_bool {a b : Bool} (h : a = b) : Ending.returned (.bool a) = .returned (.bool b) := by rw [h]
def inB (x a b : Int) : Bool := decide (a ≤ x) && decide (x ≤ b)
theorem in_calls (x a b : Int) (w : World) : Calls Tryz.prog 76 #[.int .i64 x, .int .i64 a, .int .i64 b] w fun e w' => e = .returned (.bool (inB x a b)) ∧ w = w' := by
  by_cases h : a ≤ x
  · have hb : decide (a ≤ x) = true := by simpa using h
    go_enter Tryz.func76, Tryz.ntmps76
    go_wp2
    go_ret
    exact ⟨ret_bool (by simp [inB, h]), rfl⟩
  · have hb : decide (a ≤ x) = false := by simpa using h
    have hc : x < a := by omega
    go_enter Tryz.func76, Tryz.ntmps76
    go_wp2
    go_ret
    exact ⟨ret_bool (by simp [inB]; omega), rfl⟩

def spanB (lo hi a b : Int) : Bool := decide (a ≤ lo) && (decide (lo ≤ hi) && decide (hi ≤ b))
theorem isSpan_calls (lo hi a b : Int) (w : World) : Calls Tryz.prog 95 #[.agg #[.int .i64 lo, .int .i64 hi], .int .i64 a, .int .i64 b] w fun e w' => e = .returned (.bool (spanB lo hi a b)) ∧ Below w.heap.size w w' := by
  go_enter Tryz.func95, Tryz.ntmps95
  go_wp2
  all_goals go_ret
  all_goals exact ⟨ret_bool (by first | rfl | (rw [Bool.eq_iff_iff]; simp [spanB]; omega)), (Below.refl _ _).alloc (Nat.le_refl _) _⟩
theorem within_calls (x lo hi : Int) (w : World) : Calls Tryz.prog 105 #[.int .i64 x, .agg #[.int .i64 lo, .int .i64 hi]] w fun e w' => e = .returned (.bool (inB x lo hi)) ∧ Below w.heap.size w w' := by
  go_enter Tryz.func105, Tryz.ntmps105
  go_wp2_with (go_at_call 76; refine (in_calls _ _ _ _).mono ?_; rintro e w' ⟨rfl, rfl⟩)
  all_goals go_ret
  all_goals exact ⟨rfl, (Below.refl _ _).alloc (Nat.le_refl _) _⟩

/-! slices.IndexFunc, slices.ContainsFunc: whatever the function, where it answers f and changes nothing that there is. -/
def idx {α : Type} (f : α → Bool) : List α → Int
  | [] => -1
  | x :: l => if f x then 0 else if idx f l < 0 then -1 else idx f l + 1
/-- List.any, closed to simp. -/
def anyB {α : Type} (f : α → Bool) (l : List α) : Bool := l.any f
def idxFrom {α : Type} (f : α → Bool) (l : List α) (k : Nat) : Prop := ∀ j, j < k → ∀ x, l[j]? = some x → f x = false
theorem any_of_all {α : Type} {f : α → Bool} {l : List α} (h : idxFrom f l l.length) : anyB f l = false := by
  unfold anyB
  rw [List.any_eq_false]
  intro x hx
  obtain ⟨j, hj, rfl⟩ := List.mem_iff_getElem.1 hx
  simp [h j hj _ (List.getElem?_eq_getElem hj)]
theorem any_of_at {α : Type} {f : α → Bool} {l : List α} {k : Nat} {x : α} (hx : l[k]? = some x) (h : f x = true) : anyB f l = true :=
  List.any_eq_true.2 ⟨x, List.mem_of_getElem? hx, h⟩
theorem idxFrom_zero {α : Type} (f : α → Bool) (l : List α) : idxFrom f l 0 := fun j h => absurd h (by omega)
theorem idxFrom_succ {α : Type} {f : α → Bool} {l : List α} {k : Nat} {x : α} (h : idxFrom f l k) (hx : l[k]? = some x) (hf : f x = false) : idxFrom f l (k + 1) := by
  intro j hj y hy
  rcases Nat.lt_or_ge j k with h1 | h1
  · exact h j h1 y hy
  · obtain rfl : j = k := by omega
    rw [hx] at hy
    cases hy
    exact hf
def SomeIdx (B : Prop) (e : Ending) : Prop := ∃ n : Int, e = .returned (.int .i64 n) ∧ (0 ≤ n ↔ B) ∧ n ≤ 1000
theorem neg_idx {n : Int} {b : Bool} (hn : 0 ≤ n ↔ b = true) (hb : b = false) : n < 0 := by
  rw [hb] at hn
  have h1 : ¬ 0 ≤ n := fun h => by simpa using hn.1 h
  omega
def AnyFn (k : Nat) (cap : Array Value) (w : World) {α : Type} (enc : α → Value) (f : α → Bool) : Prop :=
  (∀ (args : Array Value) (W : World), (callFunc k args).run Tryz.prog W = .ok (.enter k args) W) ∧ ∀ (x : α) (W : World), Below w.heap.size w W → Calls Tryz.prog k (#[enc x] ++ cap) W fun e W' => e = .returned (.bool (f x)) ∧ Below W.heap.size W W'

/-! Elements of a row that is read, by a natural index. -/
theorem at_mesh {w : World} {A : Option Addr} {n : Nat} {l : List S64} (h : Kd.C k64 w A n l) {j : Nat} {x : S64} (hx : l[j]? = some x) (hj : j < n) : ∃ ad, A = some ad ∧ w.cell? (ad.add (j * 2)) = some (.int .i64 x.f0.f0) ∧ w.cell? ⟨(ad.add (j * 2)).block, (ad.add (j * 2)).off + 1, none⟩ = some (.int .i64 x.f0.f1) := by
  obtain ⟨ad, e, h0, h1⟩ := at_T64 h (j : Int) (by omega) (by omega)
  have hd : rd_T64 l (j : Int) = x := by unfold rd_T64; rw [Int.toNat_natCast, List.getD_eq_getElem?_getD, hx]; rfl
  rw [hd, Int.toNat_natCast] at h0 h1
  exact ⟨ad, e, h0, h1⟩
theorem at_span {w : World} {A : Option Addr} {n : Nat} {l : List S44} (h : Kd.C k44 w A n l) {j : Nat} {x : S44} (hx : l[j]? = some x) (hj : j < n) : ∃ ad, A = some ad ∧ w.cell? (ad.add (j * 2)) = some (.int .i64 x.f0) ∧ w.cell? ⟨(ad.add (j * 2)).block, (ad.add (j * 2)).off + 1, none⟩ = some (.int .i64 x.f1) := by
  obtain ⟨ad, e, h0, h1⟩ := at_T44 h (j : Int) (by omega) (by omega)
  have hd : rd_T44 l (j : Int) = x := by unfold rd_T44; rw [Int.toNat_natCast, List.getD_eq_getElem?_getD, hx]; rfl
  rw [hd, Int.toNat_natCast] at h0 h1
  exact ⟨ad, e, h0, h1⟩
theorem at_reading {w : World} {A : Option Addr} {n : Nat} {l : List S66} (h : Kd.C k66 w A n l) {j : Nat} {x : S66} (hx : l[j]? = some x) (hj : j < n) : ∃ ad, A = some ad ∧ w.cell? (ad.add (j * 4)) = some (.int .i64 x.f0) ∧ w.cell? ⟨(ad.add (j * 4)).block, (ad.add (j * 4)).off + 1, none⟩ = some (.int .i64 x.f1) ∧ w.cell? ⟨(ad.add (j * 4)).block, (ad.add (j * 4)).off + 2, none⟩ = some (.int .i64 x.f2) ∧ w.cell? ⟨(ad.add (j * 4)).block, (ad.add (j * 4)).off + 3, none⟩ = some (.int .i64 x.f3) := by
  obtain ⟨ad, e, h0, h1, h2, h3⟩ := at_T66 h (j : Int) (by omega) (by omega)
  have hd : rd_T66 l (j : Int) = x := by unfold rd_T66; rw [Int.toNat_natCast, List.getD_eq_getElem?_getD, hx]; rfl
  rw [hd, Int.toNat_natCast] at h0 h1 h2 h3
  exact ⟨ad, e, h0, h1, h2, h3⟩
theorem at_int {w : World} {A : Option Addr} {n : Nat} {l : List Int} (h : Kd.C (Kd.int .i64) w A n l) {j : Nat} {x : Int} (hx : l[j]? = some x) (hj : j < n) : ∃ ad, A = some ad ∧ w.cell? (ad.add j) = some (.int .i64 x) := by
  obtain ⟨ad, c, e, _, hK, hc0⟩ := Kd.C_get h (0 : Int) (j : Int) (by omega) (by omega)
  have hd : l.getD (j : Int).toNat 0 = x := by rw [Int.toNat_natCast, List.getD_eq_getElem?_getD, hx]; rfl
  rw [hd] at hK
  obtain rfl : c = [Value.int .i64 x] := hK
  have := hc0 0 _ rfl
  rw [Int.toNat_natCast] at this
  exact ⟨ad, e, by simpa [Kd.int, Kd.scalar] using this⟩

set_option maxHeartbeats 1000000 in
set_option maxRecDepth 100000 in
theorem indexMesh_calls (k : Nat) (cap : Array Value) (f : S64 → Bool) (w : World) (A : Option Addr) (c : Nat) (l : List S64) (hr : Kd.C k64 w A l.length l) (hc : l.length ≤ c) (hl : l.length ≤ 1000)
    (hf : AnyFn k cap w (fun x : S64 => .agg #[.int .i64 x.f0.f0, .int .i64 x.f0.f1]) f) :
    Calls Tryz.prog 121 #[.slice A l.length c, .func (.func k) #[] cap] w fun e w' => SomeIdx (anyB f l = true) e ∧ Below w.heap.size w w' := by
  have HR := Aside0.mk hr
  have HC := Aside0.mk hc
  have HF := Aside0.mk hf.2
  have heg := hf.1
  clear hr hc hf
  go_enter Tryz.func121, Tryz.ntmps121
  go_wp2
  go_loopw [5, 8, 9, 10, 11, 12, 13, 14, 15, 16] (fun i5 i8 u9 u10 u11 u12 u13 u14 u15 u16 wr => ∃ j : Nat, j ≤ l.length ∧ i8 = .int .i64 j ∧ Aside0 (idxFrom f l j) ∧ Below w.heap.size w wr) (fun _ i8 _ _ _ _ _ _ _ _ _ => l.length - (intOf i8).toNat)
  case atStart => exact ⟨0, Nat.zero_le _, rfl, ⟨idxFrom_zero f l⟩, Below.refl _ _⟩
  case round =>
    obtain ⟨j, hj, rfl, HI, hB⟩ := hrel
    by_cases hlt : j < l.length
    · have hx : l[j]? = some l[j] := List.getElem?_eq_getElem hlt
      obtain ⟨ad, rfl, hc0, hc1⟩ := at_mesh (Kd.C_below HR.out hB) hx hlt
      have HX := Aside0.mk hx
      clear hx
      generalize l[j] = x at *
      by_cases hfx : f x = true
      · have hf1 := Aside0.mk hfx
        clear hfx
        go_wp2_with ((with_reducible refine (HF.out x _ hB).mono ?_); rintro e w1 ⟨rfl, hb1⟩; rw [hf1.out])
        go_ret
        exact ⟨⟨j, rfl, by simp [any_of_at HX.out hf1.out], by omega⟩, hB.trans (hb1.mono hB.size)⟩
      · have hf0 := Aside0.mk (Bool.eq_false_iff.2 hfx)
        clear hfx
        go_wp2_with ((with_reducible refine (HF.out x _ hB).mono ?_); rintro e w1 ⟨rfl, hb1⟩; rw [hf0.out])
        go_roundw
        case rel => exact ⟨j + 1, by omega, by go_num, ⟨idxFrom_succ HI.out HX.out hf0.out⟩, hB.trans (hb1.mono hB.size)⟩
        case measure => simp [intOf]; omega
    · obtain rfl : j = l.length := by omega
      go_wp2
      go_ret
      exact ⟨⟨-1, rfl, by simp [any_of_all HI.out], by omega⟩, hB⟩
theorem containsMesh_calls (k : Nat) (cap : Array Value) (f : S64 → Bool) (w : World) (A : Option Addr) (c : Nat) (l : List S64) (hr : Kd.C k64 w A l.length l) (hc : l.length ≤ c) (hl : l.length ≤ 1000)
    (hf : AnyFn k cap w (fun x : S64 => .agg #[.int .i64 x.f0.f0, .int .i64 x.f0.f1]) f) :
    Calls Tryz.prog 97 #[.slice A l.length c, .func (.func k) #[] cap] w fun e w' => e = .returned (.bool (anyB f l)) ∧ Below w.heap.size w w' := by
  have HF := Aside0.mk (indexMesh_calls k cap f w A c l hr hc hl hf)
  clear hr hc hf
  cases ha : anyB f l with
  | true =>
    have HA := Aside0.mk ha
    clear ha
    go_enter Tryz.func97, Tryz.ntmps97
    go_wp2_with ((with_reducible refine HF.out.mono ?_); rintro e w1 ⟨⟨n, rfl, hn, hm⟩, hb1⟩; have hn0 : 0 ≤ n := hn.2 HA.out; clear hn)
    go_ret
    exact ⟨rfl, hb1⟩
  | false =>
    have HA := Aside0.mk ha
    clear ha
    go_enter Tryz.func97, Tryz.ntmps97
    go_wp2_with ((with_reducible refine HF.out.mono ?_); rintro e w1 ⟨⟨n, rfl, hn, hm⟩, hb1⟩; have hn0 : n < 0 := neg_idx hn HA.out; clear hn)
    go_ret
    exact ⟨ret_bool (by simp; omega), hb1⟩
set_option maxHeartbeats 1000000 in
set_option maxRecDepth 100000 in
theorem indexSpan_calls (k : Nat) (cap : Array Value) (f : S44 → Bool) (w : World) (A : Option Addr) (c : Nat) (l : List S44) (hr : Kd.C k44 w A l.length l) (hc : l.length ≤ c) (hl : l.length ≤ 1000)
    (hf : AnyFn k cap w (fun x : S44 => .agg #[.int .i64 x.f0, .int .i64 x.f1]) f) :
    Calls Tryz.prog 120 #[.slice A l.length c, .func (.func k) #[] cap] w fun e w' => SomeIdx (anyB f l = true) e ∧ Below w.heap.size w w' := by
  have HR := Aside0.mk hr
  have HC := Aside0.mk hc
  have HF := Aside0.mk hf.2
  have heg := hf.1
  clear hr hc hf
  go_enter Tryz.func120, Tryz.ntmps120
  go_wp2
  go_loopw [5, 8, 9, 10, 11, 12, 13, 14, 15, 16] (fun i5 i8 u9 u10 u11 u12 u13 u14 u15 u16 wr => ∃ j : Nat, j ≤ l.length ∧ i8 = .int .i64 j ∧ Aside0 (idxFrom f l j) ∧ Below w.heap.size w wr) (fun _ i8 _ _ _ _ _ _ _ _ _ => l.length - (intOf i8).toNat)
  case atStart => exact ⟨0, Nat.zero_le _, rfl, ⟨idxFrom_zero f l⟩, Below.refl _ _⟩
  case round =>
    obtain ⟨j, hj, rfl, HI, hB⟩ := hrel
    by_cases hlt : j < l.length
    · have hx : l[j]? = some l[j] := List.getElem?_eq_getElem hlt
      obtain ⟨ad, rfl, hc0, hc1⟩ := at_span (Kd.C_below HR.out hB) hx hlt
      have HX := Aside0.mk hx
      clear hx
      generalize l[j] = x at *
      by_cases hfx : f x = true
      · have hf1 := Aside0.mk hfx
        clear hfx
        go_wp2_with ((with_reducible refine (HF.out x _ hB).mono ?_); rintro e w1 ⟨rfl, hb1⟩; rw [hf1.out])
        go_ret
        exact ⟨⟨j, rfl, by simp [any_of_at HX.out hf1.out], by omega⟩, hB.trans (hb1.mono hB.size)⟩
      · have hf0 := Aside0.mk (Bool.eq_false_iff.2 hfx)
        clear hfx
        go_wp2_with ((with_reducible refine (HF.out x _ hB).mono ?_); rintro e w1 ⟨rfl, hb1⟩; rw [hf0.out])
        go_roundw
        case rel => exact ⟨j + 1, by omega, by go_num, ⟨idxFrom_succ HI.out HX.out hf0.out⟩, hB.trans (hb1.mono hB.size)⟩
        case measure => simp [intOf]; omega
    · obtain rfl : j = l.length := by omega
      go_wp2
      go_ret
      exact ⟨⟨-1, rfl, by simp [any_of_all HI.out], by omega⟩, hB⟩
theorem containsSpan_calls (k : Nat) (cap : Array Value) (f : S44 → Bool) (w : World) (A : Option Addr) (c : Nat) (l : List S44) (hr : Kd.C k44 w A l.length l) (hc : l.length ≤ c) (hl : l.length ≤ 1000)
    (hf : AnyFn k cap w (fun x : S44 => .agg #[.int .i64 x.f0, .int .i64 x.f1]) f) :
    Calls Tryz.prog 93 #[.slice A l.length c, .func (.func k) #[] cap] w fun e w' => e = .returned (.bool (anyB f l)) ∧ Below w.heap.size w w' := by
  have HF := Aside0.mk (indexSpan_calls k cap f w A c l hr hc hl hf)
  clear hr hc hf
  cases ha : anyB f l with
  | true =>
    have HA := Aside0.mk ha
    clear ha
    go_enter Tryz.func93, Tryz.ntmps93
    go_wp2_with ((with_reducible refine HF.out.mono ?_); rintro e w1 ⟨⟨n, rfl, hn, hm⟩, hb1⟩; have hn0 : 0 ≤ n := hn.2 HA.out; clear hn)
    go_ret
    exact ⟨rfl, hb1⟩
  | false =>
    have HA := Aside0.mk ha
    clear ha
    go_enter Tryz.func93, Tryz.ntmps93
    go_wp2_with ((with_reducible refine HF.out.mono ?_); rintro e w1 ⟨⟨n, rfl, hn, hm⟩, hb1⟩; have hn0 : n < 0 := neg_idx hn HA.out; clear hn)
    go_ret
    exact ⟨ret_bool (by simp; omega), hb1⟩
set_option maxHeartbeats 1000000 in
set_option maxRecDepth 100000 in
theorem indexReading_calls (k : Nat) (cap : Array Value) (f : S66 → Bool) (w : World) (A : Option Addr) (c : Nat) (l : List S66) (hr : Kd.C k66 w A l.length l) (hc : l.length ≤ c) (hl : l.length ≤ 1000)
    (hf : AnyFn k cap w (fun x : S66 => .agg #[.int .i64 x.f0, .int .i64 x.f1, .int .i64 x.f2, .int .i64 x.f3]) f) :
    Calls Tryz.prog 122 #[.slice A l.length c, .func (.func k) #[] cap] w fun e w' => SomeIdx (anyB f l = true) e ∧ Below w.heap.size w w' := by
  have HR := Aside0.mk hr
  have HC := Aside0.mk hc
  have HF := Aside0.mk hf.2
  have heg := hf.1
  clear hr hc hf
  go_enter Tryz.func122, Tryz.ntmps122
  go_wp2
  go_loopw [5, 8, 9, 10, 11, 12, 13, 14, 15, 16] (fun i5 i8 u9 u10 u11 u12 u13 u14 u15 u16 wr => ∃ j : Nat, j ≤ l.length ∧ i8 = .int .i64 j ∧ Aside0 (idxFrom f l j) ∧ Below w.heap.size w wr) (fun _ i8 _ _ _ _ _ _ _ _ _ => l.length - (intOf i8).toNat)
  case atStart => exact ⟨0, Nat.zero_le _, rfl, ⟨idxFrom_zero f l⟩, Below.refl _ _⟩
  case round =>
    obtain ⟨j, hj, rfl, HI, hB⟩ := hrel
    by_cases hlt : j < l.length
    · have hx : l[j]? = some l[j] := List.getElem?_eq_getElem hlt
      obtain ⟨ad, rfl, hc0, hc1, hc2, hc3⟩ := at_reading (Kd.C_below HR.out hB) hx hlt
      have HX := Aside0.mk hx
      clear hx
      generalize l[j] = x at *
      by_cases hfx : f x = true
      · have hf1 := Aside0.mk hfx
        clear hfx
        go_wp2_with ((with_reducible refine (HF.out x _ hB).mono ?_); rintro e w1 ⟨rfl, hb1⟩; rw [hf1.out])
        go_ret
        exact ⟨⟨j, rfl, by simp [any_of_at HX.out hf1.out], by omega⟩, hB.trans (hb1.mono hB.size)⟩
      · have hf0 := Aside0.mk (Bool.eq_false_iff.2 hfx)
        clear hfx
        go_wp2_with ((with_reducible refine (HF.out x _ hB).mono ?_); rintro e w1 ⟨rfl, hb1⟩; rw [hf0.out])
        go_roundw
        case rel => exact ⟨j + 1, by omega, by go_num, ⟨idxFrom_succ HI.out HX.out hf0.out⟩, hB.trans (hb1.mono hB.size)⟩
        case measure => simp [intOf]; omega
    · obtain rfl : j = l.length := by omega
      go_wp2
      go_ret
      exact ⟨⟨-1, rfl, by simp [any_of_all HI.out], by omega⟩, hB⟩
theorem containsReading_calls (k : Nat) (cap : Array Value) (f : S66 → Bool) (w : World) (A : Option Addr) (c : Nat) (l : List S66) (hr : Kd.C k66 w A l.length l) (hc : l.length ≤ c) (hl : l.length ≤ 1000)
    (hf : AnyFn k cap w (fun x : S66 => .agg #[.int .i64 x.f0, .int .i64 x.f1, .int .i64 x.f2, .int .i64 x.f3]) f) :
    Calls Tryz.prog 100 #[.slice A l.length c, .func (.func k) #[] cap] w fun e w' => e = .returned (.bool (anyB f l)) ∧ Below w.heap.size w w' := by
  have HF := Aside0.mk (indexReading_calls k cap f w A c l hr hc hl hf)
  clear hr hc hf
  cases ha : anyB f l with
  | true =>
    have HA := Aside0.mk ha
    clear ha
    go_enter Tryz.func100, Tryz.ntmps100
    go_wp2_with ((with_reducible refine HF.out.mono ?_); rintro e w1 ⟨⟨n, rfl, hn, hm⟩, hb1⟩; have hn0 : 0 ≤ n := hn.2 HA.out; clear hn)
    go_ret
    exact ⟨rfl, hb1⟩
  | false =>
    have HA := Aside0.mk ha
    clear ha
    go_enter Tryz.func100, Tryz.ntmps100
    go_wp2_with ((with_reducible refine HF.out.mono ?_); rintro e w1 ⟨⟨n, rfl, hn, hm⟩, hb1⟩; have hn0 : n < 0 := neg_idx hn HA.out; clear hn)
    go_ret
    exact ⟨ret_bool (by simp; omega), hb1⟩
set_option maxHeartbeats 1000000 in
set_option maxRecDepth 100000 in
theorem indexInt_calls (k : Nat) (cap : Array Value) (f : Int → Bool) (w : World) (A : Option Addr) (c : Nat) (l : List Int) (hr : Kd.C (Kd.int .i64) w A l.length l) (hc : l.length ≤ c) (hl : l.length ≤ 1000)
    (hf : AnyFn k cap w (fun x : Int => .int .i64 x) f) :
    Calls Tryz.prog 114 #[.slice A l.length c, .func (.func k) #[] cap] w fun e w' => SomeIdx (anyB f l = true) e ∧ Below w.heap.size w w' := by
  have HR := Aside0.mk hr
  have HC := Aside0.mk hc
  have HF := Aside0.mk hf.2
  have heg := hf.1
  clear hr hc hf
  go_enter Tryz.func114, Tryz.ntmps114
  go_wp2
  go_loopw [5, 8, 9, 10, 11, 12, 13, 14, 15, 16] (fun i5 i8 u9 u10 u11 u12 u13 u14 u15 u16 wr => ∃ j : Nat, j ≤ l.length ∧ i8 = .int .i64 j ∧ Aside0 (idxFrom f l j) ∧ Below w.heap.size w wr) (fun _ i8 _ _ _ _ _ _ _ _ _ => l.length - (intOf i8).toNat)
  case atStart => exact ⟨0, Nat.zero_le _, rfl, ⟨idxFrom_zero f l⟩, Below.refl _ _⟩
  case round =>
    obtain ⟨j, hj, rfl, HI, hB⟩ := hrel
    by_cases hlt : j < l.length
    · have hx : l[j]? = some l[j] := List.getElem?_eq_getElem hlt
      obtain ⟨ad, rfl, hc0⟩ := at_int (Kd.C_below HR.out hB) hx hlt
      have HX := Aside0.mk hx
      clear hx
      generalize l[j] = x at *
      by_cases hfx : f x = true
      · have hf1 := Aside0.mk hfx
        clear hfx
        go_wp2_with ((with_reducible refine (HF.out x _ hB).mono ?_); rintro e w1 ⟨rfl, hb1⟩; rw [hf1.out])
        go_ret
        exact ⟨⟨j, rfl, by simp [any_of_at HX.out hf1.out], by omega⟩, hB.trans (hb1.mono hB.size)⟩
      · have hf0 := Aside0.mk (Bool.eq_false_iff.2 hfx)
        clear hfx
        go_wp2_with ((with_reducible refine (HF.out x _ hB).mono ?_); rintro e w1 ⟨rfl, hb1⟩; rw [hf0.out])
        go_roundw
        case rel => exact ⟨j + 1, by omega, by go_num, ⟨idxFrom_succ HI.out HX.out hf0.out⟩, hB.trans (hb1.mono hB.size)⟩
        case measure => simp [intOf]; omega
    · obtain rfl : j = l.length := by omega
      go_wp2
      go_ret
      exact ⟨⟨-1, rfl, by simp [any_of_all HI.out], by omega⟩, hB⟩
theorem containsInt_calls (k : Nat) (cap : Array Value) (f : Int → Bool) (w : World) (A : Option Addr) (c : Nat) (l : List Int) (hr : Kd.C (Kd.int .i64) w A l.length l) (hc : l.length ≤ c) (hl : l.length ≤ 1000)
    (hf : AnyFn k cap w (fun x : Int => .int .i64 x) f) :
    Calls Tryz.prog 74 #[.slice A l.length c, .func (.func k) #[] cap] w fun e w' => e = .returned (.bool (anyB f l)) ∧ Below w.heap.size w w' := by
  have HF := Aside0.mk (indexInt_calls k cap f w A c l hr hc hl hf)
  clear hr hc hf
  cases ha : anyB f l with
  | true =>
    have HA := Aside0.mk ha
    clear ha
    go_enter Tryz.func74, Tryz.ntmps74
    go_wp2_with ((with_reducible refine HF.out.mono ?_); rintro e w1 ⟨⟨n, rfl, hn, hm⟩, hb1⟩; have hn0 : 0 ≤ n := hn.2 HA.out; clear hn)
    go_ret
    exact ⟨rfl, hb1⟩
  | false =>
    have HA := Aside0.mk ha
    clear ha
    go_enter Tryz.func74, Tryz.ntmps74
    go_wp2_with ((with_reducible refine HF.out.mono ?_); rintro e w1 ⟨⟨n, rfl, hn, hm⟩, hb1⟩; have hn0 : n < 0 := neg_idx hn HA.out; clear hn)
    go_ret
    exact ⟨ret_bool (by simp; omega), hb1⟩
end Go.Proofs.YtaojkmalpihmbaaGreatDoor.M

