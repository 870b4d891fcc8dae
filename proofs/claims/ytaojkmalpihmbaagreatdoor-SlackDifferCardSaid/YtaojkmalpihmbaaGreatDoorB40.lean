import Derived.Test.YtaojkmalpihmbaaGreatDoorB35
import Derived.Test.YtaojkmalpihmbaaGreatDoorB36
import Derived.Test.YtaojkmalpihmbaaGreatDoorB37
import Derived.Test.YtaojkmalpihmbaaGreatDoorB39
namespace Go.Proofs.YtaojkmalpihmbaaGreatDoor.M
open Go.RowKit Go.Proofs.YtaojkmalpihmbaaGreatDoorW.PrintWords Go.Proofs.YtaojkmalpihmbaaGreatDoorW.PrintLast Go.Proofs.YtaojkmalpihmbaaGreatDoorW.PrintMore Go.Proofs.YtaojkmalpihmbaaGreatDoor.Q
set_option linter.unusedVariables false
set_option linter.unusedSimpArgs false

/-! What the examples' calls return. -/
set_option maxRecDepth 100000
theorem P_at (w : World) : Calls Tryz.prog 36 #[] w fun e w' => (∃ A0 c0 A1 c1 A2 c2, e = .returned (.agg #[.slice A0 3 c0, .slice A1 3 c1, .slice A2 0 c2]) ∧ PR w' A0 c0 pM A1 c1 pV A2 c2 []) ∧ Below w.heap.size w w' := by
  refine (tellurionlaw03_P.calls pM pV [] w rfl).mono ?_
  rintro e w' ⟨v0, v1, v2, rfl, h0, h1, h2, hb⟩
  obtain ⟨A0, c0, rfl⟩ := Kd.R_slice h0
  obtain ⟨A1, c1, rfl⟩ := Kd.R_slice h1
  obtain ⟨A2, c2, rfl⟩ := Kd.R_slice h2
  obtain ⟨_, g0, k0⟩ := Kd.R_reads' h0
  obtain ⟨_, g1, k1⟩ := Kd.R_reads' h1
  obtain ⟨_, g2, k2⟩ := Kd.R_reads' h2
  exact ⟨⟨A0, c0, A1, c1, A2, c2, rfl, k0, k1, k2, g0, g1, g2, by decide, by decide, by decide⟩, hb⟩
theorem Q_at (w : World) : Calls Tryz.prog 38 #[] w fun e w' => (∃ A0 c0 A1 c1 A2 c2, e = .returned (.agg #[.slice A0 3 c0, .slice A1 3 c1, .slice A2 2 c2]) ∧ PR w' A0 c0 pM A1 c1 pV A2 c2 qR) ∧ Below w.heap.size w w' := by
  refine (tellurionlaw03_Q.calls pM pV qR w rfl).mono ?_
  rintro e w' ⟨v0, v1, v2, rfl, h0, h1, h2, hb⟩
  obtain ⟨A0, c0, rfl⟩ := Kd.R_slice h0
  obtain ⟨A1, c1, rfl⟩ := Kd.R_slice h1
  obtain ⟨A2, c2, rfl⟩ := Kd.R_slice h2
  obtain ⟨_, g0, k0⟩ := Kd.R_reads' h0
  obtain ⟨_, g1, k1⟩ := Kd.R_reads' h1
  obtain ⟨_, g2, k2⟩ := Kd.R_reads' h2
  exact ⟨⟨A0, c0, A1, c1, A2, c2, rfl, k0, k1, k2, g0, g1, g2, by decide, by decide, by decide⟩, hb⟩
theorem A_at (w : World) : Calls Tryz.prog 39 #[] w fun e w' => (∃ A0 c0, e = .returned (.agg #[.int .i64 3, .int .i64 3, .int .i64 2, .slice A0 4 c0]) ∧ ER w' A0 c0 aE) ∧ Below w.heap.size w w' := by
  refine (tellurionlaw03_A.calls 3 3 2 aE w rfl).mono ?_
  rintro e w' ⟨v0, rfl, h0, hb⟩
  obtain ⟨A0, c0, rfl⟩ := Kd.R_slice h0
  obtain ⟨_, g0, k0⟩ := Kd.R_reads' h0
  exact ⟨⟨A0, c0, rfl, k0, g0, by decide⟩, hb⟩
theorem B_at (w : World) : Calls Tryz.prog 40 #[] w fun e w' => (∃ A0 c0, e = .returned (.agg #[.int .i64 1, .int .i64 1, .int .i64 1, .slice A0 1 c0]) ∧ ER w' A0 c0 bE) ∧ Below w.heap.size w w' := by
  refine (tellurionlaw03_B.calls 1 1 1 bE w rfl).mono ?_
  rintro e w' ⟨v0, rfl, h0, hb⟩
  obtain ⟨A0, c0, rfl⟩ := Kd.R_slice h0
  obtain ⟨_, g0, k0⟩ := Kd.R_reads' h0
  exact ⟨⟨A0, c0, rfl, k0, g0, by decide⟩, hb⟩
def rL : List (List Int) := [[0, -10, -15, -35], [100, 90, 85, 65], [70, 70, 70, 65], [78, 70, 70, 65]]
def kL : List S44 := [⟨78, 78⟩, ⟨70, 70⟩, ⟨70, 70⟩, ⟨59, 65⟩]
def yL : List S44 := [⟨11, 11⟩, ⟨5, 5⟩, ⟨21, 23⟩]
section
variable {A0 A1 A2 : Option Addr} {c0 c1 c2 : Nat} {w : World}
theorem Run_at (h : PR w A0 c0 pM A1 c1 pV A2 c2 []) {A : Option Addr} {c : Nat} (hp : IR w A c [10, 5, 20]) :
    Calls Tryz.prog 35 #[.agg #[.slice A0 3 c0, .slice A1 3 c1, .slice A2 0 c2], .slice A 3 c] w fun e w' => (∃ A' c', e = .returned (.tuple #[.slice A' 4 c', .int .i64 0]) ∧ Kd.C kLists w' A' 4 rL ∧ 4 ≤ c') ∧ Below w.heap.size w w' := by
  refine (Run_calls h hp).mono ?_
  rintro e w' ⟨⟨v, rfl, hr⟩, hb⟩
  have e1 : ranL pM pV [] [10, 5, 20] = rL := by decide +kernel
  have e2 : ranE pM pV [] [10, 5, 20] = 0 := by decide +kernel
  rw [e1] at hr
  rw [e2]
  obtain ⟨A', c', rfl⟩ := Kd.R_slice hr
  obtain ⟨_, g0, k0⟩ := Kd.R_reads' hr
  exact ⟨⟨A', c', rfl, k0, g0⟩, hb⟩
theorem Truths_at (h : PR w A0 c0 pM A1 c1 pV A2 c2 qR) :
    Calls Tryz.prog 37 #[.agg #[.slice A0 3 c0, .slice A1 3 c1, .slice A2 2 c2]] w fun e w' => e = .returned (.tuple #[.int .i64 3, .int .i64 0]) ∧ Below w.heap.size w w' := by
  refine (Truths_calls h).mono ?_
  rintro e w' ⟨rfl, hb⟩
  exact ⟨by rw [v_truths, v_piece], hb⟩
theorem Known_at (h : PR w A0 c0 pM A1 c1 pV A2 c2 []) :
    Calls Tryz.prog 17 #[.agg #[.slice A0 3 c0, .slice A1 3 c1, .slice A2 0 c2]] w fun e w' => (∃ A' c', e = .returned (.tuple #[.slice A' 4 c', .int .i64 0]) ∧ Kd.C k44 w' A' 4 kL ∧ 4 ≤ c') ∧ Below w.heap.size w w' := by
  refine (Known_calls h).mono ?_
  rintro e w' ⟨⟨v, rfl, hr⟩, hb⟩
  rw [v_known] at hr
  rw [v_ask]
  obtain ⟨A', c', rfl⟩ := Kd.R_slice hr
  obtain ⟨_, g0, k0⟩ := Kd.R_reads' hr
  exact ⟨⟨A', c', rfl, k0, g0⟩, hb⟩
theorem Plays_at (h : PR w A0 c0 pM A1 c1 pV A2 c2 qR) :
    Calls Tryz.prog 18 #[.agg #[.slice A0 3 c0, .slice A1 3 c1, .slice A2 2 c2]] w fun e w' => (∃ A' c', e = .returned (.tuple #[.slice A' 3 c', .int .i64 0]) ∧ Kd.C k44 w' A' 3 yL ∧ 3 ≤ c') ∧ Below w.heap.size w w' := by
  refine (Plays_calls h).mono ?_
  rintro e w' ⟨⟨v, rfl, hr⟩, hb⟩
  rw [v_plays] at hr
  rw [v_askq]
  obtain ⟨A', c', rfl⟩ := Kd.R_slice hr
  obtain ⟨_, g0, k0⟩ := Kd.R_reads' hr
  exact ⟨⟨A', c', rfl, k0, g0⟩, hb⟩
theorem Lost_at (h : PR w A0 c0 pM A1 c1 pV A2 c2 []) :
    Calls Tryz.prog 23 #[.agg #[.slice A0 3 c0, .slice A1 3 c1, .slice A2 0 c2], .int .i64 3] w fun e w' => e = .returned (.tuple #[.agg #[.int .i64 22, .int .i64 22], .agg #[.int .i64 13, .int .i64 19], .int .i64 0]) ∧ Below w.heap.size w w' := by
  refine (Lost_calls h 3).mono ?_
  rintro e w' ⟨rfl, hb⟩
  have e1 : askE pM pV [] (inB 3 1 pM.length) = 0 := by decide +kernel
  exact ⟨by rw [v_lost0, v_lost1, e1]; rfl, hb⟩
theorem Shows_at (h : PR w A0 c0 pM A1 c1 pV A2 c2 []) {A : Option Addr} {c : Nat} (he : ER w A c aE) :
    Calls Tryz.prog 32 #[.agg #[.slice A0 3 c0, .slice A1 3 c1, .slice A2 0 c2], .agg #[.int .i64 3, .int .i64 3, .int .i64 2, .slice A 4 c]] w fun e w' => e = .returned (.tuple #[.agg #[.int .i64 87, .int .i64 99], .int .i64 0]) ∧ Below w.heap.size w w' := by
  refine (Shows_calls h 3 3 2 he).mono ?_
  rintro e w' ⟨rfl, hb⟩
  exact ⟨by rw [v_shows, v_handA, v_ask]; rfl, hb⟩
theorem Apart_at (h : PR w A0 c0 pM A1 c1 pV A2 c2 []) {A B : Option Addr} {c d : Nat} (hb1 : ER w B d bE) (he : ER w A c aE) :
    Calls Tryz.prog 29 #[.agg #[.slice A0 3 c0, .slice A1 3 c1, .slice A2 0 c2], .agg #[.int .i64 1, .int .i64 1, .int .i64 1, .slice B 1 d], .agg #[.int .i64 3, .int .i64 3, .int .i64 2, .slice A 4 c]] w fun e w' => e = .returned (.tuple #[.agg #[.int .i64 (-29), .int .i64 (-17)], .int .i64 0]) ∧ Below w.heap.size w w' := by
  refine (Apart_ok h 1 1 1 hb1 3 3 2 he v_handB (by rw [v_handA, v_ask])).mono ?_
  rintro e w' ⟨rfl, hb⟩
  exact ⟨by rw [v_apart, v_handA, v_handB, Bool.and_self, v_ask]; rfl, hb⟩
theorem Aim_at (h : PR w A0 c0 pM A1 c1 pV A2 c2 []) :
    Calls Tryz.prog 41 #[.agg #[.slice A0 3 c0, .slice A1 3 c1, .slice A2 0 c2], .int .i64 3, .int .i64 90, .int .i64 3] w fun e w' => e = .returned (.tuple #[.int .i64 50, .int .i64 0]) ∧ Below w.heap.size w w' := by
  refine (Aim_ok h 3 90 3 (by decide) (by decide) (by decide) v_ask).mono ?_
  rintro e w' ⟨rfl, hb⟩
  exact ⟨by rw [v_aim], hb⟩
theorem Renew_at (h : PR w A0 c0 pM A1 c1 pV A2 c2 []) {A : Option Addr} {c : Nat} (hp : IR w A c [5, 3, 9]) :
    Calls Tryz.prog 42 #[.agg #[.slice A0 3 c0, .slice A1 3 c1, .slice A2 0 c2], .slice A 3 c, .int .i64 24] w fun e w' => (∃ A' c', e = .returned (.tuple #[.slice A' 2 c', .int .i64 8, .int .i64 0]) ∧ IR w' A' c' [0, 1]) ∧ Below w.heap.size w w' := by
  refine (Renew_ok h hp 24 rfl v_price (by decide) v_ask).mono ?_
  rintro e w' ⟨⟨A', c', rfl, hr⟩, hb⟩
  rw [v_renew] at hr ⊢
  exact ⟨⟨A', c', rfl, hr⟩, hb⟩
theorem Look_at (h : PR w A0 c0 pM A1 c1 pV A2 c2 []) :
    Calls Tryz.prog 43 #[.agg #[.slice A0 3 c0, .slice A1 3 c1, .slice A2 0 c2], .int .i64 1] w fun e w' => e = .returned (.tuple #[.int .i64 3, .int .i64 9, .int .i64 0]) ∧ Below w.heap.size w w' := by
  refine (Look_calls h 1).mono ?_
  rintro e w' ⟨rfl, hb⟩
  exact ⟨by rw [v_look], hb⟩
theorem span_at (a b : Int) (w : World) : Calls Tryz.prog 46 #[.int .i64 a, .int .i64 b] w fun e w' => e = .returned (.agg #[.int .i64 a, .int .i64 b]) ∧ Below w.heap.size w w' := tellurionlaw03_span.calls a b a b w rfl
theorem SameLists_at {A B : Option Addr} {c d : Nat} (h0 : Kd.C kLists w A 4 rL) (hc : 4 ≤ c) (h1 : Kd.C kLists w B 4 rL) (hd : 4 ≤ d) : Calls Tryz.prog 45 #[.slice A 4 c, .slice B 4 d] w fun e w' => e = .returned (.bool true) ∧ Below w.heap.size w w' := by
  refine (tellurionref03_SameLists.calls 10 A c rL B d rL true w h0 hc h1 hd (by decide +kernel)).mono ?_
  rintro e w' ⟨rfl, hd⟩
  exact ⟨rfl, hd.below⟩
theorem SameSpans_k {A B : Option Addr} {c d : Nat} (h0 : Kd.C k44 w A 4 kL) (hc : 4 ≤ c) (h1 : Kd.C k44 w B 4 kL) (hd : 4 ≤ d) : Calls Tryz.prog 20 #[.slice A 4 c, .slice B 4 d] w fun e w' => e = .returned (.bool true) ∧ Below w.heap.size w w' := by
  refine (tellurionref03_SameSpans.calls 10 A c kL B d kL true w h0 hc h1 hd (by decide +kernel)).mono ?_
  rintro e w' ⟨rfl, hd⟩
  exact ⟨rfl, hd.below⟩
theorem SameSpans_y {A B : Option Addr} {c d : Nat} (h0 : Kd.C k44 w A 3 yL) (hc : 3 ≤ c) (h1 : Kd.C k44 w B 3 yL) (hd : 3 ≤ d) : Calls Tryz.prog 20 #[.slice A 3 c, .slice B 3 d] w fun e w' => e = .returned (.bool true) ∧ Below w.heap.size w w' := by
  refine (tellurionref03_SameSpans.calls 10 A c yL B d yL true w h0 hc h1 hd (by decide +kernel)).mono ?_
  rintro e w' ⟨rfl, hd⟩
  exact ⟨rfl, hd.below⟩
theorem Same_at {A B : Option Addr} {c d : Nat} (h0 : IR w A c [0, 1]) (h1 : IR w B d [0, 1]) : Calls Tryz.prog 16 #[.slice A 2 c, .slice B 2 d] w fun e w' => e = .returned (.bool true) ∧ Below w.heap.size w w' := by
  refine (tellurionref03_Same.calls 10 A c [0, 1] B d [0, 1] true w h0.r h0.c h1.r h1.c (by decide +kernel)).mono ?_
  rintro e w' ⟨rfl, hd⟩
  exact ⟨rfl, hd.below⟩
theorem SamePieces_at {A B C D E F : Option Addr} {a b c d e f : Nat} (h0 : PR w A a [m00] B b [] C c []) (h1 : PR w D d [m00] E e [] F f []) : Calls Tryz.prog 47 #[.agg #[.slice A 1 a, .slice B 0 b, .slice C 0 c], .agg #[.slice D 1 d, .slice E 0 e, .slice F 0 f]] w fun e w' => e = .returned (.bool true) ∧ Below w.heap.size w w' :=
  tellurionref03_SamePieces.calls 10 A a [m00] B b [] C c [] D d [m00] E e [] F f [] true w h0.r0 h0.c0 h0.r1 h0.c1 h0.r2 h0.c2 h1.r0 h1.c0 h1.r1 h1.c1 h1.r2 h1.c2 (by decide +kernel)
theorem Read_at (h : LibW w) :
    Calls Tryz.prog 44 #[.string ⟨#[112, 105, 101, 99, 101, 32, 49, 10, 109, 101, 115, 104, 32, 48, 32, 48, 10, 109, 111, 118, 101, 115, 10, 101, 110, 100, 32, 48, 48, 57, 10]⟩] w fun e w' => (∃ A c A1 c1, e = .returned (.tuple #[.agg #[.slice A 1 c, .slice A1 0 c1, .slice none 0 0], .int .i64 0]) ∧ PR w' A c [m00] A1 c1 [] none 0 []) ∧ Below w.heap.size w w' := Read_calls h
end
end Go.Proofs.YtaojkmalpihmbaaGreatDoor.M

namespace Go.Proofs.YtaojkmalpihmbaaGreatDoor.M
open Go.RowKit Go.Proofs.YtaojkmalpihmbaaGreatDoorW.PrintWords Go.Proofs.YtaojkmalpihmbaaGreatDoorW.PrintLast Go.Proofs.YtaojkmalpihmbaaGreatDoorW.PrintMore Go.Proofs.YtaojkmalpihmbaaGreatDoor.Q
set_option linter.unusedVariables false
set_option linter.unusedSimpArgs false

/-! Literals of the examples. -/
theorem spans4_C {W : World} {x0 x1 x2 x3 x4 x5 x6 x7 : Int} : Kd.C k44 (W.alloc (.cells #[.int .i64 x0, .int .i64 x1, .int .i64 x2, .int .i64 x3, .int .i64 x4, .int .i64 x5, .int .i64 x6, .int .i64 x7] 44)) (some ⟨W.heap.size, 0, none⟩) 4 [⟨x0, x1⟩, ⟨x2, x3⟩, ⟨x4, x5⟩, ⟨x6, x7⟩] := by
  have hk := Blk.new W #[.int .i64 x0, .int .i64 x1, .int .i64 x2, .int .i64 x3, .int .i64 x4, .int .i64 x5, .int .i64 x6, .int .i64 x7] 44
  refine ⟨rfl, by decide, fun _ => ⟨_, rfl, fun j p hj => ?_⟩⟩
  rcases j with _ | _ | _ | _ | j
  · simp at hj; subst hj
    refine ⟨_, rfl, k44_mk _ _, fun i u hu => ?_⟩
    rcases i with _ | _ | i
    · simp at hu; subst hu; exact hk.cell 0 rfl
    · simp at hu; subst hu; exact hk.cell 1 rfl
    · simp at hu
  · simp at hj; subst hj
    refine ⟨_, rfl, k44_mk _ _, fun i u hu => ?_⟩
    rcases i with _ | _ | i
    · simp at hu; subst hu; exact hk.cell 2 rfl
    · simp at hu; subst hu; exact hk.cell 3 rfl
    · simp at hu
  · simp at hj; subst hj
    refine ⟨_, rfl, k44_mk _ _, fun i u hu => ?_⟩
    rcases i with _ | _ | i
    · simp at hu; subst hu; exact hk.cell 4 rfl
    · simp at hu; subst hu; exact hk.cell 5 rfl
    · simp at hu
  · simp at hj; subst hj
    refine ⟨_, rfl, k44_mk _ _, fun i u hu => ?_⟩
    rcases i with _ | _ | i
    · simp at hu; subst hu; exact hk.cell 6 rfl
    · simp at hu; subst hu; exact hk.cell 7 rfl
    · simp at hu
  · simp at hj
theorem spans3_C {W : World} {x0 x1 x2 x3 x4 x5 : Int} : Kd.C k44 (W.alloc (.cells #[.int .i64 x0, .int .i64 x1, .int .i64 x2, .int .i64 x3, .int .i64 x4, .int .i64 x5] 44)) (some ⟨W.heap.size, 0, none⟩) 3 [⟨x0, x1⟩, ⟨x2, x3⟩, ⟨x4, x5⟩] := by
  have hk := Blk.new W #[.int .i64 x0, .int .i64 x1, .int .i64 x2, .int .i64 x3, .int .i64 x4, .int .i64 x5] 44
  refine ⟨rfl, by decide, fun _ => ⟨_, rfl, fun j p hj => ?_⟩⟩
  rcases j with _ | _ | _ | j
  · simp at hj; subst hj
    refine ⟨_, rfl, k44_mk _ _, fun i u hu => ?_⟩
    rcases i with _ | _ | i
    · simp at hu; subst hu; exact hk.cell 0 rfl
    · simp at hu; subst hu; exact hk.cell 1 rfl
    · simp at hu
  · simp at hj; subst hj
    refine ⟨_, rfl, k44_mk _ _, fun i u hu => ?_⟩
    rcases i with _ | _ | i
    · simp at hu; subst hu; exact hk.cell 2 rfl
    · simp at hu; subst hu; exact hk.cell 3 rfl
    · simp at hu
  · simp at hj; subst hj
    refine ⟨_, rfl, k44_mk _ _, fun i u hu => ?_⟩
    rcases i with _ | _ | i
    · simp at hu; subst hu; exact hk.cell 4 rfl
    · simp at hu; subst hu; exact hk.cell 5 rfl
    · simp at hu
  · simp at hj
theorem lists_C {W : World} {g0 g1 g2 g3 : Nat} {a b c d : List Int} (ha : Kd.C (Kd.int .i64) W (some ⟨g0, 0, none⟩) a.length a) (hb : Kd.C (Kd.int .i64) W (some ⟨g1, 0, none⟩) b.length b) (hc : Kd.C (Kd.int .i64) W (some ⟨g2, 0, none⟩) c.length c) (hd : Kd.C (Kd.int .i64) W (some ⟨g3, 0, none⟩) d.length d) :
    Kd.C kLists (W.alloc (.cells #[.slice (some ⟨g0, 0, none⟩) a.length a.length, .slice (some ⟨g1, 0, none⟩) b.length b.length, .slice (some ⟨g2, 0, none⟩) c.length c.length, .slice (some ⟨g3, 0, none⟩) d.length d.length] 23)) (some ⟨W.heap.size, 0, none⟩) 4 [a, b, c, d] := by
  have hk := Blk.new W #[.slice (some ⟨g0, 0, none⟩) a.length a.length, .slice (some ⟨g1, 0, none⟩) b.length b.length, .slice (some ⟨g2, 0, none⟩) c.length c.length, .slice (some ⟨g3, 0, none⟩) d.length d.length] 23
  have hB := below_alloc (Below.refl W.heap.size W) (.cells #[.slice (some ⟨g0, 0, none⟩) a.length a.length, .slice (some ⟨g1, 0, none⟩) b.length b.length, .slice (some ⟨g2, 0, none⟩) c.length c.length, .slice (some ⟨g3, 0, none⟩) d.length d.length] 23)
  refine ⟨rfl, by decide, fun _ => ⟨_, rfl, fun j p hj => ?_⟩⟩
  rcases j with _ | _ | _ | _ | j
  · simp at hj; subst hj
    refine ⟨[.slice (some ⟨g0, 0, none⟩) a.length a.length], rfl, ⟨_, _, rfl, Nat.le_refl _, Kd.C_below ha hB⟩, fun i u hu => ?_⟩
    rcases i with _ | i
    · simp at hu; subst hu; exact hk.cell 0 rfl
    · simp at hu
  · simp at hj; subst hj
    refine ⟨[.slice (some ⟨g1, 0, none⟩) b.length b.length], rfl, ⟨_, _, rfl, Nat.le_refl _, Kd.C_below hb hB⟩, fun i u hu => ?_⟩
    rcases i with _ | i
    · simp at hu; subst hu; exact hk.cell 1 rfl
    · simp at hu
  · simp at hj; subst hj
    refine ⟨[.slice (some ⟨g2, 0, none⟩) c.length c.length], rfl, ⟨_, _, rfl, Nat.le_refl _, Kd.C_below hc hB⟩, fun i u hu => ?_⟩
    rcases i with _ | i
    · simp at hu; subst hu; exact hk.cell 2 rfl
    · simp at hu
  · simp at hj; subst hj
    refine ⟨[.slice (some ⟨g3, 0, none⟩) d.length d.length], rfl, ⟨_, _, rfl, Nat.le_refl _, Kd.C_below hd hB⟩, fun i u hu => ?_⟩
    rcases i with _ | i
    · simp at hu; subst hu; exact hk.cell 3 rfl
    · simp at hu
  · simp at hj
theorem mesh1_C {W : World} : Kd.C k64 (W.alloc (.cells #[.int .i64 0, .int .i64 0] 64)) (some ⟨W.heap.size, 0, none⟩) 1 [m00] := by
  have hk := Blk.new W #[.int .i64 0, .int .i64 0] 64
  refine ⟨rfl, by decide, fun _ => ⟨_, rfl, fun j p hj => ?_⟩⟩
  rcases j with _ | j
  · simp at hj; subst hj
    refine ⟨_, rfl, k64_mk _ _, fun i u hu => ?_⟩
    rcases i with _ | _ | i
    · simp at hu; subst hu; exact hk.cell 0 rfl
    · simp at hu; subst hu; exact hk.cell 1 rfl
    · simp at hu
  · simp at hj
theorem lit_PR (W : World) : PR (W.alloc (.cells #[.int .i64 0, .int .i64 0] 64)) (some ⟨W.heap.size, 0, none⟩) 1 [m00] none 0 [] none 0 [] := ⟨mesh1_C, Kd.C_nil _ _, Kd.C_nil _ _, Nat.le_refl _, Nat.le_refl _, Nat.le_refl _, by decide, by decide, by decide⟩
theorem lit_runs (W : World) : Kd.C kLists (((((W.alloc (.cells #[.int .i64 0, .int .i64 (-10), .int .i64 (-15), .int .i64 (-35)] 3)).alloc (.cells #[.int .i64 100, .int .i64 90, .int .i64 85, .int .i64 65] 3)).alloc (.cells #[.int .i64 70, .int .i64 70, .int .i64 70, .int .i64 65] 3)).alloc (.cells #[.int .i64 78, .int .i64 70, .int .i64 70, .int .i64 65] 3)).alloc (.cells #[.slice (some ⟨W.heap.size, 0, none⟩) 4 4, .slice (some ⟨W.heap.size + 1, 0, none⟩) 4 4, .slice (some ⟨W.heap.size + 1 + 1, 0, none⟩) 4 4, .slice (some ⟨W.heap.size + 1 + 1 + 1, 0, none⟩) 4 4] 23)) (some ⟨W.heap.size + 1 + 1 + 1 + 1, 0, none⟩) 4 rL := by
  have h0 := Kd.C_below (Kd.C_below (Kd.C_below (four_ir (W := W) (x := 0) (y := -10) (z := -15) (u := -35)).r (below_alloc (Below.refl _ _) (.cells #[.int .i64 100, .int .i64 90, .int .i64 85, .int .i64 65] 3))) (below_alloc (Below.refl _ _) (.cells #[.int .i64 70, .int .i64 70, .int .i64 70, .int .i64 65] 3))) (below_alloc (Below.refl _ _) (.cells #[.int .i64 78, .int .i64 70, .int .i64 70, .int .i64 65] 3))
  have h1 := Kd.C_below (Kd.C_below (four_ir (W := (W.alloc (.cells #[.int .i64 0, .int .i64 (-10), .int .i64 (-15), .int .i64 (-35)] 3))) (x := 100) (y := 90) (z := 85) (u := 65)).r (below_alloc (Below.refl _ _) (.cells #[.int .i64 70, .int .i64 70, .int .i64 70, .int .i64 65] 3))) (below_alloc (Below.refl _ _) (.cells #[.int .i64 78, .int .i64 70, .int .i64 70, .int .i64 65] 3))
  have h2 := Kd.C_below (four_ir (W := ((W.alloc (.cells #[.int .i64 0, .int .i64 (-10), .int .i64 (-15), .int .i64 (-35)] 3)).alloc (.cells #[.int .i64 100, .int .i64 90, .int .i64 85, .int .i64 65] 3))) (x := 70) (y := 70) (z := 70) (u := 65)).r (below_alloc (Below.refl _ _) (.cells #[.int .i64 78, .int .i64 70, .int .i64 70, .int .i64 65] 3))
  have h3 := (four_ir (W := (((W.alloc (.cells #[.int .i64 0, .int .i64 (-10), .int .i64 (-15), .int .i64 (-35)] 3)).alloc (.cells #[.int .i64 100, .int .i64 90, .int .i64 85, .int .i64 65] 3)).alloc (.cells #[.int .i64 70, .int .i64 70, .int .i64 70, .int .i64 65] 3))) (x := 78) (y := 70) (z := 70) (u := 65)).r
  simp only [World.size_alloc] at h0 h1 h2 h3
  have h := lists_C h0 h1 h2 h3
  simp only [World.size_alloc] at h
  exact h
theorem span_same (a b : Int) (w : World) : Calls Tryz.prog 46 #[.int .i64 a, .int .i64 b] w fun e w' => e = .returned (.agg #[.int .i64 a, .int .i64 b]) ∧ w.alloc (.cells #[.int .i64 a, .int .i64 b] 44) = w' := by
  go_enter Tryz.func46, Tryz.ntmps46
  go_wp2
  refine bodyPost_ret (results_cell_row rfl _ _ w.heap.size 44 #[.int .i64 a, .int .i64 b] (0, 0) _ (by rfl) (Blk.new w #[.int .i64 a, .int .i64 b] 44) Tryz.underlying44 rfl (by kernel_rfl)) rfl ?_
  exact ⟨rfl, rfl⟩
theorem lit_same (W : World) (a b c d : Obj) : IR (((((W.alloc a).alloc b).alloc c).alloc d).alloc (.cells #[.int .i64 0, .int .i64 1] 3)).drew (some ⟨W.heap.size + 1 + 1 + 1 + 1, 0, none⟩) 2 [0, 1] := by
  have h := two_ir (W := ((((W.alloc a).alloc b).alloc c).alloc d)) (x := 0) (y := 1)
  simp only [World.size_alloc] at h
  exact ⟨Kd.C_drew h.r, h.c, h.l⟩
end Go.Proofs.YtaojkmalpihmbaaGreatDoor.M

