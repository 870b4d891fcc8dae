import Derived.Test.YtaojkmalpihmbaaGreatDoorB17
import Derived.Test.YtaojkmalpihmbaaGreatDoorB06
import Derived.Laws.RangeString
import Derived.LoopN
import Derived.Test.YtaojkmalpihmbaaGreatDoorB10
namespace Go.Proofs.YtaojkmalpihmbaaGreatDoor.M
open Go.RowKit Go.Proofs.YtaojkmalpihmbaaGreatDoorW.PrintWords Go.Proofs.YtaojkmalpihmbaaGreatDoorW.PrintLast Go.Proofs.YtaojkmalpihmbaaGreatDoorW.PrintMore Go.Proofs.YtaojkmalpihmbaaGreatDoor.Q
set_option linter.unusedVariables false
set_option linter.unusedSimpArgs false

/-! Words and numbers of a short text. -/
def bs (l : List UInt8) : ByteArray := ⟨l.toArray⟩
theorem sure_yes (s : ByteArray) (w : World) : Calls Tryz.prog 118 #[.bool true, .string s] w fun e w' => e = .returned (.tuple #[]) ∧ w = w' := by
  go_enter Tryz.func118, Tryz.ntmps118
  go_wp2
  go_end0
  exact ⟨rfl, rfl⟩
theorem trim_at (s p r : ByteArray) (h : (⟨(Lib.trimPrefix s.data.toList p.data.toList).toArray⟩ : ByteArray) = r) (W : World) : Calls Tryz.prog 133 #[.string s, .string p] W fun e w' => e = .returned (.string r) ∧ W = w' :=
  (Tryz.strings_TrimPrefix s p W).mono (by rintro e w' ⟨rfl, rfl⟩; exact ⟨by rw [h], rfl⟩)
theorem itoa_at (n : Nat) (hn : n < 100) (i : Int) (hi : i = (n : Int)) (l : List UInt8) (h : Lib.decDigits n = l) (W : World) : Calls Tryz.prog 129 #[.int .i64 i] W fun e w' => e = .returned (.string ⟨l.toArray⟩) ∧ W = w' := by
  subst hi
  exact (Tryz.strconv_Itoa_small n hn W).mono (by rintro e w' ⟨rfl, rfl⟩; exact ⟨by rw [h], rfl⟩)
set_option maxHeartbeats 2000000 in
set_option maxRecDepth 100000 in
theorem number_one (w : World) : Calls Tryz.prog 126 #[.string ⟨#[49]⟩] w fun e w' => e = .returned (.int .i64 1) ∧ Below w.heap.size w w' := by
  have HT := Aside0.mk (trim_at ⟨#[49]⟩ ⟨#[45]⟩ ⟨#[49]⟩ (by rfl))
  have HI := Aside0.mk (itoa_at 1 (by decide) 1 rfl [49] (by decide +kernel))
  have hn0 : ∀ ty : TypeId, (Instr.next (.pointer (some ⟨w.heap.size, 0, none⟩)) true ty).run Tryz.prog (w.iter ⟨#[49]⟩ 0) = .ok (.tuple #[.bool true, .int .i64 0, .int .i32 49]) (w.iter ⟨#[49]⟩ 1) := fun ty => run_next_ascii w ⟨#[49]⟩ 0 ty (by decide) (by decide)
  have hn1 : ∀ ty : TypeId, (Instr.next (.pointer (some ⟨w.heap.size, 0, none⟩)) true ty).run Tryz.prog (w.iter ⟨#[49]⟩ 1) = .ok (.tuple #[.bool false]) (w.iter ⟨#[49]⟩ 1) := fun ty => run_next_end w ⟨#[49]⟩ 1 ty (by decide)
  go_enter Tryz.func126, Tryz.ntmps126
  go_wp2_with (first
    | (go_at_call 133; (with_reducible refine (HT.out _).mono ?_); rintro e w1 ⟨rfl, rfl⟩)
    | (go_at_call 118; (with_reducible refine (sure_yes _ _).mono ?_); rintro e w1 ⟨rfl, rfl⟩)
    | (go_at_call 129; (with_reducible refine (HI.out _).mono ?_); rintro e w1 ⟨rfl, rfl⟩))
  refine wp_loop_rounds 2 ?_
  rw [rounds_succ]
  go_wp2_with (first
    | (go_at_call 133; (with_reducible refine (HT.out _).mono ?_); rintro e w1 ⟨rfl, rfl⟩)
    | (go_at_call 118; (with_reducible refine (sure_yes _ _).mono ?_); rintro e w1 ⟨rfl, rfl⟩)
    | (go_at_call 129; (with_reducible refine (HI.out _).mono ?_); rintro e w1 ⟨rfl, rfl⟩))
  rw [rounds_succ]
  go_wp2_with (first
    | (go_at_call 133; (with_reducible refine (HT.out _).mono ?_); rintro e w1 ⟨rfl, rfl⟩)
    | (go_at_call 118; (with_reducible refine (sure_yes _ _).mono ?_); rintro e w1 ⟨rfl, rfl⟩)
    | (go_at_call 129; (with_reducible refine (HI.out _).mono ?_); rintro e w1 ⟨rfl, rfl⟩))
  go_ret
  exact ⟨rfl, below_alloc (Below.refl _ _) _⟩
set_option maxHeartbeats 2000000 in
set_option maxRecDepth 100000 in
theorem number_nil (w : World) : Calls Tryz.prog 126 #[.string ⟨#[48]⟩] w fun e w' => e = .returned (.int .i64 0) ∧ Below w.heap.size w w' := by
  have HT := Aside0.mk (trim_at ⟨#[48]⟩ ⟨#[45]⟩ ⟨#[48]⟩ (by rfl))
  have HI := Aside0.mk (itoa_at 0 (by decide) 0 rfl [48] (by decide +kernel))
  have hn0 : ∀ ty : TypeId, (Instr.next (.pointer (some ⟨w.heap.size, 0, none⟩)) true ty).run Tryz.prog (w.iter ⟨#[48]⟩ 0) = .ok (.tuple #[.bool true, .int .i64 0, .int .i32 48]) (w.iter ⟨#[48]⟩ 1) := fun ty => run_next_ascii w ⟨#[48]⟩ 0 ty (by decide) (by decide)
  have hn1 : ∀ ty : TypeId, (Instr.next (.pointer (some ⟨w.heap.size, 0, none⟩)) true ty).run Tryz.prog (w.iter ⟨#[48]⟩ 1) = .ok (.tuple #[.bool false]) (w.iter ⟨#[48]⟩ 1) := fun ty => run_next_end w ⟨#[48]⟩ 1 ty (by decide)
  go_enter Tryz.func126, Tryz.ntmps126
  go_wp2_with (first
    | (go_at_call 133; (with_reducible refine (HT.out _).mono ?_); rintro e w1 ⟨rfl, rfl⟩)
    | (go_at_call 118; (with_reducible refine (sure_yes _ _).mono ?_); rintro e w1 ⟨rfl, rfl⟩)
    | (go_at_call 129; (with_reducible refine (HI.out _).mono ?_); rintro e w1 ⟨rfl, rfl⟩))
  refine wp_loop_rounds 2 ?_
  rw [rounds_succ]
  go_wp2_with (first
    | (go_at_call 133; (with_reducible refine (HT.out _).mono ?_); rintro e w1 ⟨rfl, rfl⟩)
    | (go_at_call 118; (with_reducible refine (sure_yes _ _).mono ?_); rintro e w1 ⟨rfl, rfl⟩)
    | (go_at_call 129; (with_reducible refine (HI.out _).mono ?_); rintro e w1 ⟨rfl, rfl⟩))
  rw [rounds_succ]
  go_wp2_with (first
    | (go_at_call 133; (with_reducible refine (HT.out _).mono ?_); rintro e w1 ⟨rfl, rfl⟩)
    | (go_at_call 118; (with_reducible refine (sure_yes _ _).mono ?_); rintro e w1 ⟨rfl, rfl⟩)
    | (go_at_call 129; (with_reducible refine (HI.out _).mono ?_); rintro e w1 ⟨rfl, rfl⟩))
  go_ret
  exact ⟨rfl, below_alloc (Below.refl _ _) _⟩
end Go.Proofs.YtaojkmalpihmbaaGreatDoor.M

namespace Go.Proofs.YtaojkmalpihmbaaGreatDoor.M
open Go.RowKit Go.Proofs.YtaojkmalpihmbaaGreatDoorW.PrintWords Go.Proofs.YtaojkmalpihmbaaGreatDoorW.PrintLast Go.Proofs.YtaojkmalpihmbaaGreatDoorW.PrintMore Go.Proofs.YtaojkmalpihmbaaGreatDoor.Q
set_option linter.unusedVariables false
set_option linter.unusedSimpArgs false

/-! numbers. -/
/-- The library's own variable that Split's search reads holds some number. -/
def LibW (w : World) : Prop := ∃ m : Int, w.cell? ⟨0, 0, none⟩ = some (.int .i64 m)
theorem LibW.below {w w1 : World} (h : LibW w) (hb : Below w.heap.size w w1) : LibW w1 := by
  obtain ⟨m, hm⟩ := h
  exact ⟨m, pw_cell_below hb hm⟩
theorem split_at (s sep x : ByteArray) (l : List ByteArray) (hs : s.size < 4294967281) (h1 : 1 ≤ sep.size) (hc : Lib.countB s sep = l.length) (hl : Lib.splitB sep 0 l.length s = x :: l) {W : World} (h : LibW W) :
    Calls Tryz.prog 116 #[.string s, .string sep] W fun e w' => e = .returned (.slice (some ⟨W.heap.size, 0, none⟩) (l.length + 1) (l.length + 1)) ∧ w' = W.alloc (.cells (((x :: l).map Value.string).toArray) 9) := by
  obtain ⟨m, hm⟩ := h
  refine (Tryz.strings_Split s sep m W hs hm h1).mono ?_
  rintro e w' ⟨rfl, rfl⟩
  rw [hc, hl]
  exact ⟨rfl, rfl⟩
theorem below_eq {w w' W : World} (h : w' = W) (hb : Below w.heap.size w W) : Below w.heap.size w w' := h ▸ hb
set_option maxHeartbeats 2000000 in
set_option maxRecDepth 100000 in
theorem numbers_gen (s name : ByteArray) (many : Int) (l : List ByteArray) (vals : List Int) (hs : s.size < 4294967281) (hc : Lib.countB s ⟨#[32]⟩ = l.length) (hl : Lib.splitB ⟨#[32]⟩ 0 l.length s = name :: l) (hlen : vals.length = l.length) (hl1 : l.length ≤ 1000)
    (hmany : many = -1 ∨ many = (l.length : Int)) (hnum : ∀ (j : Nat) (x : ByteArray) (v : Int), l[j]? = some x → vals[j]? = some v → ∀ W : World, Calls Tryz.prog 126 #[.string x] W fun e w' => e = .returned (.int .i64 v) ∧ Below W.heap.size W w') {w : World} (hw : LibW w) :
    Calls Tryz.prog 117 #[.string s, .string name, .int .i64 many] w fun e w' => (∃ v, e = .returned v ∧ OwnR w' w.heap.size vals v) ∧ Below w.heap.size w w' := by
  have HS := Aside0.mk (split_at s ⟨#[32]⟩ name l hs (by decide) hc hl hw)
  have HN := Aside0.mk hnum
  have HL := Aside0.mk hlen
  have HB0 := Aside0.mk (below_alloc (Below.refl w.heap.size w) (.cells (((name :: l).map Value.string).toArray) 9))
  have HK0 := Aside0.mk (Blk.new w (((name :: l).map Value.string).toArray) 9)
  have hz0 : (w.alloc (.cells (((name :: l).map Value.string).toArray) 9)).cell? ⟨w.heap.size, 0, none⟩ = some (.string name) := HK0.out.cell 0 (by rfl)
  have hbl : (((l.length : Int) + 1) == ((l.length : Int) + 1)) = true := by simp
  clear hnum hlen hc hl
  obtain ⟨W1, hW1⟩ : ∃ W1, w.alloc (.cells (((name :: l).map Value.string).toArray) 9) = W1 := ⟨_, rfl⟩
  rw [hW1] at HS HB0 HK0 hz0
  clear hW1
  have hdec : decide ((l.length : Int) < 0) = false := by simp
  rcases Nat.eq_zero_or_pos l.length with hz | hz
  · have hl0 : l = [] := List.eq_nil_of_length_eq_zero hz
    subst hl0
    have hv0 : vals = [] := List.eq_nil_of_length_eq_zero HL.out
    subst hv0
    have hmany2 : many = -1 ∨ many = 0 := hmany
    rcases hmany2 with rfl | rfl
    all_goals
      go_enter Tryz.func117, Tryz.ntmps117
      go_wp2_with (first
      | (go_at_call 116; (with_reducible refine HS.out.mono ?_); rintro e w1 ⟨rfl, rfl⟩)
      | (go_at_call 118; (with_reducible refine (sure_yes _ _).mono ?_); rintro e w1 ⟨rfl, rfl⟩))
      refine wp_loop_rounds 1 ?_
      rw [rounds_succ]
      go_wp2
      go_ret
      exact ⟨⟨_, rfl, none_row _ _ _ _ _⟩, HB0.out⟩
  · rcases hmany with rfl | rfl
    all_goals
      go_enter Tryz.func117, Tryz.ntmps117
      go_wp2_with (first
      | (go_at_call 116; (with_reducible refine HS.out.mono ?_); rintro e w1 ⟨rfl, rfl⟩)
      | (go_at_call 118; (with_reducible refine (sure_yes _ _).mono ?_); rintro e w1 ⟨rfl, rfl⟩))
      · exfalso
        subst_vars
        exact absurd hz (by decide)
      go_loopg [8, 35] (l.length) (fun k v i wr => ∃ (j : Nat) (Os : List Int), j + k = l.length ∧ i = .int .i64 j ∧ Os.length ≤ j ∧ Aside0 (Os = vals.take j) ∧ Aside0 (OwnR wr w1.heap.size Os v) ∧ Below w1.heap.size w1 wr)
      case atStart => exact ⟨0, [], by omega, rfl, by simp, ⟨rfl⟩, ⟨none_row _ _ _ _ _⟩, Below.refl _ _⟩
      case round =>
        obtain ⟨j, Os, hj, rfl, hos, HQ, HO, hBr⟩ := hrel
        have hj' : j ≤ l.length := by omega
        have HJ := Aside0.mk hj
        clear hj
        obtain ⟨Av, cv, rfl⟩ := Kd.R_slice HO.out
        by_cases hlt : j < l.length
        · obtain ⟨x, hx⟩ : ∃ x, l[j]? = some x := ⟨_, List.getElem?_eq_getElem hlt⟩
          obtain ⟨v, hv⟩ : ∃ v, vals[j]? = some v := ⟨_, List.getElem?_eq_getElem (by have := HL.out; omega)⟩
          have hcx : wr.cell? ⟨w.heap.size, 1 + j, none⟩ = some (.string x) := (HK0.out.below hBr).cell (1 + j) (by rw [Nat.add_comm]; simp [hx])
          have HNX := Aside0.mk (HN.out j x v hx hv)
          have HV := Aside0.mk hv
          clear hx hv
          go_wp2_with (first | (go_at_call 126; (with_reducible refine (HNX.out _).mono ?_); rintro e w5 ⟨rfl, hb5⟩; have HB5 := Aside0.mk (bthen hBr hb5); have HO5 := Aside0.mk (OwnR.below HO.out hb5); clear hb5) | (at_builtin; go_must (refine Kd.R_append (Kd.int .i64) (w0 := w1) w1.heap.size rfl (.tmp 41) (.tmp 43) 23 3 (.int .i64 0) 8 rfl Tryz.underlying23 info3 rfl (by decide) (by decide) _ Os v [.int .i64 v] (fun _ => True) (fun _ => False) rfl rfl rfl (fun _ h => h.elim) (fun _ _ => trivial) HO5.out HB5.out ?_ ?_ ?_); exact HB5.out.size; omega; intro v1 w6 hr1 hb1 hg1 _; have HR1 := Aside0.mk hr1; clear hr1 hg1))
          go_roundg (gk - 1)
          case measure => have := HJ.out; omega
          case rel =>
            refine ⟨j + 1, Os ++ [v], by have := HJ.out; omega, by go_num, by rw [List.length_append]; simp; omega, ⟨?_⟩, HR1, hb1⟩
            rw [HQ.out, List.take_add_one, HV.out]
            rfl
        · obtain rfl : j = l.length := by omega
          go_wp2
          go_ret
          have hq := HQ.out
          rw [← HL.out, List.take_length] at hq
          exact ⟨⟨_, rfl, by rw [← hq]; exact Kd.R_lower HO.out HB0.out.size⟩, HB0.out.trans (hBr.mono HB0.out.size)⟩
end Go.Proofs.YtaojkmalpihmbaaGreatDoor.M

namespace Go.Proofs.YtaojkmalpihmbaaGreatDoor.M
open Go.RowKit Go.Proofs.YtaojkmalpihmbaaGreatDoorW.PrintWords Go.Proofs.YtaojkmalpihmbaaGreatDoorW.PrintLast Go.Proofs.YtaojkmalpihmbaaGreatDoorW.PrintMore Go.Proofs.YtaojkmalpihmbaaGreatDoor.Q
set_option linter.unusedVariables false
set_option linter.unusedSimpArgs false

/-! line. -/
def lineB (dig : Int → List UInt8) (name : ByteArray) (vals : List Int) : ByteArray := vals.foldl (fun s v => s ++ ((⟨#[32]⟩ : ByteArray) ++ ⟨(dig v).toArray⟩)) name
theorem lineB_snoc (dig : Int → List UInt8) (name : ByteArray) (l : List Int) (v : Int) : lineB dig name (l ++ [v]) = lineB dig name l ++ ((⟨#[32]⟩ : ByteArray) ++ ⟨(dig v).toArray⟩) := by simp [lineB, List.foldl_append]
set_option maxHeartbeats 2000000 in
set_option maxRecDepth 100000 in
theorem line_gen (dig : Int → List UInt8) (name : ByteArray) {w : World} {A : Option Addr} {c : Nat} {vals : List Int} (h : IR w A c vals)
    (hit : ∀ v ∈ vals, ∀ W : World, Below w.heap.size w W → Calls Tryz.prog 129 #[.int .i64 v] W fun e w' => e = .returned (.string ⟨(dig v).toArray⟩) ∧ Below W.heap.size W w') (hsz : name.size + 20 * vals.length ≤ 100000) (hdig : ∀ v ∈ vals, (dig v).length ≤ 19) :
    Calls Tryz.prog 127 #[.string name, .slice A vals.length c] w fun e w' => e = .returned (.string (lineB dig name vals)) ∧ Below w.heap.size w w' := by
  have H := Aside0.mk h
  have HI := Aside0.mk hit
  have HD := Aside0.mk hdig
  have hl := h.l
  clear h hit hdig
  go_enter Tryz.func127, Tryz.ntmps127
  go_wp2
  go_loopg [0, 9] (vals.length) (fun k s i wr => ∃ (j : Nat) (b : ByteArray), j + k = vals.length ∧ i = .int .i64 j ∧ s = .string b ∧ b.size ≤ name.size + 20 * j ∧ Aside0 (b = lineB dig name (vals.take j)) ∧ Below w.heap.size w wr)
  case atStart => exact ⟨0, name, by omega, rfl, rfl, by omega, ⟨rfl⟩, Below.refl _ _⟩
  case round =>
    obtain ⟨j, b, hj, rfl, rfl, hbz, HB, hBr⟩ := hrel
    have hj' : j ≤ vals.length := by omega
    have HJ := Aside0.mk hj
    clear hj
    by_cases hlt : j < vals.length
    · obtain ⟨x, hx⟩ : ∃ x, vals[j]? = some x := ⟨_, List.getElem?_eq_getElem hlt⟩
      have HIX := Aside0.mk (HI.out x (List.mem_of_getElem? hx) wr hBr)
      obtain ⟨ad, rfl, hc⟩ := at_int (Kd.C_below H.out.r hBr) hx hlt
      have hdx := HD.out x (List.mem_of_getElem? hx)
      have HX := Aside0.mk hx
      clear hx
      have hq1 : ¬ 9223372036854775807 < 1 + (dig x).length := by omega
      have hq2 : ¬ 9223372036854775807 < b.size + (1 + (dig x).length) := by omega
      go_wp2_with (go_at_call 129; (with_reducible refine HIX.out.mono ?_); rintro e w5 ⟨rfl, hb5⟩; have HB5 := Aside0.mk (bthen hBr hb5); clear hb5)
      go_roundg (gk - 1)
      case measure => have := HJ.out; omega
      case rel =>
        refine ⟨j + 1, _, by have := HJ.out; omega, by go_num, rfl, ?_, ⟨?_⟩, HB5.out⟩
        · simp only [ByteArray.size_append]
          have e1 : (⟨#[32]⟩ : ByteArray).size = 1 := rfl
          have e2 : (⟨(dig x).toArray⟩ : ByteArray).size = (dig x).length := by simp [ByteArray.size]
          omega
        · rw [List.take_add_one, HX.out]
          show _ = lineB dig name (vals.take j ++ [x])
          rw [lineB_snoc, HB.out]
    · obtain rfl : j = vals.length := by omega
      go_wp2
      go_ret
      exact ⟨by rw [HB.out, List.take_length]; rfl, hBr⟩
end Go.Proofs.YtaojkmalpihmbaaGreatDoor.M

namespace Go.Proofs.YtaojkmalpihmbaaGreatDoor.M
open Go.RowKit Go.Proofs.YtaojkmalpihmbaaGreatDoorW.PrintWords Go.Proofs.YtaojkmalpihmbaaGreatDoorW.PrintLast Go.Proofs.YtaojkmalpihmbaaGreatDoorW.PrintMore Go.Proofs.YtaojkmalpihmbaaGreatDoor.Q
set_option linter.unusedVariables false
set_option linter.unusedSimpArgs false

/-! text: its parts. -/
def kStr : Kd ByteArray := Kd.scalar Value.string (fun _ => rfl)
theorem infoS : (Tryz.prog.info? 9).map (fun i => (i.zero, i.size, i.bytes)) = some (some (.string ⟨#[]⟩), 1, 16) := by kernel_rfl
def OwnS (w : World) (base : Nat) (l : List ByteArray) (v : Value) : Prop := Kd.R kStr 9 w base (fun _ => True) v l
theorem OwnS.own {w : World} {base : Nat} {l : List ByteArray} {v : Value} (h : OwnS w base l v) : w.ownsRow base 9 1 v l.length (encs Value.string l) := Kd.own_of_R h
theorem OwnS.below {w w1 : World} {base : Nat} {l : List ByteArray} {v : Value} (h : OwnS w base l v) (hb : Below w.heap.size w w1) : OwnS w1 base l v := Kd.R_below h hb
theorem OwnS.cell {w : World} {base g n cap : Nat} {l : List ByteArray} (h : OwnS w base l (.slice (some ⟨g, 0, none⟩) n cap)) (hn : n = l.length) {j : Nat} {x : ByteArray} (hx : l[j]? = some x) : w.cell? ⟨g, j, none⟩ = some (.string x) := by
  subst hn
  rw [h.own.cellAt j (by have := (List.getElem?_eq_some_iff.1 hx).1; omega)]
  simp [encs, hx]
theorem OwnS.form {w : World} {base : Nat} {l : List ByteArray} {v : Value} (h : OwnS w base l v) (hl : 0 < l.length) : ∃ g cap, v = .slice (some ⟨g, 0, none⟩) l.length cap ∧ base ≤ g ∧ g < w.heap.size ∧ l.length ≤ cap := by
  obtain ⟨g, cap, e, h1, h2⟩ := h.own.form hl
  refine ⟨g, cap, e, h1, h2, ?_⟩
  obtain ⟨A', c', e', hc, _⟩ := Kd.R_reads h
  rw [e] at e'
  injection e' with _ _ e3
  omega
theorem str_own (w : World) (s : ByteArray) : OwnS (w.alloc (.cells #[.string s] 9)) w.heap.size [s] (.slice (some ⟨w.heap.size, 0, none⟩) 1 1) := by
  refine Kd.R_of_own ⟨by simp [encs], .inr ⟨w.heap.size, 1, #[.string s], rfl, Nat.le_refl _, heap_alloc_new w _, by simp, by simp [maxLen], by simp, by simp [encs]⟩⟩ (fun _ _ => trivial)
theorem two_ir {W : World} {x y : Int} : IR (W.alloc (.cells #[.int .i64 x, .int .i64 y] 3)) (some ⟨W.heap.size, 0, none⟩) 2 [x, y] := by
  have h : OwnR (W.alloc (.cells #[.int .i64 x, .int .i64 y] 3)) W.heap.size [x, y] (.slice (some ⟨W.heap.size, 0, none⟩) 2 2) :=
    Kd.R_of_own ⟨by simp [encs], .inr ⟨W.heap.size, 2, #[.int .i64 x, .int .i64 y], rfl, Nat.le_refl _, heap_alloc_new W _, by simp, by simp [maxLen], by simp, by simp [encs]⟩⟩ (fun _ _ => trivial)
  exact OwnR.ir (n := 2) h (by simp)
theorem four_ir {W : World} {x y z u : Int} : IR (W.alloc (.cells #[.int .i64 x, .int .i64 y, .int .i64 z, .int .i64 u] 3)) (some ⟨W.heap.size, 0, none⟩) 4 [x, y, z, u] := by
  have h : OwnR (W.alloc (.cells #[.int .i64 x, .int .i64 y, .int .i64 z, .int .i64 u] 3)) W.heap.size [x, y, z, u] (.slice (some ⟨W.heap.size, 0, none⟩) 4 4) :=
    Kd.R_of_own ⟨by simp [encs], .inr ⟨W.heap.size, 4, #[.int .i64 x, .int .i64 y, .int .i64 z, .int .i64 u], rfl, Nat.le_refl _, heap_alloc_new W _, by simp, by simp [maxLen], by simp, by simp [encs]⟩⟩ (fun _ _ => trivial)
  exact OwnR.ir (n := 4) h (by simp)
theorem one_ir {W : World} {x : Int} : IR (W.alloc (.cells #[.int .i64 x] 3)) (some ⟨W.heap.size, 0, none⟩) 1 [x] := OwnR.ir (n := 1) (one_own W x) (by simp)
/-- Itoa, at the numbers that are met. -/
structure Digs (dig : Int → List UInt8) (ok : Int → Prop) (w : World) : Prop where
  it : ∀ v, ok v → ∀ W : World, Below w.heap.size w W → Calls Tryz.prog 129 #[.int .i64 v] W fun e w' => e = .returned (.string ⟨(dig v).toArray⟩) ∧ Below W.heap.size W w'
  len : ∀ v, ok v → (dig v).length ≤ 19
  small : ∀ v, 0 ≤ v → v < 100 → ok v
section
variable {dig : Int → List UInt8} {ok : Int → Prop}
theorem Digs.below {w w1 : World} (h : Digs dig ok w) (hb : Below w.heap.size w w1) : Digs dig ok w1 := ⟨fun v hv W hW => h.it v hv W (hb.trans (hW.mono hb.size)), h.len, h.small⟩
theorem line_at {w : World} (D : Digs dig ok w) (nm : ByteArray) (hnm : nm.size ≤ 50) {A : Option Addr} {c : Nat} {l : List Int} (h : IR w A c l) (hl : ∀ v ∈ l, ok v) :
    Calls Tryz.prog 127 #[.string nm, .slice A l.length c] w fun e w' => e = .returned (.string (lineB dig nm l)) ∧ Below w.heap.size w w' :=
  line_gen dig nm h (fun v hv W hW => D.it v (hl v hv) W hW) (by have := h.l; omega) (fun v hv => D.len v (hl v hv))
theorem line1 {w : World} (D : Digs dig ok w) (nm : ByteArray) (hnm : nm.size ≤ 50) {x : Int} (hx : ok x) {W : World} (hW : Below w.heap.size w W) {b : Nat} (hb : W.heap.size = b) :
    Calls Tryz.prog 127 #[.string nm, .slice (some ⟨b, 0, none⟩) 1 1] (W.alloc (.cells #[.int .i64 x] 3)) fun e w' => e = .returned (.string (lineB dig nm [x])) ∧ Below (W.alloc (.cells #[.int .i64 x] 3)).heap.size (W.alloc (.cells #[.int .i64 x] 3)) w' := by
  subst hb
  exact line_at (D.below (below_alloc hW _)) nm hnm (l := [x]) one_ir (by simp [hx])
theorem line2 {w : World} (D : Digs dig ok w) (nm : ByteArray) (hnm : nm.size ≤ 50) {x y : Int} (hx : ok x) (hy : ok y) {W : World} (hW : Below w.heap.size w W) {b : Nat} (hb : W.heap.size = b) :
    Calls Tryz.prog 127 #[.string nm, .slice (some ⟨b, 0, none⟩) 2 2] (W.alloc (.cells #[.int .i64 x, .int .i64 y] 3)) fun e w' => e = .returned (.string (lineB dig nm [x, y])) ∧ Below (W.alloc (.cells #[.int .i64 x, .int .i64 y] 3)).heap.size (W.alloc (.cells #[.int .i64 x, .int .i64 y] 3)) w' := by
  subst hb
  exact line_at (D.below (below_alloc hW _)) nm hnm (l := [x, y]) two_ir (by simp [hx, hy])
theorem line4 {w : World} (D : Digs dig ok w) (nm : ByteArray) (hnm : nm.size ≤ 50) {x y z u : Int} (hx : ok x) (hy : ok y) (hz : ok z) (hu : ok u) {W : World} (hW : Below w.heap.size w W) {b : Nat} (hb : W.heap.size = b) :
    Calls Tryz.prog 127 #[.string nm, .slice (some ⟨b, 0, none⟩) 4 4] (W.alloc (.cells #[.int .i64 x, .int .i64 y, .int .i64 z, .int .i64 u] 3)) fun e w' => e = .returned (.string (lineB dig nm [x, y, z, u])) ∧ Below (W.alloc (.cells #[.int .i64 x, .int .i64 y, .int .i64 z, .int .i64 u] 3)).heap.size (W.alloc (.cells #[.int .i64 x, .int .i64 y, .int .i64 z, .int .i64 u] 3)) w' := by
  subst hb
  exact line_at (D.below (below_alloc hW _)) nm hnm (l := [x, y, z, u]) four_ir (by simp [hx, hy, hz, hu])
theorem lineB_size : ∀ (l : List Int) (nm : ByteArray), (∀ v ∈ l, (dig v).length ≤ 19) → (lineB dig nm l).size ≤ nm.size + 20 * l.length
  | [], nm, _ => by simp [lineB]
  | v :: l, nm, h => by
    have h1 := lineB_size l (nm ++ ((⟨#[32]⟩ : ByteArray) ++ ⟨(dig v).toArray⟩)) (fun x hx => h x (List.mem_cons_of_mem _ hx))
    have h2 := h v (List.mem_cons_self ..)
    have e1 : (⟨#[32]⟩ : ByteArray).size = 1 := rfl
    have e2 : (⟨(dig v).toArray⟩ : ByteArray).size = (dig v).length := by simp [ByteArray.size]
    have e3 : lineB dig nm (v :: l) = lineB dig (nm ++ ((⟨#[32]⟩ : ByteArray) ++ ⟨(dig v).toArray⟩)) l := rfl
    rw [e3]
    simp only [ByteArray.size_append] at h1
    simp only [List.length_cons]
    omega
end
def nmPiece : ByteArray := ⟨#[112, 105, 101, 99, 101]⟩
def nmMesh : ByteArray := ⟨#[109, 101, 115, 104]⟩
def nmMoves : ByteArray := ⟨#[109, 111, 118, 101, 115]⟩
def nmReading : ByteArray := ⟨#[114, 101, 97, 100, 105, 110, 103]⟩
def meshLine (dig : Int → List UInt8) (m : S64) : ByteArray := lineB dig nmMesh [m.f0.f0, m.f0.f1]
def readLine (dig : Int → List UInt8) (r : S66) : ByteArray := lineB dig nmReading [r.f0, r.f1, r.f2, r.f3]
def linesB (dig : Int → List UInt8) (ms : List S64) (mv : List Int) (rs : List S66) : List ByteArray :=
  ((lineB dig nmPiece [(ms.length : Int)] :: ms.map (meshLine dig)) ++ [lineB dig nmMoves mv]) ++ rs.map (readLine dig)
/-- What the first k bytes of line i come to in the check. -/
def sumK (s : ByteArray) (i : Nat) : Nat → Int
  | 0 => 0
  | k + 1 => sumK s i k + ((s.data.toList.getD k 0).toNat : Int) * ((k : Int) + 1) * ((i : Int) + 1)
def sumL (l : List ByteArray) : Nat → Int
  | 0 => 0
  | i + 1 => sumL l i + sumK (l.getD i ⟨#[]⟩) i (l.getD i ⟨#[]⟩).size
theorem step_bound {b k i : Nat} (hb : b < 256) (hk : k < 20005) (hi : i < 2003) : 0 ≤ (b : Int) * ((k : Int) + 1) ∧ (b : Int) * ((k : Int) + 1) ≤ 5101275 ∧ 0 ≤ (b : Int) * ((k : Int) + 1) * ((i : Int) + 1) ∧ (b : Int) * ((k : Int) + 1) * ((i : Int) + 1) ≤ 10217853825 := by
  have h1 : b * (k + 1) ≤ 255 * 20005 := Nat.mul_le_mul (by omega) (by omega)
  have h2 : b * (k + 1) * (i + 1) ≤ 255 * 20005 * 2003 := Nat.mul_le_mul h1 (by omega)
  have e1 : (b : Int) * ((k : Int) + 1) = ((b * (k + 1) : Nat) : Int) := by simp
  have e2 : (b : Int) * ((k : Int) + 1) * ((i : Int) + 1) = ((b * (k + 1) * (i + 1) : Nat) : Int) := by simp
  rw [e2, e1]
  omega
theorem sumK_bound {s : ByteArray} {i : Nat} (hi : i < 2003) : ∀ k, k ≤ 20005 → 0 ≤ sumK s i k ∧ sumK s i k ≤ 10217853825 * (k : Int)
  | 0, _ => by simp [sumK]
  | k + 1, h => by
    have h1 := sumK_bound (s := s) hi k (by omega)
    have h2 := step_bound (UInt8.toNat_lt (s.data.toList.getD k 0)) (show k < 20005 by omega) hi
    simp only [sumK]
    omega
theorem sumL_bound {l : List ByteArray} (hs : ∀ x ∈ l, x.size ≤ 20005) : ∀ i, i ≤ l.length → i ≤ 2003 → 0 ≤ sumL l i ∧ sumL l i ≤ 204408165769125 * (i : Int)
  | 0, _, _ => by simp [sumL]
  | i + 1, h, h' => by
    have h1 := sumL_bound hs i (by omega) (by omega)
    have h3 : (l.getD i ⟨#[]⟩).size ≤ 20005 := by
      rw [List.getD_eq_getElem?_getD, List.getElem?_eq_getElem (by omega)]
      exact hs _ (List.getElem_mem _)
    have h2 := sumK_bound (s := l.getD i ⟨#[]⟩) (i := i) (by omega) _ h3
    simp only [sumL]
    omega
end Go.Proofs.YtaojkmalpihmbaaGreatDoor.M

