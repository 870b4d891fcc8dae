import Derived.Test.YtaojkmalpihmbaaGreatDoorB16
import Derived.Test.YtaojkmalpihmbaaGreatDoorB41
import Derived.Deep.QuietTactic
import Derived.BigQuiet
import Derived.ChangeArms
import Derived.DataElems
import Derived.ProofKit
import Derived.ChangeOld
import Derived.Below
import Derived.Test.YtaojkmalpihmbaaGreatDoorTie
import Derived.Test.YtaojkmalpihmbaaGreatDoorCards
import Derived.OpenShut
import Derived.LaidMore
import Derived.Lay
import Derived.SevenTiedAt
import Derived.HandedShaped
import Derived.Stop.Joined
import Derived.Test.YtaojkmalpihmbaaGreatDoorB12
namespace Go.Proofs.YtaojkmalpihmbaaGreatDoor.M
open Go.RowKit Go.Proofs.YtaojkmalpihmbaaGreatDoorW.PrintWords Go.Proofs.YtaojkmalpihmbaaGreatDoorW.PrintLast Go.Proofs.YtaojkmalpihmbaaGreatDoorW.PrintMore Go.Proofs.YtaojkmalpihmbaaGreatDoor.Q
set_option linter.unusedVariables false
set_option linter.unusedSimpArgs false

/-! The guards of all laws. -/
/-- What came in is read so, whatever its lengths. -/
structure PQ (w : World) (A0 : Option Addr) (c0 : Nat) (ms : List S64) (A1 : Option Addr) (c1 : Nat) (mv : List Int) (A2 : Option Addr) (c2 : Nat) (rs : List S66) : Prop where
  r0 : Kd.C k64 w A0 ms.length ms
  r1 : Kd.C (Kd.int .i64) w A1 mv.length mv
  r2 : Kd.C k66 w A2 rs.length rs
  c0 : ms.length ≤ c0
  c1 : mv.length ≤ c1
  c2 : rs.length ≤ c2
theorem PQ.below {w w1 : World} {A0 : Option Addr} {c0 : Nat} {ms : List S64} {A1 : Option Addr} {c1 : Nat} {mv : List Int} {A2 : Option Addr} {c2 : Nat} {rs : List S66} (h : PQ w A0 c0 ms A1 c1 mv A2 c2 rs) (hb : Below w.heap.size w w1) : PQ w1 A0 c0 ms A1 c1 mv A2 c2 rs :=
  ⟨Kd.C_below h.r0 hb, Kd.C_below h.r1 hb, Kd.C_below h.r2 hb, h.c0, h.c1, h.c2⟩
theorem sum_take {pl : List Int} {j : Nat} {x : Int} (h : pl[j]? = some x) : sumP (pl.take (j + 1)) = sumP (pl.take j) + x := by
  have e : ∀ (a : List Int) (y : Int), sumP (a ++ [y]) = sumP a + y := by
    intro a y
    induction a with
    | nil => simp [sumP]
    | cons b a ih => simp only [List.cons_append, sumP, ih]; omega
  rw [List.take_add_one, h]
  exact e _ _
theorem sum_bound : ∀ {l : List Int}, okPl l → sumP l ≤ 100 * (l.length : Int)
  | [], _ => by simp [sumP]
  | n :: l, h => by
    have h1 := h.head
    have h2 := sum_bound h.tail
    simp only [sumP, List.length_cons]
    omega
section
variable {A0 A1 A2 : Option Addr} {c0 c1 c2 : Nat} {ms : List S64} {mv : List Int} {rs : List S66} {pl : List Int} {A : Option Addr} {c : Nat}
def shortB (ms : List S64) (mv : List Int) (rs : List S66) : Bool := decide ((ms.length : Int) ≤ 6) && (decide ((mv.length : Int) ≤ 10) && decide ((rs.length : Int) ≤ 8))
theorem short_at {w : World} (h : PQ w A0 c0 ms A1 c1 mv A2 c2 rs) : Calls Tryz.prog 10 #[.agg #[.slice A0 ms.length c0, .slice A1 mv.length c1, .slice A2 rs.length c2]] w fun e w' => e = .returned (.bool (shortB ms mv rs)) ∧ Below w.heap.size w w' :=
  tellurionlaw03_short.calls A0 c0 ms A1 c1 mv A2 c2 rs _ w h.r0 h.c0 h.r1 h.c1 h.r2 h.c2 (by
    unfold tellurionlaw03_short.f shortB
    split
    · next h1 =>
      split
      · next h2 => simp [h1, h2]
      · next h2 => simp [h1, h2]
    · next h1 => simp [h1])
theorem short_len (h : shortB ms mv rs = true) : ms.length ≤ 6 ∧ mv.length ≤ 10 ∧ rs.length ≤ 8 := by
  simp only [shortB, Bool.and_eq_true, decide_eq_true_eq] at h
  omega
theorem piece_at {w : World} (h : PR w A0 c0 ms A1 c1 mv A2 c2 rs) : Calls Tryz.prog 11 #[.agg #[.slice A0 ms.length c0, .slice A1 mv.length c1, .slice A2 rs.length c2]] w fun e w' => e = .returned (.bool (pieceB ms mv rs)) ∧ Below w.heap.size w w' := by
  obtain ⟨k, hk⟩ := piece_f (ms := ms) (mv := mv) (rs := rs) h.l2 h.l1 h.l0
  exact tellurionref03_Piece.calls k A0 c0 ms A1 c1 mv A2 c2 rs _ w h.r0 h.c0 h.r1 h.c1 h.r2 h.c2 hk
theorem plays_at {w : World} (h : PR w A0 c0 ms A1 c1 mv A2 c2 rs) (hp : IR w A c pl) : Calls Tryz.prog 12 #[.agg #[.slice A0 ms.length c0, .slice A1 mv.length c1, .slice A2 rs.length c2], .slice A pl.length c] w fun e w' => e = .returned (.bool (playsB ms pl)) ∧ Below w.heap.size w w' := by
  obtain ⟨k, hk⟩ := plays_f (ms := ms) (mv := mv) (rs := rs) hp.l
  exact tellurionref03_Plays.calls k A0 c0 ms A1 c1 mv A2 c2 rs A c pl _ w h.r0 h.c0 h.r1 h.c1 h.r2 h.c2 hp.r hp.c hk
theorem within_at {w : World} (h : PR w A0 c0 ms A1 c1 mv A2 c2 rs) (hp : IR w A c pl) (hl : pl.length = ms.length) : Calls Tryz.prog 13 #[.agg #[.slice A0 ms.length c0, .slice A1 mv.length c1, .slice A2 rs.length c2], .slice A pl.length c] w fun e w' => e = .returned (.bool (okB pl ms)) ∧ Below w.heap.size w w' := by
  obtain ⟨k, hk⟩ := within_f (ms := ms) (mv := mv) (rs := rs) hp.l hl
  exact tellurionref03_Within.calls k A0 c0 ms A1 c1 mv A2 c2 rs A c pl _ w h.r0 h.c0 h.r1 h.c1 h.r2 h.c2 hp.r hp.c hk
end
end Go.Proofs.YtaojkmalpihmbaaGreatDoor.M

namespace Go.Proofs.YtaojkmalpihmbaaGreatDoor.M
open Go.ChangeShapes Go.WideShapes Go.ChangeAt Go.RowKit Go.Proofs.YtaojkmalpihmbaaGreatDoorW.PrintWords Go.Proofs.YtaojkmalpihmbaaGreatDoorW.PrintLast Go.Proofs.YtaojkmalpihmbaaGreatDoorW.PrintMore Go.Proofs.YtaojkmalpihmbaaGreatDoor.Q
set_option linter.unusedVariables false
set_option linter.unusedSimpArgs false

/-! Opening what came in. -/
theorem list_of {α : Type} {Q : Nat → α → Prop} : ∀ (n : Nat), (∀ i, i < n → ∃ p, Q i p) → ∃ l : List α, l.length = n ∧ ∀ i p, l[i]? = some p → Q i p
  | 0, _ => ⟨[], rfl, fun i p h => by simp at h⟩
  | n + 1, h => by
    obtain ⟨l, hl, hq⟩ := list_of n (fun i hi => h i (by omega))
    obtain ⟨p, hp⟩ := h n (by omega)
    refine ⟨l ++ [p], by simp [hl], fun i q hi => ?_⟩
    rcases Nat.lt_or_ge i n with h1 | h1
    · rw [List.getElem?_append_left (by omega)] at hi
      exact hq i q hi
    · rw [List.getElem?_append_right (by omega)] at hi
      have h2 := (List.getElem?_eq_some_iff.1 hi).1
      simp at h2
      obtain rfl : i = n := by omega
      rw [hl] at hi
      simp at hi
      subst hi
      exact hp
theorem len2 {l : List Value} (h : l.length = 2) : ∃ u v, l = [u, v] := by
  match l, h with
  | [u, v], _ => exact ⟨u, v, rfl⟩
theorem len3 {l : List Value} (h : l.length = 3) : ∃ u v y, l = [u, v, y] := by
  match l, h with
  | [u, v, y], _ => exact ⟨u, v, y, rfl⟩
theorem len4 {l : List Value} (h : l.length = 4) : ∃ u v y z, l = [u, v, y, z] := by
  match l, h with
  | [u, v, y, z], _ => exact ⟨u, v, y, z, rfl⟩
section
variable {H : Type} {enc : TypeId × Value → H} {w : World} {base : Nat} {spare : Nat → Bool} {held : Bool} {fuel : Nat}
theorem row_of_trod {α : Type} {d : Kd α} {t e : TypeId} (ht : Tryz.prog.underlying t = some (.slice e)) (hsz : Tryz.prog.cellsOf e = d.sz)
    (hel : ∀ (n : Nat) (cs : List Value) (x : DataW H × List MemPlace), DataW.trod enc Tryz.prog w base spare held n e cs = some x → ∃ p : α, d.K w p cs) {cs : List Value} {x : DataW H × List MemPlace}
    (h : DataW.trod enc Tryz.prog w base spare held fuel t cs = some x) : ∃ (A : Option Addr) (c : Nat) (l : List α), cs = [.slice A l.length c] ∧ l.length ≤ c ∧ Kd.C d w A l.length l := by
  rcases DataW.trod_slice ht h with ⟨rfl, _⟩ | ⟨a, len, cap, elems, rest, n, _, rfl, _, _, hlc, hcm, hlen, hes, _, _⟩
  · exact ⟨none, 0, [], rfl, Nat.le_refl _, Kd.C_nil _ _⟩
  · have hq : ∀ i, i < len → ∃ p : α, ∃ c, c.length = d.sz ∧ d.K w p c ∧ ∀ k u, c[k]? = some u → w.cell? (a.add (i * d.sz + k)) = some u := by
      intro i hi
      have h1 := hes i hi
      rw [List.getElem?_eq_getElem (by omega), Option.bind_eq_some_iff] at h1
      obtain ⟨c, h2, h3⟩ := h1
      obtain ⟨p, hp⟩ := hel n c _ h3
      obtain ⟨_, h5, h6⟩ := World.cells?_some h2
      rw [hsz] at h5 h6
      refine ⟨p, c, h5, hp, fun k u hu => ?_⟩
      have hk := (List.getElem?_eq_some_iff.1 hu).1
      have h7 := h6 k (by omega)
      rw [Addr.add_add, hu] at h7
      exact h7
    obtain ⟨l, hl, hc⟩ := list_of len hq
    subst hl
    have hmx : maxLen = 9223372036854775807 := rfl
    exact ⟨some a, cap, l, rfl, hlc, rfl, by omega, fun _ => ⟨a, rfl, hc⟩⟩
theorem c3 : Tryz.prog.cellsOf 3 = 1 := by kernel_rfl
theorem c44 : Tryz.prog.cellsOf 44 = 2 := by kernel_rfl
theorem c64 : Tryz.prog.cellsOf 64 = 2 := by kernel_rfl
theorem c66 : Tryz.prog.cellsOf 66 = 4 := by kernel_rfl
theorem el_int (n : Nat) (cs : List Value) (x : DataW H × List MemPlace) (h : DataW.trod enc Tryz.prog w base spare held n 3 cs = some x) : ∃ p : Int, (Kd.int .i64).K w p cs := by
  obtain ⟨z, rfl, _, _⟩ := DataW.trod_int Tryz.underlying3 h
  exact ⟨z, rfl⟩
theorem el_span (n : Nat) (cs : List Value) (x : DataW H × List MemPlace) (h : DataW.trod enc Tryz.prog w base spare held n 44 cs = some x) : ∃ p : S44, cs = [.int .i64 p.f0, .int .i64 p.f1] := by
  obtain ⟨xs, m, _, _, hl, hx, hf⟩ := DataW.trod_struct Tryz.underlying44 h
  have h0 := hf 0 _ rfl
  have h1 := hf 1 _ rfl
  rw [List.getElem?_eq_getElem (by rw [hx]; decide)] at h0 h1
  obtain ⟨a, e0, _⟩ := DataW.trod_int Tryz.underlying3 h0
  obtain ⟨b, e1, _⟩ := DataW.trod_int Tryz.underlying3 h1
  replace e0 : (cs.drop 0).take (Tryz.prog.cellsOf 3) = [.int .i64 a] := e0
  replace e1 : (cs.drop 1).take (Tryz.prog.cellsOf 3) = [.int .i64 b] := e1
  rw [c3] at e0 e1
  rw [c44] at hl
  obtain ⟨u, v, rfl⟩ := len2 hl
  simp at e0 e1
  subst e0 e1
  exact ⟨⟨a, b⟩, rfl⟩
theorem el_mesh (n : Nat) (cs : List Value) (x : DataW H × List MemPlace) (h : DataW.trod enc Tryz.prog w base spare held n 64 cs = some x) : ∃ p : S64, k64.K w p cs := by
  obtain ⟨xs, m, _, _, hl, hx, hf⟩ := DataW.trod_struct Tryz.underlying64 h
  have h0 := hf 0 _ rfl
  rw [List.getElem?_eq_getElem (by rw [hx]; decide)] at h0
  rw [c64] at hl
  have e : (cs.drop 0).take (Tryz.prog.cellsOf 44) = cs := by rw [c44, List.drop_zero, List.take_of_length_le (by omega)]
  obtain ⟨p, hp⟩ := el_span _ _ _ h0
  have hp' : cs = [.int .i64 p.f0, .int .i64 p.f1] := e.symm.trans hp
  rw [hp']
  exact ⟨⟨p⟩, k64_mk w ⟨p⟩⟩
theorem el_reading (n : Nat) (cs : List Value) (x : DataW H × List MemPlace) (h : DataW.trod enc Tryz.prog w base spare held n 66 cs = some x) : ∃ p : S66, k66.K w p cs := by
  obtain ⟨xs, m, _, _, hl, hx, hf⟩ := DataW.trod_struct Tryz.underlying66 h
  have h0 := hf 0 _ rfl
  have h1 := hf 1 _ rfl
  have h2 := hf 2 _ rfl
  have h3 := hf 3 _ rfl
  rw [List.getElem?_eq_getElem (by rw [hx]; decide)] at h0 h1 h2 h3
  obtain ⟨a, e0, _⟩ := DataW.trod_int Tryz.underlying3 h0
  obtain ⟨b, e1, _⟩ := DataW.trod_int Tryz.underlying3 h1
  obtain ⟨c, e2, _⟩ := DataW.trod_int Tryz.underlying3 h2
  obtain ⟨d, e3, _⟩ := DataW.trod_int Tryz.underlying3 h3
  replace e0 : (cs.drop 0).take (Tryz.prog.cellsOf 3) = [.int .i64 a] := e0
  replace e1 : (cs.drop 1).take (Tryz.prog.cellsOf 3) = [.int .i64 b] := e1
  replace e2 : (cs.drop 2).take (Tryz.prog.cellsOf 3) = [.int .i64 c] := e2
  replace e3 : (cs.drop 3).take (Tryz.prog.cellsOf 3) = [.int .i64 d] := e3
  rw [c3] at e0 e1 e2 e3
  rw [c66] at hl
  obtain ⟨u, v, y, z, rfl⟩ := len4 hl
  simp at e0 e1 e2 e3
  subst e0 e1 e2 e3
  exact ⟨⟨a, b, c, d⟩, k66_mk w ⟨a, b, c, d⟩⟩
theorem ints_of_trod {cs : List Value} {x : DataW H × List MemPlace} (h : DataW.trod enc Tryz.prog w base spare held fuel 23 cs = some x) : ∃ (A : Option Addr) (c : Nat) (l : List Int), cs = [.slice A l.length c] ∧ l.length ≤ c ∧ Kd.C (Kd.int .i64) w A l.length l :=
  row_of_trod Tryz.underlying23 c3 el_int h
theorem piece_of_trod {cs : List Value} {x : DataW H × List MemPlace} (h : DataW.trod enc Tryz.prog w base spare held fuel 26 cs = some x) :
    ∃ A0 c0 ms A1 c1 mv A2 c2 rs, cs = [.slice A0 (ms : List S64).length c0, .slice A1 (mv : List Int).length c1, .slice A2 (rs : List S66).length c2] ∧ PQ w A0 c0 ms A1 c1 mv A2 c2 rs := by
  obtain ⟨xs, m, _, _, hl, hx, hf⟩ := DataW.trod_struct Tryz.underlying26 h
  have h0 := hf 0 _ rfl
  have h1 := hf 1 _ rfl
  have h2 := hf 2 _ rfl
  rw [List.getElem?_eq_getElem (by rw [hx]; decide)] at h0 h1 h2
  obtain ⟨A0, c0, ms, e0, g0, k0⟩ := row_of_trod Tryz.underlying22 (d := k64) c64 el_mesh h0
  obtain ⟨A1, c1, mv, e1, g1, k1⟩ := ints_of_trod h1
  obtain ⟨A2, c2, rs, e2, g2, k2⟩ := row_of_trod Tryz.underlying24 (d := k66) c66 el_reading h2
  have d0 : Tryz.prog.cellsOf 22 = 1 := by kernel_rfl
  have d1 : Tryz.prog.cellsOf 23 = 1 := by kernel_rfl
  have d2 : Tryz.prog.cellsOf 24 = 1 := by kernel_rfl
  have dp : Tryz.prog.cellsOf 26 = 3 := by kernel_rfl
  replace e0 : (cs.drop 0).take (Tryz.prog.cellsOf 22) = [.slice A0 ms.length c0] := e0
  replace e1 : (cs.drop 1).take (Tryz.prog.cellsOf 23) = [.slice A1 mv.length c1] := e1
  replace e2 : (cs.drop 2).take (Tryz.prog.cellsOf 24) = [.slice A2 rs.length c2] := e2
  rw [d0] at e0
  rw [d1] at e1
  rw [d2] at e2
  rw [dp] at hl
  obtain ⟨u, v, y, rfl⟩ := len3 hl
  simp at e0 e1 e2
  subst e0 e1 e2
  exact ⟨A0, c0, ms, A1, c1, mv, A2, c2, rs, rfl, k0, k1, k2, g0, g1, g2⟩
end
end Go.Proofs.YtaojkmalpihmbaaGreatDoor.M

namespace Go.Proofs.YtaojkmalpihmbaaGreatDoor.M
open Go.ChangeShapes Go.WideShapes Go.ChangeAt Go.RowKit Go.Proofs.YtaojkmalpihmbaaGreatDoorW.PrintWords Go.Proofs.YtaojkmalpihmbaaGreatDoorW.PrintLast Go.Proofs.YtaojkmalpihmbaaGreatDoorW.PrintMore Go.Proofs.YtaojkmalpihmbaaGreatDoor.Q
set_option linter.unusedVariables false
set_option linter.unusedSimpArgs false

/-! The rows: what all share. -/
/-- A row that lists data, whose walk wants the world's shape too. -/
theorem handed_and_shaped {H : Type} {enc : TypeId × Value → H} {a : Assume} {C : Checked} {os : Os} {f : FuncId} {fn : Func} {s : ChangeSpec} {conds : List PathCond} {apart fresh handsOn again : Bool} {X : World → Array Value → Prop}
    (hX : ∀ (w w' : World) (args : Array Value), w.heap = w'.heap → X w args → X w' args)
    (own : ownKnob C.prog.godebug = none) (started : os.Started) (noInit : C.prog.inits.idxOf? f = none) (hfn : C.prog.funcs[f]? = some fn)
    (witness : ∃ (w : World) (tape : Tape) (i : Input), w.os = os ∧ (w.forCall tape i).Shaped C.prog ∧ i.vars = [] ∧ Input.okWide C.prog (w.forCall tape i) .any w.heap.size f i ∧
      ((s.pre enc C.prog fn conds apart (w.forCall tape i).memory i.args ∧ X (w.forCall tape i).memory i.args) ∧ sizedMet enc C.prog fn (OpenSpec.ofChange s) apart (w.forCall tape i).memory i.args) ∧ a.holds C.prog (lone (Frame.enter C.prog f i.args .normal) [] (w.forCall tape i)))
    (contract : ∀ (W : World) (base : Nat) (args : Array Value) (ds gs : List (DataW H)) (before : List MemPlace),
      (∀ (j : Nat) t v, fn.params[j]? = some t → args[j]? = some v → Value.okWide C.prog W .any base t v) →
      DataW.Whole enc C.prog fn.params.toList s.vars apart W args.toList ds gs before →
      (DataW.weightsEach C.prog (fn.params.toList ++ s.plain.varTypes C.prog) (ds ++ gs)).all (· ≤ reachBytes) = true →
      X W args → W.ShapedOpen C.prog →
      Calls C.prog f args W fun e W' => ∃ v, e = .returned v ∧ s.post enc C.prog fn apart fresh handsOn again W args v W') :
    ReturnsInHanded a C os f .any (fun w args => (s.pre enc C.prog fn conds apart w args ∧ X w args) ∧ sizedMet enc C.prog fn (OpenSpec.ofChange s) apart w args) (s.post enc C.prog fn apart fresh handsOn again) := by
  refine returnsInHanded_of_calls own started noInit witness ?_
  intro w tape i _ hsh _ hok hpre hholds
  obtain ⟨_, _, _, fn', hfn', _, _, _, _, hval⟩ := hok
  have e : fn' = fn := Option.some.inj (hfn'.symm.trans hfn)
  subst e
  obtain ⟨⟨⟨ds, gs, before, hw, hc⟩, hx⟩, hz⟩ := hpre
  have hw' := DataW.Whole.of_heap (w' := w.forCall tape i) (by rfl) hw
  refine (contract (w.forCall tape i) w.heap.size i.args ds gs before hval hw' (hz.weights hw) (hX _ _ _ (by rfl) hx) hsh).mono fun e W' ⟨v, he, hp⟩ => ?_
  subst he
  exact ChangeSpec.post_blind hp
theorem own : ownKnob Tryz.prog.godebug = none := by kernel_rfl
theorem laidOut : laidOutB Tryz.prog = true := by kernel_rfl
theorem libW_of {W : World} (h : W.ShapedOpen Tryz.prog) : LibW W := cell_of_shapedOpen_int (g := 0) (zero := #[.int .i64 0]) (t := 3) h (of_decide_eq_true (by kernel_rfl)) (by kernel_rfl) rfl (by kernel_rfl) (by kernel_rfl) Tryz.underlying3
def laidL : List (String × DataW Unit) := [("math/bits.deBruijn32tab", Rows.laid_math_bits_deBruijn32tab), ("math/bits.deBruijn64tab", Rows.laid_math_bits_deBruijn64tab), ("internal/strconv.uint64pow10", Rows.laid_internal_strconv_uint64pow10), ("unicode/utf8.acceptRanges", Rows.laid_unicode_utf8_acceptRanges), ("unicode/utf8.first", Rows.laid_unicode_utf8_first)]
end Go.Proofs.YtaojkmalpihmbaaGreatDoor.M

namespace Go.Proofs.YtaojkmalpihmbaaGreatDoor.M
open Go.RowKit Go.Proofs.YtaojkmalpihmbaaGreatDoorW.PrintWords Go.Proofs.YtaojkmalpihmbaaGreatDoorW.PrintLast Go.Proofs.YtaojkmalpihmbaaGreatDoorW.PrintMore Go.Proofs.YtaojkmalpihmbaaGreatDoor.Q
set_option linter.unusedVariables false
set_option linter.unusedSimpArgs false

/-! Plain: a move in two parts (SlackParts). -/
theorem moved_two : ∀ (pl r : List Int) (p0 p1 p2 : Int), okPl pl → chainB p0 pl r → (p0 ≤ p1 ∧ p1 ≤ p2) ∨ (p2 ≤ p1 ∧ p1 ≤ p0) → movedGo p2 pl (movedGo p1 pl r) = movedGo p2 pl r
  | [], [], _, _, _, _, _, _ => rfl
  | [], _ :: _, _, _, _, _, h, _ => h.elim
  | _ :: _, [], _, _, _, _, h, _ => h.elim
  | n :: pl, q :: r, p0, p1, p2, ho, h, hs => by
    have h1 := ho.head
    have h2 := h.1
    have h3 := h.2.1
    obtain ⟨r1, e1⟩ : ∃ r1, min p1 (max (p1 - n) q) = r1 := ⟨_, rfl⟩
    obtain ⟨r2, e2⟩ : ∃ r2, min p2 (max (p2 - n) q) = r2 := ⟨_, rfl⟩
    have e3 : min p2 (max (p2 - n) r1) = r2 := by omega
    simp only [movedGo, e1, e2, e3]
    rw [moved_two pl r q r1 r2 ho.tail h.2.2 (by omega)]
theorem movedC_two {pl pc : List Int} {K m q : Int} (ho : okPl pl) (h : Inv pl K pc) (hq : min 0 m ≤ q) (hq' : q ≤ max 0 m) : movedC (m - q) pl (movedC q pl pc) = movedC m pl pc := by
  obtain ⟨x, r, rfl, hc, _⟩ := h
  simp only [movedC]
  rw [show x + q + (m - q) = x + m by omega, moved_two pl r x (x + q) (x + m) ho hc (by omega)]
def partedL (mv : List Int) (i : Nat) (q : Int) : List Int := mv.take i ++ q :: (mv.getD i 0 - q) :: mv.drop (i + 1)
theorem parts_go {pl : List Int} (ho : okPl pl) (q : Int) : ∀ (mv : List Int) (i : Nat) (m : Int) (pc : List Int) (K : Int), mv[i]? = some m → min 0 m ≤ q → q ≤ max 0 m → okMv mv → Inv pl K pc →
    ∀ j : Nat, (runCGo pl pc (partedL mv i q))[if i < j then j + 1 else j]? = (runCGo pl pc mv)[j]?
  | [], _, _, _, _, h, _, _, _, _ => by simp at h
  | m :: mv, 0, m', pc, K, h, h1, h2, hm, hi => by
    intro j
    simp at h
    subst h
    simp only [partedL, List.take_zero, List.nil_append, List.getD_cons_zero, List.drop_one, List.tail_cons, runCGo, movedC_two ho hi h1 h2, Nat.zero_add]
    rcases j with _ | j
    · simp
    · simp
  | m :: mv, i + 1, m', pc, K, h, h1, h2, hm, hi => by
    intro j
    have hp : partedL (m :: mv) (i + 1) q = m :: partedL mv i q := by simp [partedL]
    have hb := hm.head
    have ih := parts_go ho q mv i m' (movedC m pl pc) (K + 300) (by simpa using h) h1 h2 hm.tail (moved_inv ho hi hb.1 hb.2)
    rw [hp]
    simp only [runCGo]
    rcases j with _ | j
    · simp
    · have := ih j
      by_cases hj : i < j
      · rw [if_pos hj] at this
        rw [if_pos (by omega)]
        simpa using this
      · rw [if_neg hj] at this
        rw [if_neg (by omega)]
        simpa using this
theorem parts_at {pl mv : List Int} {i : Nat} {m q : Int} (ho : okPl pl) (hm : okMv mv) (h : mv[i]? = some m) (h1 : min 0 m ≤ q) (h2 : q ≤ max 0 m) (j : Nat) : (runC pl (partedL mv i q))[if i < j then j + 1 else j]? = (runC pl mv)[j]? :=
  parts_go ho q mv i m _ 0 h h1 h2 hm (beg_inv ho) j
theorem parted_length {mv : List Int} {i : Nat} (q : Int) (h : i < mv.length) : (partedL mv i q).length = mv.length + 1 := by
  simp only [partedL, List.length_append, List.length_take, List.length_cons, List.length_drop]
  omega
theorem parted_ok {mv : List Int} {i : Nat} {m q : Int} (hm : okMv mv) (h : mv[i]? = some m) (h1 : min 0 m ≤ q) (h2 : q ≤ max 0 m) : okMv (partedL mv i q) := by
  have hb := hm m (List.mem_of_getElem? h)
  have hg : mv.getD i 0 = m := by rw [List.getD_eq_getElem?_getD, h]; rfl
  intro x hx
  rw [partedL, hg] at hx
  simp only [List.mem_append, List.mem_cons] at hx
  rcases hx with hx | hx | hx | hx
  · exact hm x (List.mem_of_mem_take hx)
  · omega
  · omega
  · exact hm x (List.mem_of_mem_drop hx)

/-! Plain: where an arbor is after a move (SlackTurned, SlackReturns, SlackAimed). -/
def sumP' : List Int → Nat → Int
  | n :: l, k + 1 => n + sumP' l k
  | _, _ => 0
theorem sumP'_nonneg : ∀ {l : List Int} {k : Nat}, okPl l → 0 ≤ sumP' l k
  | [], k, _ => by simp [sumP']
  | n :: l, 0, _ => by simp [sumP']
  | n :: l, k + 1, h => by
    have h1 := h.head
    have h2 := sumP'_nonneg (k := k) h.tail
    simp only [sumP']
    omega
theorem chain_near : ∀ (pl r : List Int) (x : Int), okPl pl → chainB x pl r → ∀ (k : Nat) (v : Int), r[k]? = some v → v ≤ x ∧ x - sumP' pl (k + 1) ≤ v
  | [], [], _, _, _, _, _, hv => by simp at hv
  | [], _ :: _, _, _, h, _, _, _ => h.elim
  | _ :: _, [], _, _, h, _, _, _ => h.elim
  | n :: pl, q :: r, x, ho, h, k, v, hv => by
    have h1 := ho.head
    have h2 := h.1
    have h3 := h.2.1
    rcases k with _ | k
    · simp at hv
      subst hv
      simp [sumP']
      omega
    · have := chain_near pl r q ho.tail h.2.2 k v (by simpa using hv)
      simp only [sumP'] at this ⊢
      omega
theorem moved_at : ∀ (pl r : List Int) (x p : Int), okPl pl → chainB x pl r → ∀ (k : Nat) (v : Int), r[k]? = some v → (movedGo p pl r)[k]? = some (min p (max (p - sumP' pl (k + 1)) v))
  | [], [], _, _, _, _, _, _, hv => by simp at hv
  | [], _ :: _, _, _, _, h, _, _, _ => h.elim
  | _ :: _, [], _, _, _, h, _, _, _ => h.elim
  | n :: pl, q :: r, x, p, ho, h, k, v, hv => by
    have h1 := ho.head
    rcases k with _ | k
    · simp at hv
      subst hv
      simp [movedGo, sumP']
    · have hv' : r[k]? = some v := by simpa using hv
      have hn := chain_near pl r q ho.tail h.2.2 k v hv'
      have hg := sumP'_nonneg (k := k + 1) ho.tail
      have := moved_at pl r q (min p (max (p - n) q)) ho.tail h.2.2 k v hv'
      simp only [movedGo, List.getElem?_cons_succ, this]
      rw [show sumP' (n :: pl) (k + 1 + 1) = n + sumP' pl (k + 1) from rfl]
      congr 1
      omega
end Go.Proofs.YtaojkmalpihmbaaGreatDoor.M

