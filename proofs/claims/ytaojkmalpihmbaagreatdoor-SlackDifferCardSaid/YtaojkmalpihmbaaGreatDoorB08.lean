import Derived.Test.YtaojkmalpihmbaaGreatDoorB07
import Derived.Deep.QuietTactic
import Derived.BigQuiet
namespace Go.Proofs.YtaojkmalpihmbaaGreatDoor.M
open Go.RowKit Go.Proofs.YtaojkmalpihmbaaGreatDoorW.PrintWords Go.Proofs.YtaojkmalpihmbaaGreatDoorW.PrintLast Go.Proofs.YtaojkmalpihmbaaGreatDoorW.PrintMore Go.Proofs.YtaojkmalpihmbaaGreatDoor.Q
set_option linter.unusedVariables false
set_option linter.unusedSimpArgs false

/-! A move as a number: turned, after. -/
def turnOf (m : Int) : Value := if m < 0 then .iface 160 (.int .i64 (wrap64 (-m))) else .iface 159 (.int .i64 m)
def afterM (m : Int) (pl pc : List Int) : List Int := if m < 0 then afterL false (wrap64 (-m)) pl pc else afterL true m pl pc
theorem afterM_length (m : Int) (pl pc : List Int) : (afterM m pl pc).length = pc.length := by unfold afterM; split <;> simp [afterL_length]
theorem turned_calls (m : Int) (w : World) : Calls Tryz.prog 108 #[.int .i64 m] w fun e w' => e = .returned (turnOf m) ∧ w = w' := by
  by_cases h : m < 0
  · simpa only [turnOf, if_pos h] using turned_neg m w h
  · simpa only [turnOf, if_neg h] using turned_pos m w h
/-- What a call leaves that returns a truth: its plays as they came, its places its own. -/
def TruthR (w : World) (Ap : Option Addr) (cp n : Nat) (l : List Int) (e : Ending) (w' : World) : Prop := ∃ A' c', e = .returned (.agg #[.slice Ap n cp, .slice A' l.length c']) ∧ OwnR w' w.heap.size l (.slice A' l.length c')
theorem TruthR.of {w : World} {Ap : Option Addr} {cp n : Nat} {l : List Int} {e : Ending} {w' : World} (h : ∃ v, e = .returned (.agg #[.slice Ap n cp, v]) ∧ OwnR w' w.heap.size l v) : TruthR w Ap cp n l e w' := by
  obtain ⟨v, rfl, hr⟩ := h
  obtain ⟨A', c', rfl⟩ := Kd.R_slice hr
  exact ⟨A', c', rfl, hr⟩
theorem after_calls {w : World} {Ap Aq : Option Addr} {cp cq : Nat} {pl pc : List Int} (hp : IR w Ap cp pl) (hq : IR w Aq cq pc) (hl : pc.length = pl.length + 1) (m : Int) :
    Calls Tryz.prog 107 #[.agg #[.slice Ap pl.length cp, .slice Aq pc.length cq], turnOf m] w fun e w' => TruthR w Ap cp pl.length (afterM m pl pc) e w' ∧ Below w.heap.size w w' := by
  by_cases h : m < 0
  · simp only [turnOf, afterM, if_pos h]
    exact (afterBack_calls hp hq hl (wrap64 (-m))).mono fun e w' h => ⟨TruthR.of h.1, h.2⟩
  · simp only [turnOf, afterM, if_neg h]
    exact (afterOn_calls hp hq hl m).mono fun e w' h => ⟨TruthR.of h.1, h.2⟩

/-! begun -/
def begunGo : Int → List Int → List Int
  | p, [] => [p]
  | p, n :: l => p :: begunGo (wrap64 (p - n)) l
def begunL (pl : List Int) : List Int := begunGo 0 pl
theorem begunGo_length : ∀ (p : Int) (l : List Int), (begunGo p l).length = l.length + 1
  | _, [] => rfl
  | p, n :: l => by simp [begunGo, begunGo_length _ l]
theorem begunL_length (pl : List Int) : (begunL pl).length = pl.length + 1 := begunGo_length 0 pl
def Begun (pl L : List Int) (j : Nat) : Prop := L.length = j + 1 ∧ ∃ p, L[j]? = some p ∧ L ++ (begunGo p (pl.drop j)).tail = begunL pl
theorem Begun.start (pl : List Int) : Begun pl [0] 0 := ⟨rfl, 0, rfl, by cases pl <;> simp [begunL, begunGo]⟩
theorem Begun.step {pl L : List Int} {j : Nat} {n p : Int} (h : Begun pl L j) (hn : pl[j]? = some n) (hp : L[j]? = some p) : Begun pl (L ++ [wrap64 (p - n)]) (j + 1) := by
  obtain ⟨hl, p', hp', he⟩ := h
  rw [hp] at hp'
  cases hp'
  obtain ⟨hnl, rfl⟩ := List.getElem?_eq_some_iff.1 hn
  refine ⟨by simp [hl], wrap64 (p - pl[j]), by rw [List.getElem?_append_right (by omega)]; simp [hl], ?_⟩
  rw [← he, List.drop_eq_getElem_cons hnl]
  simp only [begunGo, List.tail_cons, List.append_assoc]
  congr 1
  cases hd : List.drop (j + 1) pl <;> simp [begunGo]
theorem Begun.all {pl L : List Int} (h : Begun pl L pl.length) : L = begunL pl := by
  obtain ⟨_, p, _, he⟩ := h
  rw [List.drop_eq_nil_of_le (Nat.le_refl _)] at he
  simpa [begunGo] using he
theorem one_own (w : World) (x : Int) : OwnR (w.alloc (.cells #[.int .i64 x] 3)) w.heap.size [x] (.slice (some ⟨w.heap.size, 0, none⟩) 1 1) := by
  refine Kd.R_of_own ⟨by simp [encs], .inr ⟨w.heap.size, 1, #[.int .i64 x], rfl, Nat.le_refl _, heap_alloc_new w _, by simp, by simp [maxLen], by simp, by simp [encs]⟩⟩ (fun _ _ => trivial)
set_option maxHeartbeats 4000000 in
set_option maxRecDepth 100000 in
theorem begun_calls {w : World} {A : Option Addr} {c : Nat} {pl : List Int} (hp : IR w A c pl) :
    Calls Tryz.prog 106 #[.slice A pl.length c] w fun e w' => TruthR w A c pl.length (begunL pl) e w' ∧ Below w.heap.size w w' := by
  have HP := Aside0.mk hp
  have hpl := hp.l
  clear hp
  have HO0 := Aside0.mk (one_own (w.alloc (.cells #[.slice none 0 0, .slice none 0 0] 89)) 0)
  have HK0 := Aside0.mk ((Blk.new w #[.slice none 0 0, .slice none 0 0] 89).alloc (.cells #[.int .i64 0] 3))
  have HB0 := Aside0.mk (below_alloc (below_alloc (Below.refl w.heap.size w) (.cells #[.slice none 0 0, .slice none 0 0] 89)) (.cells #[.int .i64 0] 3))
  go_enter Tryz.func106, Tryz.ntmps106
  go_wp2
  go_loopg [3, 9] (pl.length) (fun k v i wr => ∃ (j : Nat) (L : List Int), j + k = pl.length ∧ i = .int .i64 j ∧ Aside0 (OwnR wr w.heap.size L v) ∧ Aside0 (Begun pl L j) ∧ Below w.heap.size w wr ∧ Aside0 (Blk wr w.heap.size #[.slice none 0 0, .slice none 0 0] 89))
  case atStart => exact ⟨0, [0], by omega, rfl, ⟨by have h := HO0.out; rw [World.size_alloc] at h; exact Kd.R_lower h (by omega)⟩, ⟨Begun.start pl⟩, HB0.out, HK0⟩
  case round =>
    obtain ⟨j, L, hj, rfl, HOL, HD, hBr, HBK⟩ := hrel
    have hj' : j ≤ pl.length := by omega
    have HJ := Aside0.mk hj
    clear hj
    obtain ⟨g, cap, rfl, hbg, hgl⟩ := OwnR.form HOL.out (by have := HD.out.1; omega)
    by_cases hlt : j < pl.length
    · have hlL : j < L.length := by have := HD.out.1; omega
      have hl1 : L.length ≤ 1001 := by have := HD.out.1; omega
      obtain ⟨nn, hnn⟩ : ∃ nn, pl[j]? = some nn := ⟨_, List.getElem?_eq_getElem hlt⟩
      obtain ⟨p, hp⟩ : ∃ p, L[j]? = some p := ⟨_, List.getElem?_eq_getElem hlL⟩
      obtain ⟨ad, rfl, hcn⟩ := at_int (Kd.C_below HP.out.r hBr) hnn hlt
      have hcp := OwnR.cell HOL.out rfl hp
      have HNN := Aside0.mk hnn
      have HPP := Aside0.mk hp
      clear hnn hp
      go_wp2_with (at_builtin; (refine Kd.R_append (Kd.int .i64) (w0 := w) w.heap.size rfl (.tmp 14) (.tmp 21) 23 3 (.int .i64 0) 8 rfl Tryz.underlying23 info3 rfl (by decide) (by decide) _ L (wrap64 (p - nn)) [.int .i64 (wrap64 (p - nn))] (fun _ => True) (fun _ => False) rfl rfl rfl (fun _ h => h.elim) (fun _ _ => trivial) HOL.out hBr ?_ ?_ ?_); exact below_size hBr; omega; intro v1 w2 hr1 hb1 hg1 _; have HR1 := Aside0.mk hr1; have HG1 := Aside0.mk hg1; clear hr1 hg1)
      go_roundg (gk - 1)
      case measure => have := HJ.out; omega
      case rel => exact ⟨j + 1, _, by have := HJ.out; omega, by go_num, HR1, ⟨HD.out.step HNN.out HPP.out⟩, hb1, ⟨HBK.out.grown HG1.out (Kd.R_ne HOL.out HBK.out (by decide))⟩⟩
    · obtain rfl : j = pl.length := by omega
      have hd0 := HBK.out.cell 0 rfl
      have hd1 := HBK.out.cell 1 rfl
      have hf0 := HBK.out.free 0
      have hf1 := HBK.out.free 1
      have hgn := Kd.R_ne HOL.out HBK.out (by decide)
      have hgn' : w.heap.size ≠ g := by intro e; apply hgn; simp [Value.ownBlock, e]
      have HBf := Aside0.mk ((HBK.out.put 0 (.slice A pl.length c) rfl).put 1 (.slice (some ⟨g, 0, none⟩) L.length cap) rfl)
      have HOf := Aside0.mk ((HOL.out.far (p := ⟨w.heap.size, 0, none⟩) hgn' (.slice A pl.length c)).far (p := ⟨w.heap.size, 1, none⟩) hgn' (.slice (some ⟨g, 0, none⟩) L.length cap))
      have HSf := Aside0.mk (below_set (j := 1) (v := .slice (some ⟨g, 0, none⟩) L.length cap) (below_set (j := 0) (v := .slice A pl.length c) hBr (Nat.le_refl _)) (Nat.le_refl _))
      clear hgn
      go_wp2
      refine bodyPost_ret (results_cell_row rfl _ _ w.heap.size 89 #[.slice A pl.length c, .slice (some ⟨g, 0, none⟩) L.length cap] (0, 0) _ (by rfl) HBf.out Tryz.underlying89 rfl (by kernel_rfl)) rfl ?_
      exact ⟨TruthR.of ⟨_, rfl, by rw [← HD.out.all]; exact HOf.out⟩, HSf.out⟩
end Go.Proofs.YtaojkmalpihmbaaGreatDoor.M

namespace Go.Proofs.YtaojkmalpihmbaaGreatDoor.M
open Go.RowKit Go.Proofs.YtaojkmalpihmbaaGreatDoorW.PrintWords Go.Proofs.YtaojkmalpihmbaaGreatDoorW.PrintLast Go.Proofs.YtaojkmalpihmbaaGreatDoorW.PrintMore Go.Proofs.YtaojkmalpihmbaaGreatDoor.Q
set_option linter.unusedVariables false
set_option linter.unusedSimpArgs false

/-! A row of truths that have the same plays (V, one slice): each one's places are its own. -/
def kRun (A : Option Addr) (n c : Nat) : Kd (List Int) := Kd.iso (Kd.pair (Kd.scalar (fun _ : Unit => Value.slice A n c) (fun _ => rfl)) (Kd.slice 3 (Kd.int .i64))) (fun l : List Int => ((), l))
theorem kRun_mk {A : Option Addr} {n c : Nat} {w : World} {base : Nat} {ok : Nat → Prop} {l : List Int} {v : Value} (h : (Kd.int .i64).R 3 w base ok v l) : (kRun A n c).M w base ok l [.slice A n c, v] := ⟨[.slice A n c], [v], rfl, rfl, v, rfl, h⟩
theorem at_run {Ap : Option Addr} {m cp : Nat} {w : World} {A : Option Addr} {n : Nat} {Os : List (List Int)} (h : Kd.C (kRun Ap m cp) w A n Os) {j : Nat} {l : List Int} (hx : Os[j]? = some l) (hj : j < n) :
    ∃ ad A' c', A = some ad ∧ w.cell? (ad.add (j * 2)) = some (.slice Ap m cp) ∧ w.cell? ⟨(ad.add (j * 2)).block, (ad.add (j * 2)).off + 1, none⟩ = some (.slice A' l.length c') ∧ l.length ≤ c' ∧ Kd.C (Kd.int .i64) w A' l.length l := by
  obtain ⟨ad, c, e, _, hK, hc0⟩ := Kd.C_get h ([] : List Int) (j : Int) (by omega) (by omega)
  have hd : Os.getD (j : Int).toNat [] = l := by rw [Int.toNat_natCast, List.getD_eq_getElem?_getD, hx]; rfl
  rw [hd] at hK
  obtain ⟨_, _, rfl, rfl, A', c', rfl, hl, hr⟩ := hK
  rw [Int.toNat_natCast] at hc0
  refine ⟨ad, A', c', e, hc0 0 _ rfl, ?_, hl, hr⟩
  have := hc0 1 _ rfl
  rw [← add_field _ _ 1 (by omega)]
  exact this

def runGo (pl : List Int) : List Int → List Int → List (List Int)
  | pc, [] => [pc]
  | pc, m :: mv => pc :: runGo pl (afterM m pl pc) mv
def runL (pl mv : List Int) : List (List Int) := runGo pl (begunL pl) mv
theorem runGo_length (pl : List Int) : ∀ (pc mv : List Int), (runGo pl pc mv).length = mv.length + 1
  | _, [] => rfl
  | pc, m :: mv => by simp [runGo, runGo_length pl _ mv]
theorem runL_length (pl mv : List Int) : (runL pl mv).length = mv.length + 1 := runGo_length pl _ mv
def Runs (pl mv : List Int) (Os : List (List Int)) (j : Nat) : Prop := Os.length = j + 1 ∧ ∃ p, Os[j]? = some p ∧ p.length = pl.length + 1 ∧ Os ++ (runGo pl p (mv.drop j)).tail = runL pl mv
theorem Runs.start (pl mv : List Int) : Runs pl mv [begunL pl] 0 := ⟨rfl, _, rfl, begunL_length pl, by cases mv <;> simp [runL, runGo]⟩
theorem Runs.step {pl mv : List Int} {Os : List (List Int)} {j : Nat} {m : Int} {p : List Int} (h : Runs pl mv Os j) (hm : mv[j]? = some m) (hp : Os[j]? = some p) : Runs pl mv (Os ++ [afterM m pl p]) (j + 1) := by
  obtain ⟨hl, p', hp', hpl, he⟩ := h
  rw [hp] at hp'
  cases hp'
  obtain ⟨hml, rfl⟩ := List.getElem?_eq_some_iff.1 hm
  refine ⟨by simp [hl], afterM mv[j] pl p, by rw [List.getElem?_append_right (by omega)]; simp [hl], by rw [afterM_length, hpl], ?_⟩
  rw [← he, List.drop_eq_getElem_cons hml]
  simp only [runGo, List.tail_cons, List.append_assoc]
  congr 1
  cases hd : List.drop (j + 1) mv <;> simp [runGo]
theorem Runs.all {pl mv : List Int} {Os : List (List Int)} (h : Runs pl mv Os mv.length) : Os = runL pl mv := by
  obtain ⟨_, p, _, _, he⟩ := h
  rw [List.drop_eq_nil_of_le (Nat.le_refl _)] at he
  simpa [runGo] using he
theorem one_row (Ap : Option Addr) (m cp : Nat) {w : World} {base : Nat} {l : List Int} {v : Value} (h : OwnR w base l v) (hb : base ≤ w.heap.size) :
    Kd.R (kRun Ap m cp) 89 (w.alloc (.cells #[.slice Ap m cp, v] 89)) base (fun _ => True) (.slice (some ⟨w.heap.size, 0, none⟩) 1 1) [l] := by
  refine ⟨fun _ _ => trivial, [.slice Ap m cp, v], ⟨rfl, .inr ⟨w.heap.size, 1, #[.slice Ap m cp, v], rfl, hb, heap_alloc_new w _, by simp, by simp [maxLen], by rfl, rfl⟩⟩, rfl, fun j p hj => ?_⟩
  have hj0 : j = 0 := by have := (List.getElem?_eq_some_iff.1 hj).1; simp at this; exact this
  subst hj0
  simp at hj
  subst hj
  refine kRun_mk ?_
  refine Kd.R_mono (Kd.R_below (Kd.R_bound h) (below_alloc (Below.refl _ _) _)) (fun k hk => ⟨trivial, ?_⟩)
  intro e
  simp [Value.ownBlock] at e
  have := hk.2.2.1
  omega
theorem OwnR.under {w : World} {base : Nat} {l : List Int} {v : Value} (h : OwnR w base l v) {p : Addr} (hp : p.block < base) (u : Value) : OwnR (w.setCell p u) base l v :=
  Kd.R_of_own (own_move h.own (fun k hk => Below.heap_setCell w p u k (by have := own_base h.own k hk; omega))) (fun _ _ => trivial)
theorem row_lt {α : Type} {d : Kd α} {w : World} {e base : Nat} {ok : Nat → Prop} {v : Value} {xs : List α} (h : d.R e w base ok v xs) : ∀ k, v.ownBlock = some k → k < w.heap.size := by
  obtain ⟨inner, ho⟩ := Kd.R_own h
  exact fun k hk => own_lt ho k hk
theorem ne_above {v : Value} {n k : Nat} (h : ∀ k, v.ownBlock = some k → k < n) (hk : n ≤ k) : some k ≠ v.ownBlock := fun e => by have := h k e.symm; omega
/-- A truth that a call has made, laid into a variable of its own: the variable made behind the call, or ahead of it. -/
def Laid (wr wx : World) (b : Nat) (a v : Value) (l : List Int) : Prop := Blk wx b #[a, v] 89 ∧ OwnR wx wr.heap.size l v ∧ Below wr.heap.size wr wx ∧ wr.heap.size ≤ b
theorem laid_behind {wr w2 : World} {a v : Value} {l : List Int} (hb : Below wr.drew.heap.size wr.drew w2) (hr : OwnR w2 wr.drew.heap.size l v) : Laid wr (w2.alloc (.cells #[a, v] 89)) w2.heap.size a v l :=
  ⟨Blk.new _ _ _, OwnR.below hr (below_alloc (Below.refl _ _) _), below_alloc (w := wr) ⟨hb.os, hb.tape, hb.output, hb.size, hb.block⟩ _, hb.size⟩
theorem laid_ahead {wr w2 : World} {a v z0 z1 : Value} {l : List Int} (hb : Below (wr.alloc (.cells #[z0, z1] 89)).drew.heap.size (wr.alloc (.cells #[z0, z1] 89)).drew w2) (hr : OwnR w2 (wr.alloc (.cells #[z0, z1] 89)).drew.heap.size l v) :
    Laid wr ((w2.setCell ⟨wr.heap.size, 0, none⟩ a).setCell ⟨wr.heap.size, 1, none⟩ v) wr.heap.size a v l := by
  have hs : (wr.alloc (.cells #[z0, z1] 89)).drew.heap.size = wr.heap.size + 1 := World.size_alloc _ _
  have hk : Blk w2 wr.heap.size #[z0, z1] 89 := Blk.below (w := (wr.alloc (.cells #[z0, z1] 89)).drew) (Blk.new wr #[z0, z1] 89).drew hb
  have h1 : Below wr.heap.size wr w2 := bthen (w := wr) (below_drew1 (below_alloc (Below.refl wr.heap.size wr) _)) hb
  refine ⟨(hk.put 0 a rfl).put 1 v rfl, ?_, below_set (below_set h1 (Nat.le_refl _)) (Nat.le_refl _), Nat.le_refl _⟩
  exact Kd.R_lower ((hr.under (p := ⟨wr.heap.size, 0, none⟩) (by rw [hs]; show wr.heap.size < _; omega) a).under (p := ⟨wr.heap.size, 1, none⟩) (by rw [hs]; show wr.heap.size < _; omega) v) (by rw [hs]; omega)
section
variable {A0 A1 A2 : Option Addr} {c0 c1 c2 : Nat} {ms : List S64} {mv : List Int} {rs : List S66}
set_option maxHeartbeats 4000000 in
set_option maxRecDepth 100000 in
theorem run_calls {w : World} (h : PR w A0 c0 ms A1 c1 mv A2 c2 rs) {A : Option Addr} {c : Nat} {pl : List Int} (hp : IR w A c pl) (hp1 : pl.length ≤ 100) :
    Calls Tryz.prog 69 #[.agg #[.slice A0 ms.length c0, .slice A1 mv.length c1, .slice A2 rs.length c2], .slice A pl.length c] w fun e w' =>
      (∃ v, e = .returned v ∧ Kd.R (kRun A pl.length c) 89 w' w.heap.size (fun _ => True) v (runL pl mv)) ∧ Below w.heap.size w w' := by
  have H := Aside0.mk h
  have HP := Aside0.mk hp
  have hpl := hp1
  have hmv := h.l1
  clear h hp hp1
  have hB0 := below_alloc (Below.refl w.heap.size w) (.cells #[.slice A0 ms.length c0, .slice A1 mv.length c1, .slice A2 rs.length c2] 26)
  have HB0 := Aside0.mk hB0
  have HK0 := Aside0.mk (Blk.new w #[.slice A0 ms.length c0, .slice A1 mv.length c1, .slice A2 rs.length c2] 26)
  clear hB0
  go_enter Tryz.func69, Tryz.ntmps69
  go_wp2_with (go_at_call 106; (with_reducible refine (begun_calls (HP.out.below HB0.out)).mono ?_); rintro e w1 ⟨⟨Av, cv, rfl, hr1⟩, hb1⟩; have HR1 := Aside0.mk hr1; have HBB1 := Aside0.mk (bthen HB0.out hb1); have HK1 := Aside0.mk (HK0.out.below hb1); have hK1 := HK1.out.cell 1 rfl; have hlt1 := HK1.out.lt; clear hr1 hb1)
  have HRow := Aside0.mk (one_row (w := w1) A pl.length c (Kd.R_lower (base' := w.heap.size) HR1.out (by simp)) HBB1.out.size)
  have HBr0 := Aside0.mk (below_alloc HBB1.out (.cells #[.slice A pl.length c, .slice Av (begunL pl).length cv] 89))
  go_loopg [5, 15] (mv.length) (fun k v i wr => ∃ (j : Nat) (Os : List (List Int)), j + k = mv.length ∧ i = .int .i64 j ∧ Aside0 (Kd.R (kRun A pl.length c) 89 wr w.heap.size (fun _ => True) v Os) ∧ Aside0 (Runs pl mv Os j) ∧ Below w.heap.size w wr)
  case atStart => exact ⟨0, [begunL pl], by omega, rfl, HRow, ⟨Runs.start pl mv⟩, HBr0.out⟩
  case round =>
    obtain ⟨j, Os, hj, rfl, HOL, HD, hBr⟩ := hrel
    have hj' : j ≤ mv.length := by omega
    have HJ := Aside0.mk hj
    clear hj
    by_cases hlt : j < mv.length
    · have hlL : j < Os.length := by have := HD.out.1; omega
      have hl1 : Os.length ≤ 1001 := by have := HD.out.1; omega
      obtain ⟨m, hm⟩ : ∃ m, mv[j]? = some m := ⟨_, List.getElem?_eq_getElem hlt⟩
      obtain ⟨p, hp⟩ : ∃ p, Os[j]? = some p := ⟨_, List.getElem?_eq_getElem hlL⟩
      have hpp : p.length = pl.length + 1 := by
        obtain ⟨_, p', hp', h, _⟩ := HD.out
        rw [hp] at hp'
        cases hp'
        exact h
      obtain ⟨ad, rfl, hcm⟩ := at_int (Kd.C_below H.out.r1 hBr) hm hlt
      obtain ⟨Ao, co, rfl, hlo, hro⟩ := Kd.R_reads HOL.out
      obtain ⟨ao, A', c', rfl, hca, hcb, hcl, hcr⟩ := at_run hro hp hlL
      have HQ := Aside0.mk (show IR wr A' c' p from ⟨hcr, hcl, by omega⟩)
      have HPL := Aside0.mk hpp
      have HM := Aside0.mk hm
      have HPP := Aside0.mk hp
      have HRO := Aside0.mk hro
      have hsz := hBr.size
      have hcaA : ∀ o : Obj, (wr.alloc o).cell? (ao.add (j * 2)) = some (.slice A pl.length c) := fun o => pw_cell_below (below_alloc (Below.refl _ _) o) hca
      have hcbA : ∀ o : Obj, (wr.alloc o).cell? ⟨(ao.add (j * 2)).block, (ao.add (j * 2)).off + 1, none⟩ = some (.slice A' p.length c') := fun o => pw_cell_below (below_alloc (Below.refl _ _) o) hcb
      clear hm hp hpp hcr hcl hlo hro
      go_upto_region 5 with fail
      go_cut [8] (fun s wx => ∃ (b : Nat) (A2' : Option Addr) (c2' : Nat), s = .pointer (some ⟨b, 0, none⟩) ∧ Aside0 (Laid wr wx b (.slice A pl.length c) (.slice A2' (afterM m pl p).length c2') (afterM m pl p)))
      case first =>
        go_region_with (first | (go_at_call 108; (with_reducible refine (turned_calls _ _).mono ?_); rintro e w2 ⟨rfl, rfl⟩) | (go_at_call 107; (with_reducible refine (after_calls ((HP.out.below hBr).below ?_) (HQ.out.below ?_) HPL.out m).mono ?_); (repeat (first | exact Below.refl _ _ | apply below_alloc | apply below_drew1)); (repeat (first | exact Below.refl _ _ | apply below_alloc | apply below_drew1)); rintro e w2 ⟨⟨A2', c2', rfl, hr2⟩, hb2⟩; have HR2 := Aside0.mk hr2; have HB2 := Aside0.mk hb2; obtain ⟨hk1, hk2⟩ := bcell hb2; have hz2 := hb2.size; clear hr2 hb2))
        all_goals (go_wp2_with fail; go_meet)
        all_goals first | exact ⟨_, _, _, rfl, ⟨laid_behind HB2.out HR2.out⟩⟩ | exact ⟨_, _, _, rfl, ⟨laid_ahead HB2.out HR2.out⟩⟩
      case rest =>
        obtain ⟨b, A2', c2', rfl, HLd⟩ := hcut
        obtain ⟨hL1, hL2, hL3, hL4⟩ := HLd.out
        have hd0 := hL1.cell 0 rfl
        have hd1 := hL1.cell 1 rfl
        have hltb := hL1.lt
        have HOL2 := Aside0.mk (Kd.R_below HOL.out hL3)
        have HM2 := Aside0.mk (kRun_mk (A := A) (n := pl.length) (c := c) (Kd.R_lower (Kd.R_bound hL2) hBr.size))
        have HB3 := Aside0.mk (bthen hBr hL3)
        have HNE := Aside0.mk (row_lt HOL.out)
        clear hL1 hL2 hL3 hL4
        go_wp2_with (at_builtin; go_must (refine Kd.R_append (kRun A pl.length c) (w0 := w) w.heap.size rfl (.tmp 27) (.tmp 29) 82 89 (.agg #[.slice none 0 0, .slice none 0 0]) 48 rfl Tryz.underlying82 info89 rfl (show 0 < 2 by decide) (by decide) _ Os (afterM m pl p) _ (fun _ => True) _ rfl rfl HM2.out ?_ (fun _ _ => trivial) HOL2.out HB3.out ?_ ?_ ?_); (intro k hk; exact ⟨trivial, ne_above HNE.out hk.2.1⟩); exact below_size HB3.out; omega; intro v1 w3 hr1 hb1 _ _; have HR4 := Aside0.mk hr1; clear hr1)
        go_roundg (gk - 1)
        case measure => have := HJ.out; omega
        case rel => exact ⟨j + 1, _, by have := HJ.out; omega, by go_num, HR4, ⟨HD.out.step HM.out HPP.out⟩, hb1⟩
    · obtain rfl : j = mv.length := by omega
      go_wp2
      go_ret
      exact ⟨⟨_, rfl, by rw [← HD.out.all]; exact HOL.out⟩, hBr⟩
end
end Go.Proofs.YtaojkmalpihmbaaGreatDoor.M

namespace Go.Proofs.YtaojkmalpihmbaaGreatDoor.M
open Go.RowKit Go.Proofs.YtaojkmalpihmbaaGreatDoorW.PrintWords Go.Proofs.YtaojkmalpihmbaaGreatDoorW.PrintLast Go.Proofs.YtaojkmalpihmbaaGreatDoorW.PrintMore Go.Proofs.YtaojkmalpihmbaaGreatDoor.Q
set_option linter.unusedVariables false
set_option linter.unusedSimpArgs false

/-! agree: gives up with a reading's number if it does not agree. -/
def readAt (pc : List Int) (moves : Int) (r : S66) : Bool := !(r.f0 == moves) || inB (wrap64 (pc.getD r.f1.toNat 0 - r.f2)) (wrap64 (-r.f3)) r.f3
def agreeB (rs : List S66) (pc : List Int) (moves : Int) : Bool := !anyB (fun r => !readAt pc moves r) rs
def Gives (b : Bool) (e : Ending) : Prop := (b = true ∧ e = .returned (.tuple #[])) ∨ (b = false ∧ ∃ i : Int, e = .panicked [{ v := .iface 162 (.agg #[.int .i64 i]), recovered := false }])
section
variable {A0 A1 A2 : Option Addr} {c0 c1 c2 : Nat} {ms : List S64} {mv : List Int} {rs : List S66}
set_option maxHeartbeats 4000000 in
set_option maxRecDepth 100000 in
theorem agree_calls {w : World} (h : PR w A0 c0 ms A1 c1 mv A2 c2 rs) {Ap Aq : Option Addr} {n cp cq : Nat} {pc : List Int} (hq : IR w Aq cq pc) (ha : ∀ r ∈ rs, 0 ≤ r.f1 ∧ r.f1 < (pc.length : Int)) (moves : Int) :
    Calls Tryz.prog 124 #[.agg #[.slice Ap n cp, .slice Aq pc.length cq], .agg #[.slice A0 ms.length c0, .slice A1 mv.length c1, .slice A2 rs.length c2], .int .i64 moves] w fun e w' => Gives (agreeB rs pc moves) e ∧ Below w.heap.size w w' := by
  have H := Aside0.mk h
  have HQ := Aside0.mk hq
  have HA := Aside0.mk ha
  have hrl := h.l2
  have HB0 := Aside0.mk (below_alloc (below_alloc (Below.refl w.heap.size w) (.cells #[.slice Ap n cp, .slice Aq pc.length cq] 89)) (.cells #[.slice A0 ms.length c0, .slice A1 mv.length c1, .slice A2 rs.length c2] 26))
  have HK0 := Aside0.mk ((Blk.new w #[.slice Ap n cp, .slice Aq pc.length cq] 89).alloc (.cells #[.slice A0 ms.length c0, .slice A1 mv.length c1, .slice A2 rs.length c2] 26))
  clear h hq ha
  go_enter Tryz.func124, Tryz.ntmps124
  go_wp2
  go_loopg [12] (rs.length) (fun k i wr => ∃ (j : Nat), j + k = rs.length ∧ i = .int .i64 j ∧ Aside0 (idxFrom (fun r => !readAt pc moves r) rs j) ∧ Below w.heap.size w wr ∧ Aside0 (Blk wr w.heap.size #[.slice Ap n cp, .slice Aq pc.length cq] 89))
  case atStart => exact ⟨0, by omega, rfl, ⟨idxFrom_zero _ _⟩, HB0.out, HK0⟩
  case round =>
    obtain ⟨j, hj, rfl, HI, hBr, HKr⟩ := hrel
    have hj' : j ≤ rs.length := by omega
    have HJ := Aside0.mk hj
    clear hj
    by_cases hlt : j < rs.length
    · obtain ⟨r, hr⟩ : ∃ r, rs[j]? = some r := ⟨_, List.getElem?_eq_getElem hlt⟩
      obtain ⟨hr0, hr1⟩ := HA.out r (List.mem_of_getElem? hr)
      obtain ⟨x, hx⟩ : ∃ x, pc[r.f1.toNat]? = some x := ⟨_, List.getElem?_eq_getElem (by omega)⟩
      obtain ⟨ad, rfl, hc0, hc1, hc2, hc3⟩ := at_reading (Kd.C_below H.out.r2 hBr) hr hlt
      obtain ⟨aq, rfl, hcx⟩ := at_int (Kd.C_below HQ.out.r hBr) hx (by omega)
      have hk0 := HKr.out.cell 1 rfl
      have hk1 := HKr.out.cell 0 rfl
      have hklt := HKr.out.lt
      have hcxA : ∀ o : Obj, (wr.alloc o).cell? (aq.add r.f1.toNat) = some (.int .i64 x) := fun o => pw_cell_below (below_alloc (Below.refl _ _) o) hcx
      have HR := Aside0.mk hr
      have HX := Aside0.mk hx
      have HV := Aside0.mk (show readAt pc moves r = (!(r.f0 == moves) || inB (wrap64 (x - r.f2)) (wrap64 (-r.f3)) r.f3) by unfold readAt; rw [List.getD_eq_getElem?_getD, hx]; rfl)
      have HB1 := Aside0.mk (below_drew1 (below_alloc hBr (.cells #[.int .i64 r.f0, .int .i64 r.f1, .int .i64 r.f2, .int .i64 r.f3] 66)))
      clear hr hx
      go_upto_region 4 with fail
      go_cut [8] (fun s wx => s = .int .i64 (wrap64 (x - r.f2)) ∧ wx = (wr.alloc (.cells #[.int .i64 r.f0, .int .i64 r.f1, .int .i64 r.f2, .int .i64 r.f3] 66)).drew)
      case first =>
        go_region
        all_goals (go_wp2_with fail; go_meet)
        all_goals exact ⟨rfl, rfl⟩
      case rest =>
        obtain ⟨rfl, rfl⟩ := hcut
        have HK1 := Aside0.mk ((HKr.out.alloc (.cells #[.int .i64 r.f0, .int .i64 r.f1, .int .i64 r.f2, .int .i64 r.f3] 66)).drew)
        rcases hm : (r.f0 == moves) with _ | _
        · have hm' := hm
          have HM := Aside0.mk hm
          clear hm
          go_wp2_with ((with_reducible refine (in_calls _ _ _ _).mono ?_); rintro e w2 ⟨rfl, rfl⟩)
          go_roundg (gk - 1)
          case measure => have := HJ.out; omega
          case rel => exact ⟨j + 1, by have := HJ.out; omega, by go_num, ⟨idxFrom_succ HI.out HR.out (by rw [HV.out, HM.out]; rfl)⟩, HB1.out, HK1⟩
        · have hm' := hm
          have HM := Aside0.mk hm
          clear hm
          rcases hb : inB (wrap64 (x - r.f2)) (wrap64 (-r.f3)) r.f3 with _ | _
          · have HBB := Aside0.mk hb
            clear hb
            go_wp2_with ((with_reducible refine (in_calls _ _ _ _).mono ?_); rintro e w2 ⟨rfl, rfl⟩; rw [HBB.out])
            refine ⟨rfl, .inr ⟨?_, j, rfl⟩, HB1.out⟩
            simp only [agreeB]
            rw [any_of_at HR.out (by simp [HV.out, HM.out, HBB.out])]
            rfl
          · have HBB := Aside0.mk hb
            clear hb
            go_wp2_with ((with_reducible refine (in_calls _ _ _ _).mono ?_); rintro e w2 ⟨rfl, rfl⟩; rw [HBB.out])
            go_roundg (gk - 1)
            case measure => have := HJ.out; omega
            case rel => exact ⟨j + 1, by have := HJ.out; omega, by go_num, ⟨idxFrom_succ HI.out HR.out (by rw [HV.out, HM.out, HBB.out]; rfl)⟩, HB1.out, HK1⟩
    · obtain rfl : j = rs.length := by omega
      go_wp2
      go_end0
      exact ⟨.inl ⟨by simp only [agreeB]; rw [any_of_all HI.out]; rfl, rfl⟩, hBr⟩
end
end Go.Proofs.YtaojkmalpihmbaaGreatDoor.M

