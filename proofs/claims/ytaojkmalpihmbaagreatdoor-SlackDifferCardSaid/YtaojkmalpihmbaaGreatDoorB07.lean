import Derived.Test.YtaojkmalpihmbaaGreatDoorB06
import Derived.Deep.RegionWith
import Derived.StillTailTactics
import Derived.Deep.RegionLaw
import Derived.Deep.DeepCutAuto
import Derived.IntWalk
import Derived.Deep.LoopGhost
namespace Go.Proofs.YtaojkmalpihmbaaGreatDoor.M
open Go.RowKit Go.Proofs.YtaojkmalpihmbaaGreatDoorW.PrintWords Go.Proofs.YtaojkmalpihmbaaGreatDoorW.PrintLast Go.Proofs.YtaojkmalpihmbaaGreatDoorW.PrintMore Go.Proofs.YtaojkmalpihmbaaGreatDoor.Q
set_option linter.unusedVariables false
set_option linter.unusedSimpArgs false

/-! A move of the crank as a value: on or back. -/
def turnV (fwd : Bool) (n : Int) : Value := if fwd then .iface 159 (.int .i64 n) else .iface 160 (.int .i64 n)
theorem turned_neg (m : Int) (w : World) (h : m < 0) : Calls Tryz.prog 108 #[.int .i64 m] w fun e w' => e = .returned (.iface 160 (.int .i64 (wrap64 (-m)))) ∧ w = w' := by
  go_enter Tryz.func108, Tryz.ntmps108
  go_wp2
  go_ret
  exact ⟨rfl, rfl⟩
theorem turned_pos (m : Int) (w : World) (h : ¬ m < 0) : Calls Tryz.prog 108 #[.int .i64 m] w fun e w' => e = .returned (.iface 159 (.int .i64 m)) ∧ w = w' := by
  go_enter Tryz.func108, Tryz.ntmps108
  go_wp2
  go_ret
  exact ⟨rfl, rfl⟩
theorem on_calls (n : Int) (w : World) : Calls Tryz.prog 182 #[.int .i64 n] w fun e w' => e = .returned (.int .i64 n) ∧ w = w' := by
  go_enter Tryz.func182, Tryz.ntmps182
  go_wp2
  go_ret
  exact ⟨rfl, rfl⟩
theorem back_calls (n : Int) (w : World) : Calls Tryz.prog 183 #[.int .i64 n] w fun e w' => e = .returned (.int .i64 (wrap64 (-n))) ∧ w = w' := by
  go_enter Tryz.func183, Tryz.ntmps183
  go_wp2
  go_ret
  exact ⟨rfl, rfl⟩
/-! Where the arbors are after a move. -/
def nextP (fwd : Bool) (prev n q : Int) : Int := if fwd then mx q (wrap64 (prev - n)) else mn q prev
def afterGo (fwd : Bool) : Int → List Int → List Int → List Int
  | prev, n :: pl, q :: rest => nextP fwd prev n q :: afterGo fwd (nextP fwd prev n q) pl rest
  | _, _, rest => rest
def afterL (fwd : Bool) (n : Int) (pl : List Int) : List Int → List Int
  | [] => []
  | x :: rest => wrap64 (x + if fwd then n else wrap64 (-n)) :: afterGo fwd (wrap64 (x + if fwd then n else wrap64 (-n))) pl rest
theorem afterGo_length (fwd : Bool) : ∀ (prev : Int) (pl rest : List Int), (afterGo fwd prev pl rest).length = rest.length
  | _, [], _ => by simp [afterGo]
  | _, _ :: _, [] => by simp [afterGo]
  | prev, n :: pl, q :: rest => by simp [afterGo, afterGo_length fwd _ pl rest]
theorem afterL_length (fwd : Bool) (n : Int) (pl pc : List Int) : (afterL fwd n pl pc).length = pc.length := by cases pc <;> simp [afterL, afterGo_length]
/-- What is done when j arbors have been moved: L as it stands, with all the rest to come, is the whole. -/
def Done (fwd : Bool) (pl L F : List Int) (j : Nat) : Prop := ∃ p, L[j]? = some p ∧ L.take (j + 1) ++ afterGo fwd p (pl.drop j) (L.drop (j + 1)) = F
theorem Done.step {fwd : Bool} {pl L F : List Int} {j : Nat} {p n q : Int} (h : Done fwd pl L F j) (hp : L[j]? = some p) (hn : pl[j]? = some n) (hq : L[j + 1]? = some q) : Done fwd pl (L.set (j + 1) (nextP fwd p n q)) F (j + 1) := by
  obtain ⟨p', hp', he⟩ := h
  rw [hp] at hp'
  cases hp'
  obtain ⟨hnl, rfl⟩ := List.getElem?_eq_some_iff.1 hn
  obtain ⟨hql, rfl⟩ := List.getElem?_eq_some_iff.1 hq
  refine ⟨nextP fwd p pl[j] L[j + 1], by rw [List.getElem?_set_self hql], ?_⟩
  rw [← he, List.drop_eq_getElem_cons hnl, List.drop_eq_getElem_cons hql]
  simp only [afterGo]
  rw [List.take_succ_eq_append_getElem (by simpa using hql)]
  simp [List.take_set_of_le, List.drop_set_of_lt]
theorem Done.begun (fwd : Bool) (pl : List Int) (x : Int) (r : List Int) : Done fwd pl (x :: r) (x :: afterGo fwd x pl r) 0 := ⟨x, rfl, by simp⟩
theorem Done.all {fwd : Bool} {pl L F : List Int} (h : Done fwd pl L F pl.length) (hl : L.length = pl.length + 1) : L = F := by
  obtain ⟨p, hp, he⟩ := h
  rw [← he, List.drop_eq_nil_of_le (Nat.le_refl _), List.drop_eq_nil_of_le (by omega), List.take_of_length_le (by omega)]
  simp [afterGo]
theorem OwnR.own {w : World} {base : Nat} {l : List Int} {v : Value} (h : OwnR w base l v) : w.ownsRow base 3 1 v l.length (encs (Value.int .i64) l) := Kd.own_of_R h
theorem OwnR.store {w : World} {base g n cap : Nat} {l : List Int} (h : OwnR w base l (.slice (some ⟨g, 0, none⟩) n cap)) (hn : n = l.length) (j : Nat) (u : Int) :
    OwnR (w.setCell ⟨g, j, none⟩ (.int .i64 u)) base (l.set j u) (.slice (some ⟨g, 0, none⟩) n cap) := by
  subst hn
  have h1 := (h.own.stored j (.int .i64 u)).1
  refine Kd.R_of_own ?_ (fun _ _ => trivial)
  have he : encs (Value.int .i64) (l.set j u) = (encs (Value.int .i64) l).set j (.int .i64 u) := by simp [encs, List.map_set]
  rw [he, List.length_set]
  exact h1
theorem OwnR.drew {w : World} {base : Nat} {l : List Int} {v : Value} (h : OwnR w base l v) : OwnR w.drew base l v := Kd.R_of_own h.own.drew (fun _ _ => trivial)
theorem OwnR.below {w w1 : World} {base : Nat} {l : List Int} {v : Value} (h : OwnR w base l v) (hb : Below w.heap.size w w1) : OwnR w1 base l v := Kd.R_below h hb
theorem OwnR.far {w : World} {base g n cap : Nat} {l : List Int} (h : OwnR w base l (.slice (some ⟨g, 0, none⟩) n cap)) {p : Addr} (hp : p.block ≠ g) (u : Value) : OwnR (w.setCell p u) base l (.slice (some ⟨g, 0, none⟩) n cap) :=
  Kd.R_of_own (own_move h.own (fun k hk => Below.heap_setCell w p u k (by simp [Value.ownBlock] at hk; omega))) (fun _ _ => trivial)
theorem OwnR.cell {w : World} {base g n cap : Nat} {l : List Int} (h : OwnR w base l (.slice (some ⟨g, 0, none⟩) n cap)) (hn : n = l.length) {j : Nat} {x : Int} (hx : l[j]? = some x) : w.cell? ⟨g, j, none⟩ = some (.int .i64 x) := by
  subst hn
  rw [h.own.cellAt j (by have := (List.getElem?_eq_some_iff.1 hx).1; omega)]
  simp [encs, hx]
theorem OwnR.free {w : World} {base g n cap : Nat} {l : List Int} (h : OwnR w base l (.slice (some ⟨g, 0, none⟩) n cap)) (hn : n = l.length) (j : Nat) : w.frozen? ⟨g, j, none⟩ = false := by
  subst hn
  exact h.own.frozenAt j
theorem OwnR.form {w : World} {base : Nat} {l : List Int} {v : Value} (h : OwnR w base l v) (hl : 0 < l.length) : ∃ g cap, v = .slice (some ⟨g, 0, none⟩) l.length cap ∧ base ≤ g ∧ g < w.heap.size := h.own.form hl
theorem run_max (ats : Array TypeId) (ty : TypeId) (a b : Int) (W : World) : (Builtin.max_ ats ty #[.int .i64 a, .int .i64 b]).run Tryz.prog W = .ok (.int .i64 (mx a b)) W := by
  rw [max_two, max2_int]
  simp only [mx]
  rfl
theorem run_min (ats : Array TypeId) (ty : TypeId) (a b : Int) (W : World) : (Builtin.min_ ats ty #[.int .i64 a, .int .i64 b]).run Tryz.prog W = .ok (.int .i64 (mn a b)) W := by
  rw [min_two, min2_int]
  simp only [mn]
  rfl
theorem run_maxT (q p n : Int) {r : Int} (h : nextP true p n q = r) (W : World) : (Builtin.max_ #[3, 3] 3 #[.int .i64 q, .int .i64 (IntKind.i64.wrap (p - n))]).run Tryz.prog W = .ok (.int .i64 r) W := by
  rw [run_max, i64_w, ← h]; rfl
theorem run_maxW (q p n : Int) {r : Int} (h : nextP true p n q = r) (W : World) : (Builtin.max_ #[3, 3] 3 #[.int .i64 q, .int .i64 (wrap64 (p - n))]).run Tryz.prog W = .ok (.int .i64 r) W := by
  rw [run_max, ← h]; rfl
theorem run_minT (q p n : Int) {r : Int} (h : nextP false p n q = r) (W : World) : (Builtin.min_ #[3, 3] 3 #[.int .i64 q, .int .i64 p]).run Tryz.prog W = .ok (.int .i64 r) W := by
  rw [run_min, ← h]; rfl
set_option maxHeartbeats 4000000 in
set_option maxRecDepth 100000 in
theorem afterOn_calls {w : World} {Ap Aq : Option Addr} {cp cq : Nat} {pl pc : List Int} (hp : IR w Ap cp pl) (hq : IR w Aq cq pc) (hl : pc.length = pl.length + 1) (n : Int) :
    Calls Tryz.prog 107 #[.agg #[.slice Ap pl.length cp, .slice Aq pc.length cq], .iface 159 (.int .i64 n)] w fun e w' => (∃ v, e = .returned (.agg #[.slice Ap pl.length cp, v]) ∧ OwnR w' w.heap.size (afterL true n pl pc) v) ∧ Below w.heap.size w w' := by
  have HP := Aside0.mk hp
  have HQ := Aside0.mk hq
  have HL := Aside0.mk hl
  have hpl := hp.l
  clear hp hq hl
  have hnil : ∀ (W : World), (nilAhead 324 159 (.int .i64 n) "tellurion/slack.minutes").run Tryz.prog W = .ok (some false) W := fun W => by kernel_rfl
  have hmet : ∀ (W : World), (method 324 159 (.int .i64 n) "tellurion/slack.minutes").run Tryz.prog W = .ok (182, .int .i64 n) W := fun W => by kernel_rfl
  have hta : ∀ (v : Value) (W : World), (Instr.typeAssert (.iface 159 v) 141 159 true).run Tryz.prog W = .ok (.tuple #[v, .bool true]) W := fun v W => by rfl
  go_enter Tryz.func107, Tryz.ntmps107
  go_upto_region 2 with ((with_reducible refine (clone_calls (HQ.out.below (below_alloc (below_alloc (Below.refl _ _) _) _))).mono ?_); rintro e w1 ⟨⟨v, rfl, hr1⟩, hb1⟩; have HR1 := Aside0.mk hr1; clear hr1)
  have hB1 := bthen (below_alloc (below_alloc (Below.refl w.heap.size w) _) _) hb1
  have HB1 := Aside0.mk hB1
  obtain ⟨g, cap, rfl, hbg, hgl⟩ := OwnR.form HR1.out (by have := HL.out; omega)
  obtain ⟨x, pr, hpc⟩ : ∃ x pr, pc = x :: pr := by
    cases pc with
    | nil => have := HL.out; simp at this
    | cons x pr => exact ⟨x, pr, rfl⟩
  have hc0 : w1.cell? ⟨g, 0, none⟩ = some (.int .i64 x) := OwnR.cell HR1.out rfl (by rw [hpc]; rfl)
  have hf0 : w1.frozen? ⟨g, 0, none⟩ = false := OwnR.free HR1.out rfl 0
  have HPC := Aside0.mk hpc
  have hpos : 0 < pc.length := by have := HL.out; omega
  have hposI : (0 : Int) < (pc.length : Int) := by omega
  have hst : OwnR (w1.setCell ⟨g, 0, none⟩ (.int .i64 (wrap64 (x + n)))).drew w.heap.size (pc.set 0 (wrap64 (x + n))) (.slice (some ⟨g, 0, none⟩) pc.length cap) := (OwnR.store (Kd.R_lower HR1.out (by simp only [World.size_alloc]; omega)) rfl 0 _).drew
  have hsb : Below w.heap.size w (w1.setCell ⟨g, 0, none⟩ (.int .i64 (wrap64 (x + n)))).drew := below_drew1 (below_set hB1 (by simp at hbg; omega))
  have HST := Aside0.mk hst
  have HSB := Aside0.mk hsb
  have hz1 := hb1.size
  simp only [World.size_alloc] at hz1 hbg
  have hK0 : Blk w1 w.heap.size #[.slice Ap pl.length cp, .slice Aq pc.length cq] 89 := ((Blk.new w _ _).alloc _).below hb1
  have hK1 : Blk w1 (w.heap.size + 1) #[.slice none 0 0, .slice none 0 0] 89 := by have h := (Blk.new (w.alloc (.cells #[.slice Ap pl.length cp, .slice Aq pc.length cq] 89)) #[.slice none 0 0, .slice none 0 0] 89).below hb1; rw [World.size_alloc] at h; exact h
  have HK0 := Aside0.mk ((hK0.far (p := ⟨g, 0, none⟩) (by show w.heap.size ≠ g; omega) (.int .i64 (wrap64 (x + n)))).drew)
  have HK1 := Aside0.mk ((hK1.far (p := ⟨g, 0, none⟩) (by show w.heap.size + 1 ≠ g; omega) (.int .i64 (wrap64 (x + n)))).drew)
  clear hpc hst hsb hB1
  go_cut [5] (fun s wx => s = .slice (some ⟨g, 0, none⟩) pc.length cap ∧ Aside0 (OwnR wx w.heap.size (pc.set 0 (wrap64 (x + n))) (.slice (some ⟨g, 0, none⟩) pc.length cap)) ∧ Below w.heap.size w wx ∧ Blk wx w.heap.size #[.slice Ap pl.length cp, .slice Aq pc.length cq] 89 ∧ Blk wx (w.heap.size + 1) #[.slice none 0 0, .slice none 0 0] 89)
  case first =>
    go_region_with (go_at_call 182; (with_reducible refine (on_calls _ _).mono ?_); rintro e w2 ⟨rfl, rfl⟩)
    all_goals (go_wp2_with fail; go_meet)
    all_goals (rw [i64_w]; exact ⟨rfl, HST, HSB.out, HK0.out, HK1.out⟩)
  case rest =>
    obtain ⟨rfl, HO, hB, hC0, hC1⟩ := hcut
    have hca := hC0.cell 0 rfl
    have hcb := hC0.cell 1 rfl
    have HC0 := Aside0.mk hC0
    have HC1 := Aside0.mk hC1
    clear hC0 hC1 HST HSB HK0 HK1
    go_wp2
    go_loopg [21] (pl.length) (fun k i wr => ∃ (j : Nat) (L : List Int), j + k = pl.length ∧ i = .int .i64 j ∧ Aside0 (L.length = pc.length) ∧ Aside0 (OwnR wr w.heap.size L (.slice (some ⟨g, 0, none⟩) pc.length cap)) ∧ Aside0 (Done true pl L (afterL true n pl pc) j) ∧ Below w.heap.size w wr ∧ Aside0 (Blk wr w.heap.size #[.slice Ap pl.length cp, .slice Aq pc.length cq] 89) ∧ Aside0 (Blk wr (w.heap.size + 1) #[.slice none 0 0, .slice none 0 0] 89))
    case atStart => exact ⟨0, _, by omega, rfl, ⟨by simp⟩, HO, ⟨by have := HPC.out; subst this; exact Done.begun true pl _ pr⟩, hB, HC0, HC1⟩
    case round =>
      obtain ⟨j, L, hj, rfl, HLL, HOL, HD, hBr, HB0, HB1'⟩ := hrel
      have hj' : j ≤ pl.length := by omega
      have hf : gk = pl.length - j := by omega
      have HJ := Aside0.mk hj
      have HF := Aside0.mk hf
      clear hj hf
      by_cases hlt : j < pl.length
      · have hlc : j + 1 < pc.length := by have := HL.out; omega
        have hlL : j + 1 < L.length := by have := HLL.out; omega
        obtain ⟨nn, hnn⟩ : ∃ nn, pl[j]? = some nn := ⟨_, List.getElem?_eq_getElem hlt⟩
        obtain ⟨p, hp⟩ : ∃ p, L[j]? = some p := ⟨_, List.getElem?_eq_getElem (by omega)⟩
        obtain ⟨q, hq⟩ : ∃ q, L[j + 1]? = some q := ⟨_, List.getElem?_eq_getElem hlL⟩
        obtain ⟨ad, rfl, hcn⟩ := at_int (Kd.C_below HP.out.r hBr) hnn hlt
        have hcp := OwnR.cell HOL.out HLL.out.symm hp
        have hcq := OwnR.cell HOL.out HLL.out.symm hq
        have hfq := OwnR.free HOL.out HLL.out.symm (j + 1)
        have HNN := Aside0.mk hnn
        have HPP := Aside0.mk hp
        have HQQ := Aside0.mk hq
        have HLI := Aside0.mk hlL
        clear hnn hp hq hlL
        have hw1 : IntKind.i64.wrap ((j : Int) + 1) = (j : Int) + 1 := IntWalk.i64_in _ (by omega)
        have ht1 : ((j : Int) + 1).toNat = j + 1 := by omega
        have h01 : (0 : Int) ≤ (j : Int) + 1 := by omega
        have hlI : (j : Int) + 1 < (pc.length : Int) := by omega
        have hlI0 : (j : Int) < (pc.length : Int) := by omega
        obtain ⟨r, hr⟩ : ∃ r, nextP true p nn q = r := ⟨_, rfl⟩
        have hmx := run_maxT q p nn hr
        have hmx2 := run_maxW q p nn hr
        have HRR := Aside0.mk hr
        clear hr
        have HS1 := Aside0.mk (OwnR.store HOL.out HLL.out.symm (j + 1) r).drew
        have HS2 := Aside0.mk (below_drew1 (below_set (j := j + 1) (v := .int .i64 r) hBr (show w.heap.size ≤ g by omega)))
        have HS3 := Aside0.mk ((HB0.out.far (p := ⟨g, j + 1, none⟩) (by show w.heap.size ≠ g; omega) (.int .i64 r)).drew)
        have HS4 := Aside0.mk ((HB1'.out.far (p := ⟨g, j + 1, none⟩) (by show w.heap.size + 1 ≠ g; omega) (.int .i64 r)).drew)
        go_upto_region 8 with fail
        go_region
        all_goals go_wp2
        all_goals go_roundg (gk - 1)
        case measure => have := HJ.out; omega
        case rel => exact ⟨j + 1, _, by have := HJ.out; omega, by go_num, ⟨by simp [HLL.out]⟩, HS1, ⟨by rw [← HRR.out]; exact HD.out.step HPP.out HNN.out HQQ.out⟩, HS2.out, HS3, HS4⟩
      · obtain rfl : j = pl.length := by omega
        have hd0 := HB1'.out.cell 0 rfl
        have hd1 := HB1'.out.cell 1 rfl
        have hf0' := HB1'.out.free 0
        have hf1' := HB1'.out.free 1
        have he0 := HB0.out.cell 0 rfl
        have he1 := HB0.out.cell 1 rfl
        have hlt2 := HB1'.out.lt
        have HBf := Aside0.mk ((HB1'.out.put 0 (.slice Ap pl.length cp) rfl).put 1 (.slice (some ⟨g, 0, none⟩) pc.length cap) rfl)
        have HOf := Aside0.mk ((HOL.out.far (p := ⟨w.heap.size + 1, 0, none⟩) (by show w.heap.size + 1 ≠ g; omega) (.slice Ap pl.length cp)).far (p := ⟨w.heap.size + 1, 1, none⟩) (by show w.heap.size + 1 ≠ g; omega) (.slice (some ⟨g, 0, none⟩) pc.length cap))
        have HSf := Aside0.mk (below_set (j := 1) (v := .slice (some ⟨g, 0, none⟩) pc.length cap) (below_set (j := 0) (v := .slice Ap pl.length cp) hBr (show w.heap.size ≤ w.heap.size + 1 by omega)) (show w.heap.size ≤ w.heap.size + 1 by omega))
        go_wp2
        refine bodyPost_ret (results_cell_row rfl _ _ (w.heap.size + 1) 89 #[.slice Ap pl.length cp, .slice (some ⟨g, 0, none⟩) pc.length cap] (0, 0) _ (by rfl) HBf.out Tryz.underlying89 rfl (by kernel_rfl)) rfl ?_
        exact ⟨⟨_, rfl, by have := HD.out.all (by have := HLL.out; have := HL.out; omega); rw [← this]; exact HOf.out⟩, HSf.out⟩
set_option maxHeartbeats 4000000 in
set_option maxRecDepth 100000 in
theorem afterBack_calls {w : World} {Ap Aq : Option Addr} {cp cq : Nat} {pl pc : List Int} (hp : IR w Ap cp pl) (hq : IR w Aq cq pc) (hl : pc.length = pl.length + 1) (n : Int) :
    Calls Tryz.prog 107 #[.agg #[.slice Ap pl.length cp, .slice Aq pc.length cq], .iface 160 (.int .i64 n)] w fun e w' => (∃ v, e = .returned (.agg #[.slice Ap pl.length cp, v]) ∧ OwnR w' w.heap.size (afterL false n pl pc) v) ∧ Below w.heap.size w w' := by
  have HP := Aside0.mk hp
  have HQ := Aside0.mk hq
  have HL := Aside0.mk hl
  have hpl := hp.l
  clear hp hq hl
  have hnil : ∀ (W : World), (nilAhead 324 160 (.int .i64 n) "tellurion/slack.minutes").run Tryz.prog W = .ok (some false) W := fun W => by kernel_rfl
  have hmet : ∀ (W : World), (method 324 160 (.int .i64 n) "tellurion/slack.minutes").run Tryz.prog W = .ok (183, .int .i64 n) W := fun W => by kernel_rfl
  have hta : ∀ (v : Value) (W : World), (Instr.typeAssert (.iface 160 v) 141 159 true).run Tryz.prog W = .ok (.tuple #[.int .i64 0, .bool false]) W := fun v W => by rfl
  have htb : ∀ (v : Value) (W : World), (Instr.typeAssert (.iface 160 v) 141 160 true).run Tryz.prog W = .ok (.tuple #[v, .bool true]) W := fun v W => by rfl
  go_enter Tryz.func107, Tryz.ntmps107
  go_upto_region 2 with ((with_reducible refine (clone_calls (HQ.out.below (below_alloc (below_alloc (Below.refl _ _) _) _))).mono ?_); rintro e w1 ⟨⟨v, rfl, hr1⟩, hb1⟩; have HR1 := Aside0.mk hr1; clear hr1)
  have hB1 := bthen (below_alloc (below_alloc (Below.refl w.heap.size w) _) _) hb1
  have HB1 := Aside0.mk hB1
  obtain ⟨g, cap, rfl, hbg, hgl⟩ := OwnR.form HR1.out (by have := HL.out; omega)
  obtain ⟨x, pr, hpc⟩ : ∃ x pr, pc = x :: pr := by
    cases pc with
    | nil => have := HL.out; simp at this
    | cons x pr => exact ⟨x, pr, rfl⟩
  have hc0 : w1.cell? ⟨g, 0, none⟩ = some (.int .i64 x) := OwnR.cell HR1.out rfl (by rw [hpc]; rfl)
  have hf0 : w1.frozen? ⟨g, 0, none⟩ = false := OwnR.free HR1.out rfl 0
  have HPC := Aside0.mk hpc
  have hpos : 0 < pc.length := by have := HL.out; omega
  have hposI : (0 : Int) < (pc.length : Int) := by omega
  have hst : OwnR (w1.setCell ⟨g, 0, none⟩ (.int .i64 (wrap64 (x + wrap64 (-n))))).drew w.heap.size (pc.set 0 (wrap64 (x + wrap64 (-n)))) (.slice (some ⟨g, 0, none⟩) pc.length cap) := (OwnR.store (Kd.R_lower HR1.out (by simp only [World.size_alloc]; omega)) rfl 0 _).drew
  have hsb : Below w.heap.size w (w1.setCell ⟨g, 0, none⟩ (.int .i64 (wrap64 (x + wrap64 (-n))))).drew := below_drew1 (below_set hB1 (by simp at hbg; omega))
  have HST := Aside0.mk hst
  have HSB := Aside0.mk hsb
  have hz1 := hb1.size
  simp only [World.size_alloc] at hz1 hbg
  have hK0 : Blk w1 w.heap.size #[.slice Ap pl.length cp, .slice Aq pc.length cq] 89 := ((Blk.new w _ _).alloc _).below hb1
  have hK1 : Blk w1 (w.heap.size + 1) #[.slice none 0 0, .slice none 0 0] 89 := by have h := (Blk.new (w.alloc (.cells #[.slice Ap pl.length cp, .slice Aq pc.length cq] 89)) #[.slice none 0 0, .slice none 0 0] 89).below hb1; rw [World.size_alloc] at h; exact h
  have HK0 := Aside0.mk ((hK0.far (p := ⟨g, 0, none⟩) (by show w.heap.size ≠ g; omega) (.int .i64 (wrap64 (x + wrap64 (-n))))).drew)
  have HK1 := Aside0.mk ((hK1.far (p := ⟨g, 0, none⟩) (by show w.heap.size + 1 ≠ g; omega) (.int .i64 (wrap64 (x + wrap64 (-n))))).drew)
  clear hpc hst hsb hB1
  go_cut [5] (fun s wx => s = .slice (some ⟨g, 0, none⟩) pc.length cap ∧ Aside0 (OwnR wx w.heap.size (pc.set 0 (wrap64 (x + wrap64 (-n)))) (.slice (some ⟨g, 0, none⟩) pc.length cap)) ∧ Below w.heap.size w wx ∧ Blk wx w.heap.size #[.slice Ap pl.length cp, .slice Aq pc.length cq] 89 ∧ Blk wx (w.heap.size + 1) #[.slice none 0 0, .slice none 0 0] 89)
  case first =>
    go_region_with (go_at_call 183; (with_reducible refine (back_calls _ _).mono ?_); rintro e w2 ⟨rfl, rfl⟩)
    all_goals (go_wp2_with fail; go_meet)
    all_goals (rw [i64_w]; exact ⟨rfl, HST, HSB.out, HK0.out, HK1.out⟩)
  case rest =>
    obtain ⟨rfl, HO, hB, hC0, hC1⟩ := hcut
    have hca := hC0.cell 0 rfl
    have hcb := hC0.cell 1 rfl
    have HC0 := Aside0.mk hC0
    have HC1 := Aside0.mk hC1
    clear hC0 hC1 HST HSB HK0 HK1
    go_wp2
    go_loopg [21] (pl.length) (fun k i wr => ∃ (j : Nat) (L : List Int), j + k = pl.length ∧ i = .int .i64 j ∧ Aside0 (L.length = pc.length) ∧ Aside0 (OwnR wr w.heap.size L (.slice (some ⟨g, 0, none⟩) pc.length cap)) ∧ Aside0 (Done false pl L (afterL false n pl pc) j) ∧ Below w.heap.size w wr ∧ Aside0 (Blk wr w.heap.size #[.slice Ap pl.length cp, .slice Aq pc.length cq] 89) ∧ Aside0 (Blk wr (w.heap.size + 1) #[.slice none 0 0, .slice none 0 0] 89))
    case atStart => exact ⟨0, _, by omega, rfl, ⟨by simp⟩, HO, ⟨by have := HPC.out; subst this; exact Done.begun false pl _ pr⟩, hB, HC0, HC1⟩
    case round =>
      obtain ⟨j, L, hj, rfl, HLL, HOL, HD, hBr, HB0, HB1'⟩ := hrel
      have hj' : j ≤ pl.length := by omega
      have hf : gk = pl.length - j := by omega
      have HJ := Aside0.mk hj
      have HF := Aside0.mk hf
      clear hj hf
      by_cases hlt : j < pl.length
      · have hlc : j + 1 < pc.length := by have := HL.out; omega
        have hlL : j + 1 < L.length := by have := HLL.out; omega
        obtain ⟨nn, hnn⟩ : ∃ nn, pl[j]? = some nn := ⟨_, List.getElem?_eq_getElem hlt⟩
        obtain ⟨p, hp⟩ : ∃ p, L[j]? = some p := ⟨_, List.getElem?_eq_getElem (by omega)⟩
        obtain ⟨q, hq⟩ : ∃ q, L[j + 1]? = some q := ⟨_, List.getElem?_eq_getElem hlL⟩
        obtain ⟨ad, rfl, hcn⟩ := at_int (Kd.C_below HP.out.r hBr) hnn hlt
        have hcp := OwnR.cell HOL.out HLL.out.symm hp
        have hcq := OwnR.cell HOL.out HLL.out.symm hq
        have hfq := OwnR.free HOL.out HLL.out.symm (j + 1)
        have HNN := Aside0.mk hnn
        have HPP := Aside0.mk hp
        have HQQ := Aside0.mk hq
        have HLI := Aside0.mk hlL
        clear hnn hp hq hlL
        have hw1 : IntKind.i64.wrap ((j : Int) + 1) = (j : Int) + 1 := IntWalk.i64_in _ (by omega)
        have ht1 : ((j : Int) + 1).toNat = j + 1 := by omega
        have h01 : (0 : Int) ≤ (j : Int) + 1 := by omega
        have hlI : (j : Int) + 1 < (pc.length : Int) := by omega
        have hlI0 : (j : Int) < (pc.length : Int) := by omega
        obtain ⟨r, hr⟩ : ∃ r, nextP false p nn q = r := ⟨_, rfl⟩
        have hmx := run_minT q p nn hr
        have HRR := Aside0.mk hr
        clear hr
        have HS1 := Aside0.mk (OwnR.store HOL.out HLL.out.symm (j + 1) r).drew
        have HS2 := Aside0.mk (below_drew1 (below_set (j := j + 1) (v := .int .i64 r) hBr (show w.heap.size ≤ g by omega)))
        have HS3 := Aside0.mk ((HB0.out.far (p := ⟨g, j + 1, none⟩) (by show w.heap.size ≠ g; omega) (.int .i64 r)).drew)
        have HS4 := Aside0.mk ((HB1'.out.far (p := ⟨g, j + 1, none⟩) (by show w.heap.size + 1 ≠ g; omega) (.int .i64 r)).drew)
        go_upto_region 10 with fail
        go_region
        all_goals go_wp2
        all_goals go_roundg (gk - 1)
        case measure => have := HJ.out; omega
        case rel => exact ⟨j + 1, _, by have := HJ.out; omega, by go_num, ⟨by simp [HLL.out]⟩, HS1, ⟨by rw [← HRR.out]; exact HD.out.step HPP.out HNN.out HQQ.out⟩, HS2.out, HS3, HS4⟩
      · obtain rfl : j = pl.length := by omega
        have hd0 := HB1'.out.cell 0 rfl
        have hd1 := HB1'.out.cell 1 rfl
        have hf0' := HB1'.out.free 0
        have hf1' := HB1'.out.free 1
        have he0 := HB0.out.cell 0 rfl
        have he1 := HB0.out.cell 1 rfl
        have hlt2 := HB1'.out.lt
        have HBf := Aside0.mk ((HB1'.out.put 0 (.slice Ap pl.length cp) rfl).put 1 (.slice (some ⟨g, 0, none⟩) pc.length cap) rfl)
        have HOf := Aside0.mk ((HOL.out.far (p := ⟨w.heap.size + 1, 0, none⟩) (by show w.heap.size + 1 ≠ g; omega) (.slice Ap pl.length cp)).far (p := ⟨w.heap.size + 1, 1, none⟩) (by show w.heap.size + 1 ≠ g; omega) (.slice (some ⟨g, 0, none⟩) pc.length cap))
        have HSf := Aside0.mk (below_set (j := 1) (v := .slice (some ⟨g, 0, none⟩) pc.length cap) (below_set (j := 0) (v := .slice Ap pl.length cp) hBr (show w.heap.size ≤ w.heap.size + 1 by omega)) (show w.heap.size ≤ w.heap.size + 1 by omega))
        go_wp2
        refine bodyPost_ret (results_cell_row rfl _ _ (w.heap.size + 1) 89 #[.slice Ap pl.length cp, .slice (some ⟨g, 0, none⟩) pc.length cap] (0, 0) _ (by rfl) HBf.out Tryz.underlying89 rfl (by kernel_rfl)) rfl ?_
        exact ⟨⟨_, rfl, by have := HD.out.all (by have := HLL.out; have := HL.out; omega); rw [← this]; exact HOf.out⟩, HSf.out⟩
end Go.Proofs.YtaojkmalpihmbaaGreatDoor.M

