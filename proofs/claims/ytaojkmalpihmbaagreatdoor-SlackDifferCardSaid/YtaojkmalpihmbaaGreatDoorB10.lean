import Derived.Test.YtaojkmalpihmbaaGreatDoorB09
namespace Go.Proofs.YtaojkmalpihmbaaGreatDoor.M
open Go.RowKit Go.Proofs.YtaojkmalpihmbaaGreatDoorW.PrintWords Go.Proofs.YtaojkmalpihmbaaGreatDoorW.PrintLast Go.Proofs.YtaojkmalpihmbaaGreatDoorW.PrintMore Go.Proofs.YtaojkmalpihmbaaGreatDoor.Q
set_option linter.unusedVariables false
set_option linter.unusedSimpArgs false

/-! Plain: what the moves come to, without wraps. -/
theorem wr_in {n : Int} (h1 : -9000000000000000000 ≤ n) (h2 : n ≤ 9000000000000000000) : wrap64 n = n := by
  unfold wrap64
  omega
def movedGo : Int → List Int → List Int → List Int
  | p, n :: pl, q :: r => min p (max (p - n) q) :: movedGo (min p (max (p - n) q)) pl r
  | _, _, _ => []
def movedC (m : Int) (pl : List Int) : List Int → List Int
  | [] => []
  | x :: r => (x + m) :: movedGo (x + m) pl r
def chainB : Int → List Int → List Int → Prop
  | _, [], [] => True
  | p, n :: pl, q :: r => p - n ≤ q ∧ q ≤ p ∧ chainB q pl r
  | _, _, _ => False
theorem chainB_length : ∀ (p : Int) (pl r : List Int), chainB p pl r → r.length = pl.length
  | _, [], [], _ => rfl
  | _, [], _ :: _, h => h.elim
  | _, _ :: _, [], h => h.elim
  | _, n :: pl, q :: r, h => by simp [chainB_length q pl r h.2.2]
/-- All plays are from 0 to 100. -/
def okPl (pl : List Int) : Prop := ∀ n ∈ pl, 0 ≤ n ∧ n ≤ 100
theorem okPl.tail {n : Int} {pl : List Int} (h : okPl (n :: pl)) : okPl pl := fun x hx => h x (List.mem_cons_of_mem _ hx)
theorem okPl.head {n : Int} {pl : List Int} (h : okPl (n :: pl)) : 0 ≤ n ∧ n ≤ 100 := h n (List.mem_cons_self ..)
theorem moved_chain : ∀ (pl r : List Int) (p : Int), okPl pl → r.length = pl.length → chainB p pl (movedGo p pl r)
  | [], [], _, _, _ => trivial
  | [], _ :: _, _, _, h => by simp at h
  | _ :: _, [], _, _, h => by simp at h
  | n :: pl, q :: r, p, ho, h => by
    have h1 := ho.head
    exact ⟨by omega, by omega, moved_chain pl r _ ho.tail (by simpa using h)⟩
theorem afterGo_eq (fwd : Bool) : ∀ (pl r : List Int) (p p' : Int), okPl pl → chainB p pl r → (fwd = true → p ≤ p') → (fwd = false → p' ≤ p) → 100 * (pl.length : Int) - 1000000 ≤ p' → p' ≤ 1000000 →
    afterGo fwd p' pl r = movedGo p' pl r
  | [], [], _, _, _, _, _, _, _, _ => by simp [afterGo, movedGo]
  | [], _ :: _, _, _, _, h, _, _, _, _ => h.elim
  | _ :: _, [], _, _, _, h, _, _, _, _ => h.elim
  | n :: pl, q :: r, p, p', ho, h, hf, hb, hl, hu => by
    have h1 := ho.head
    have h2 := h.1
    have h3 := h.2.1
    simp only [List.length_cons, Int.natCast_add, Int.natCast_one] at hl
    have hz : nextP fwd p' n q = min p' (max (p' - n) q) := by
      rcases fwd with _ | _
      · have := hb rfl
        simp only [nextP, mn, Bool.false_eq_true, if_false]
        split <;> omega
      · have := hf rfl
        rw [nextP, if_pos rfl, wr_in (by omega) (by omega)]
        unfold mx
        split <;> omega
    simp only [afterGo, movedGo, hz]
    rw [afterGo_eq fwd pl r q _ ho.tail h.2.2 (fun e => by have := hf e; omega) (fun e => by have := hb e; omega) (by omega) (by omega)]
/-- Where the arbors can be: a chain behind x, which is at most K from 0. -/
def Inv (pl : List Int) (K : Int) (pc : List Int) : Prop := ∃ x r, pc = x :: r ∧ chainB x pl r ∧ -K ≤ x ∧ x ≤ K
theorem Inv.length {pl pc : List Int} {K : Int} (h : Inv pl K pc) : pc.length = pl.length + 1 := by
  obtain ⟨x, r, rfl, hc, _⟩ := h
  simp [chainB_length _ _ _ hc]
theorem Inv.mono {pl pc : List Int} {K L : Int} (h : Inv pl K pc) (hk : K ≤ L) : Inv pl L pc := by
  obtain ⟨x, r, rfl, hc, h1, h2⟩ := h
  exact ⟨x, r, rfl, hc, by omega, by omega⟩
theorem moved_inv {pl pc : List Int} {K m : Int} (ho : okPl pl) (h : Inv pl K pc) (h1 : -300 ≤ m) (h2 : m ≤ 300) : Inv pl (K + 300) (movedC m pl pc) := by
  obtain ⟨x, r, rfl, hc, h3, h4⟩ := h
  exact ⟨x + m, _, rfl, moved_chain _ _ _ ho (chainB_length _ _ _ hc), by omega, by omega⟩
theorem afterM_eq {pl pc : List Int} {K m : Int} (ho : okPl pl) (hl : pl.length ≤ 100) (h : Inv pl K pc) (hK : K ≤ 100000) (h1 : -300 ≤ m) (h2 : m ≤ 300) : afterM m pl pc = movedC m pl pc := by
  obtain ⟨x, r, rfl, hc, h3, h4⟩ := h
  unfold afterM
  split
  · have e1 : wrap64 (-m) = -m := wr_in (by omega) (by omega)
    have e2 : wrap64 (x + wrap64 (- -m)) = x + m := by rw [wr_in (n := - -m) (by omega) (by omega), wr_in (by omega) (by omega)]; omega
    simp only [afterL, Bool.false_eq_true, if_false, e1, movedC]
    rw [e2, afterGo_eq false pl r x _ ho hc (fun e => by cases e) (fun _ => by omega) (by omega) (by omega)]
  · have e2 : wrap64 (x + m) = x + m := wr_in (by omega) (by omega)
    simp only [afterL, if_true, movedC, e2]
    rw [afterGo_eq true pl r x _ ho hc (fun _ => by omega) (fun e => by cases e) (by omega) (by omega)]
def begC : Int → List Int → List Int
  | p, [] => [p]
  | p, n :: l => p :: begC (p - n) l
theorem begC_chain : ∀ (l : List Int) (p : Int), okPl l → ∃ r, begC p l = p :: r ∧ chainB p l r
  | [], p, _ => ⟨[], rfl, trivial⟩
  | n :: l, p, ho => by
    obtain ⟨r, e, h⟩ := begC_chain l (p - n) ho.tail
    have := ho.head
    exact ⟨(p - n) :: r, by simp [begC, e], by omega, by omega, h⟩
theorem begun_eq : ∀ (l : List Int) (p : Int), okPl l → 100 * (l.length : Int) - 1000000 ≤ p → p ≤ 1000000 → begunGo p l = begC p l
  | [], _, _, _, _ => rfl
  | n :: l, p, ho, h1, h2 => by
    have h := ho.head
    simp only [List.length_cons, Int.natCast_add, Int.natCast_one] at h1
    simp only [begunGo, begC]
    rw [wr_in (by omega) (by omega), begun_eq l (p - n) ho.tail (by omega) (by omega)]
def okMv (mv : List Int) : Prop := ∀ m ∈ mv, -300 ≤ m ∧ m ≤ 300
theorem okMv.tail {n : Int} {l : List Int} (h : okMv (n :: l)) : okMv l := fun x hx => h x (List.mem_cons_of_mem _ hx)
theorem okMv.head {n : Int} {l : List Int} (h : okMv (n :: l)) : -300 ≤ n ∧ n ≤ 300 := h n (List.mem_cons_self ..)
def runCGo (pl : List Int) : List Int → List Int → List (List Int)
  | pc, [] => [pc]
  | pc, m :: mv => pc :: runCGo pl (movedC m pl pc) mv
def runC (pl mv : List Int) : List (List Int) := runCGo pl (begC 0 pl) mv
def lastC (pl mv : List Int) : List Int := mv.foldl (fun pc m => movedC m pl pc) (begC 0 pl)
theorem runGo_eq {pl : List Int} (ho : okPl pl) (hl : pl.length ≤ 100) : ∀ (mv pc : List Int) (K : Int), okMv mv → Inv pl K pc → K + 300 * (mv.length : Int) ≤ 100000 → runGo pl pc mv = runCGo pl pc mv
  | [], _, _, _, _, _ => rfl
  | m :: mv, pc, K, hm, h, hK => by
    have h1 := hm.head
    simp only [List.length_cons, Int.natCast_add, Int.natCast_one] at hK
    have hK' : K ≤ 100000 := by omega
    simp only [runGo, runCGo]
    rw [afterM_eq ho hl h hK' h1.1 h1.2, runGo_eq ho hl mv _ (K + 300) hm.tail (moved_inv ho h h1.1 h1.2) (by omega)]
theorem beg_inv {pl : List Int} (ho : okPl pl) : Inv pl 0 (begC 0 pl) := by
  obtain ⟨r, e, h⟩ := begC_chain pl 0 ho
  exact ⟨0, r, e, h, by omega, by omega⟩
theorem runL_eq {pl mv : List Int} (ho : okPl pl) (hl : pl.length ≤ 100) (hm : okMv mv) (hv : mv.length ≤ 100) : runL pl mv = runC pl mv := by
  unfold runL runC begunL
  rw [begun_eq pl 0 ho (by omega) (by omega)]
  exact runGo_eq ho hl mv _ 0 hm (beg_inv ho) (by omega)
theorem runCGo_inv {pl : List Int} (ho : okPl pl) : ∀ (mv pc : List Int) (K : Int), okMv mv → Inv pl K pc → ∀ l ∈ runCGo pl pc mv, Inv pl (K + 300 * (mv.length : Int)) l
  | [], pc, K, _, h, l, hl => by
    simp [runCGo] at hl
    subst hl
    simpa using h
  | m :: mv, pc, K, hm, h, l, hl => by
    have h1 := hm.head
    simp only [runCGo, List.mem_cons] at hl
    rcases hl with rfl | hl
    · exact h.mono (by omega)
    · exact (runCGo_inv ho mv _ (K + 300) hm.tail (moved_inv ho h h1.1 h1.2) l hl).mono (by simp; omega)
theorem runC_inv {pl mv : List Int} (ho : okPl pl) (hm : okMv mv) : ∀ l ∈ runC pl mv, Inv pl (300 * (mv.length : Int)) l := by
  intro l hl
  have := runCGo_inv ho mv _ 0 hm (beg_inv ho) l hl
  simpa using this
theorem runCGo_last (pl : List Int) : ∀ (mv pc : List Int), (runCGo pl pc mv).getLastD [] = mv.foldl (fun pc m => movedC m pl pc) pc
  | [], _ => rfl
  | m :: mv, pc => by
    have h := runCGo_last pl mv (movedC m pl pc)
    have hne : runCGo pl (movedC m pl pc) mv ≠ [] := by cases mv <;> simp [runCGo]
    simp only [runCGo, List.foldl_cons, List.getLastD_cons]
    rw [← h]
    cases hr : runCGo pl (movedC m pl pc) mv with
    | nil => exact absurd hr hne
    | cons a l => simp [List.getLastD_eq_getLast?, List.getLast?_cons]
theorem runCGo_length (pl : List Int) : ∀ (mv pc : List Int), (runCGo pl pc mv).length = mv.length + 1
  | [], _ => rfl
  | m :: mv, pc => by simp [runCGo, runCGo_length pl mv]
theorem runC_length (pl mv : List Int) : (runC pl mv).length = mv.length + 1 := runCGo_length pl mv _
theorem lastL_eq {pl mv : List Int} (ho : okPl pl) (hl : pl.length ≤ 100) (hm : okMv mv) (hv : mv.length ≤ 100) : lastL pl mv = lastC pl mv := by
  unfold lastL
  rw [runL_eq ho hl hm hv]
  exact runCGo_last pl mv _
theorem last_inv {pl : List Int} (ho : okPl pl) : ∀ (mv pc : List Int) (K : Int), okMv mv → Inv pl K pc → Inv pl (K + 300 * (mv.length : Int)) (mv.foldl (fun pc m => movedC m pl pc) pc)
  | [], pc, K, _, h => by simpa using h
  | m :: mv, pc, K, hm, h => by
    have h1 := hm.head
    exact (last_inv ho mv _ (K + 300) hm.tail (moved_inv ho h h1.1 h1.2)).mono (by simp; omega)
theorem lastC_inv {pl mv : List Int} (ho : okPl pl) (hm : okMv mv) : Inv pl (300 * (mv.length : Int)) (lastC pl mv) := by
  have := last_inv ho mv _ 0 hm (beg_inv ho)
  simpa [lastC] using this
theorem chain_bound : ∀ (pl r : List Int) (p : Int), okPl pl → chainB p pl r → ∀ v ∈ r, p - 100 * (pl.length : Int) ≤ v ∧ v ≤ p
  | [], [], _, _, _, v, hv => by simp at hv
  | [], _ :: _, _, _, h, _, _ => h.elim
  | _ :: _, [], _, _, h, _, _ => h.elim
  | n :: pl, q :: r, p, ho, h, v, hv => by
    have h1 := ho.head
    have h2 := h.1
    have h3 := h.2.1
    simp only [List.length_cons, Int.natCast_add, Int.natCast_one]
    rcases List.mem_cons.1 hv with rfl | hv
    · omega
    · have := chain_bound pl r q ho.tail h.2.2 v hv
      omega
theorem Inv.bound {pl pc : List Int} {K : Int} (ho : okPl pl) (h : Inv pl K pc) : ∀ v ∈ pc, -K - 100 * (pl.length : Int) ≤ v ∧ v ≤ K := by
  obtain ⟨x, r, rfl, hc, h1, h2⟩ := h
  intro v hv
  rcases List.mem_cons.1 hv with rfl | hv
  · omega
  · have := chain_bound pl r x ho hc v hv
    omega
end Go.Proofs.YtaojkmalpihmbaaGreatDoor.M

namespace Go.Proofs.YtaojkmalpihmbaaGreatDoor.M
open Go.RowKit Go.Proofs.YtaojkmalpihmbaaGreatDoorW.PrintWords Go.Proofs.YtaojkmalpihmbaaGreatDoorW.PrintLast Go.Proofs.YtaojkmalpihmbaaGreatDoorW.PrintMore Go.Proofs.YtaojkmalpihmbaaGreatDoor.Q
set_option linter.unusedVariables false
set_option linter.unusedSimpArgs false

/-! Run -/
def kLists : Kd (List Int) := Kd.slice 3 (Kd.int .i64)
theorem kLists_mk {w : World} {base : Nat} {ok : Nat → Prop} {l : List Int} {v : Value} (h : (Kd.int .i64).R 3 w base ok v l) : kLists.M w base ok l [v] := ⟨v, rfl, h⟩
def ranB (ms : List S64) (mv : List Int) (rs : List S66) (pl : List Int) : Bool := pieceB ms mv rs && (playsB ms pl && okB pl ms)
def ranL (ms : List S64) (mv : List Int) (rs : List S66) (pl : List Int) : List (List Int) := if ranB ms mv rs pl then runL pl mv else []
def ranE (ms : List S64) (mv : List Int) (rs : List S66) (pl : List Int) : Int := if ranB ms mv rs pl then 0 else 2
theorem piece_len {ms : List S64} {mv : List Int} {rs : List S66} (h : pieceB ms mv rs = true) : 1 ≤ ms.length ∧ ms.length ≤ 4 ∧ mv.length ≤ 8 ∧ rs.length ≤ 6 := by
  simp [pieceB, inB] at h
  omega
theorem plays_len {ms : List S64} {pl : List Int} (h : playsB ms pl = true) : pl.length = ms.length := by
  simp [playsB] at h
  exact h.1
theorem none_row {α : Type} (d : Kd α) (e : TypeId) (w : World) (base : Nat) (ok : Nat → Prop) : d.R e w base ok (.slice none 0 0) [] := by
  refine ⟨fun _ h => by simp [Value.ownBlock] at h, [], ⟨by simp, .inl ⟨rfl, rfl⟩⟩, by simp, fun j p hj => by simp at hj⟩
/-- The row's own block, if it has one, was made from some block on. -/
def Above (n : Nat) (v : Value) : Prop := ∀ k, v.ownBlock = some k → n ≤ k
theorem above_none (n : Nat) : Above n (.slice none 0 0) := fun k h => by simp [Value.ownBlock] at h
theorem Above.below {n : Nat} {w0 W w1 : World} {v : Value} (hv : Above n v) (hB : Below n w0 W) (hn : n ≤ W.heap.size) (h : W.grownBy w1 v.ownBlock) : Below n w0 w1 :=
  hB.trans ⟨h.os, h.tape, h.output, h.size, fun k hk => h.block k (by omega) (fun e => by have := hv k e.symm; omega)⟩
theorem Above.next {n : Nat} {W : World} {v v1 : Value} (hv : Above n v) (hn : n ≤ W.heap.size) (h : v1.ownBlock = v.ownBlock ∨ ∃ b, v1.ownBlock = some b ∧ W.heap.size ≤ b) : Above n v1 := by
  intro k hk
  rcases h with h | ⟨b, h, hb⟩
  · exact hv k (by rw [← h]; exact hk)
  · rw [h] at hk
    cases hk
    omega
theorem Above.ne {n k : Nat} {v : Value} (hv : Above n v) (hk : k < n) : some k ≠ v.ownBlock := fun e => by have := hv k e.symm; omega
section
variable {A0 A1 A2 : Option Addr} {c0 c1 c2 : Nat} {ms : List S64} {mv : List Int} {rs : List S66}
def RanV (w : World) (ms : List S64) (mv : List Int) (rs : List S66) (pl : List Int) (e : Ending) (w' : World) : Prop :=
  ∃ v, e = .returned (.tuple #[v, .int .i64 (ranE ms mv rs pl)]) ∧ Kd.R kLists 23 w' w.heap.size (fun _ => True) v (ranL ms mv rs pl)
set_option maxHeartbeats 4000000 in
set_option maxRecDepth 100000 in
theorem Run_calls {w : World} (h : PR w A0 c0 ms A1 c1 mv A2 c2 rs) {A : Option Addr} {c : Nat} {pl : List Int} (hp : IR w A c pl) :
    Calls Tryz.prog 35 #[.agg #[.slice A0 ms.length c0, .slice A1 mv.length c1, .slice A2 rs.length c2], .slice A pl.length c] w fun e w' =>
      RanV w ms mv rs pl e w' ∧ Below w.heap.size w w' := by
  have H := Aside0.mk h
  have HP := Aside0.mk hp
  have HB0 := Aside0.mk (below_alloc (Below.refl w.heap.size w) (.cells #[.slice A0 ms.length c0, .slice A1 mv.length c1, .slice A2 rs.length c2] 26))
  have HK0 := Aside0.mk (Blk.new w #[.slice A0 ms.length c0, .slice A1 mv.length c1, .slice A2 rs.length c2] 26)
  clear h hp
  have fin : ∀ {w1 : World}, Below w.heap.size w w1 → ranB ms mv rs pl = false → RanV w ms mv rs pl (.returned (.tuple #[.slice none 0 0, .int .i64 2])) w1 ∧ Below w.heap.size w w1 := by
    intro w1 hb hr
    refine ⟨⟨.slice none 0 0, by simp [ranE, hr], ?_⟩, hb⟩
    rw [show ranL ms mv rs pl = [] by simp [ranL, hr]]
    exact none_row _ _ _ _ _
  have FIN := Aside0.mk @fin
  clear fin
  go_enter Tryz.func35, Tryz.ntmps35
  rcases hb1 : pieceB ms mv rs with _ | _
  · have HB := Aside0.mk hb1
    clear hb1
    go_wp2_with (go_at_call 66; (with_reducible refine (piece_calls (H.out.below HB0.out)).mono ?_); rintro e w1 ⟨rfl, hb1⟩; have HBB1 := Aside0.mk (bthen HB0.out hb1); rw [HB.out]; clear hb1)
    all_goals go_ret2
    all_goals exact FIN.out HBB1.out (by simp [ranB, HB.out])
  · have HB := Aside0.mk hb1
    have hlen := piece_len hb1
    clear hb1
    rcases hb2 : playsB ms pl with _ | _
    · have HBp := Aside0.mk hb2
      clear hb2
      go_wp2_with (first | (go_at_call 66; (with_reducible refine (piece_calls (H.out.below HB0.out)).mono ?_); rintro e w1 ⟨rfl, hb1⟩; have HBB1 := Aside0.mk (bthen HB0.out hb1); have hc1 := (HK0.out.below hb1); have hk10 := hc1.cell 0 rfl; have hk11 := hc1.cell 1 rfl; have hk12 := hc1.cell 2 rfl; rw [HB.out]; clear hb1 hc1) | (go_at_call 67; (with_reducible refine (arePlays_calls (H.out.below HBB1.out) (HP.out.below HBB1.out)).mono ?_); rintro e w2 ⟨rfl, hb1⟩; have HBB2 := Aside0.mk (bthen HBB1.out hb1); rw [HBp.out]; clear hb1))
      all_goals go_ret2
      all_goals exact FIN.out HBB2.out (by simp [ranB, HBp.out])
    · have HBp := Aside0.mk hb2
      have hpl : pl.length ≤ 100 := by have := plays_len hb2; omega
      have hmv : mv.length ≤ 8 := hlen.2.2.1
      clear hlen
      clear hb2
      rcases hb3 : okB pl ms with _ | _
      · have HBo := Aside0.mk hb3
        clear hb3
        go_wp2_with (first | (go_at_call 66; (with_reducible refine (piece_calls (H.out.below HB0.out)).mono ?_); rintro e w1 ⟨rfl, hb1⟩; have HBB1 := Aside0.mk (bthen HB0.out hb1); have HK1 := Aside0.mk (HK0.out.below hb1); have hc1 := HK1.out; have hk10 := hc1.cell 0 rfl; have hk11 := hc1.cell 1 rfl; have hk12 := hc1.cell 2 rfl; rw [HB.out]; clear hb1 hc1) | (go_at_call 67; (with_reducible refine (arePlays_calls (H.out.below HBB1.out) (HP.out.below HBB1.out)).mono ?_); rintro e w2 ⟨rfl, hb1⟩; have HBB2 := Aside0.mk (bthen HBB1.out hb1); have hc1 := (HK1.out.below hb1); have hk20 := hc1.cell 0 rfl; have hk21 := hc1.cell 1 rfl; have hk22 := hc1.cell 2 rfl; rw [HBp.out]; clear hb1 hc1) | (go_at_call 68; (with_reducible refine (meshed_calls (H.out.below HBB2.out) (HP.out.below HBB2.out)).mono ?_); rintro e w3 ⟨rfl, hb1⟩; have HBB3 := Aside0.mk (bthen HBB2.out hb1); rw [HBo.out]; clear hb1))
        all_goals go_ret2
        all_goals exact FIN.out HBB3.out (by simp [ranB, HBo.out])
      · have HBo := Aside0.mk hb3
        clear hb3
        go_wp2_with (first | (go_at_call 66; (with_reducible refine (piece_calls (H.out.below HB0.out)).mono ?_); rintro e w1 ⟨rfl, hb1⟩; have HBB1 := Aside0.mk (bthen HB0.out hb1); have HK1 := Aside0.mk (HK0.out.below hb1); have hc1 := HK1.out; have hk10 := hc1.cell 0 rfl; have hk11 := hc1.cell 1 rfl; have hk12 := hc1.cell 2 rfl; rw [HB.out]; clear hb1 hc1) | (go_at_call 67; (with_reducible refine (arePlays_calls (H.out.below HBB1.out) (HP.out.below HBB1.out)).mono ?_); rintro e w2 ⟨rfl, hb1⟩; have HBB2 := Aside0.mk (bthen HBB1.out hb1); have HK2 := Aside0.mk (HK1.out.below hb1); have hc1 := HK2.out; have hk20 := hc1.cell 0 rfl; have hk21 := hc1.cell 1 rfl; have hk22 := hc1.cell 2 rfl; rw [HBp.out]; clear hb1 hc1) | (go_at_call 68; (with_reducible refine (meshed_calls (H.out.below HBB2.out) (HP.out.below HBB2.out)).mono ?_); rintro e w3 ⟨rfl, hb1⟩; have HBB3 := Aside0.mk (bthen HBB2.out hb1); have HK3 := Aside0.mk (HK2.out.below hb1); have hc1 := HK3.out; have hk30 := hc1.cell 0 rfl; have hk31 := hc1.cell 1 rfl; have hk32 := hc1.cell 2 rfl; rw [HBo.out]; clear hb1 hc1) | (go_at_call 69; (with_reducible refine (run_calls (H.out.below HBB3.out) (HP.out.below HBB3.out) (by omega)).mono ?_); rintro e w4 ⟨⟨v, rfl, hr1⟩, hb1⟩; obtain ⟨Ao, co, rfl⟩ := Kd.R_slice hr1; have HR4 := Aside0.mk (Kd.R_lower (base' := w.heap.size) hr1 HBB3.out.size); have HBB4 := Aside0.mk (bthen HBB3.out hb1); clear hr1 hb1))
        have HRL := Aside0.mk (runL_length pl mv)
        have hrl9 : (runL pl mv).length ≤ 9 := by rw [HRL.out]; omega
        go_loopg [6, 28] ((runL pl mv).length) (fun k v i wr => ∃ (j : Nat) (Os : List (List Int)), j + k = (runL pl mv).length ∧ i = .int .i64 j ∧ Os.length = j ∧ Aside0 (Os = (runL pl mv).take j) ∧ Aside0 (Kd.R kLists 23 wr w.heap.size (fun _ => True) v Os) ∧ Aside0 (Above w4.heap.size v) ∧ Aside0 (Below w4.heap.size w4 wr) ∧ Below w.heap.size w wr)
        case atStart => exact ⟨0, [], by omega, rfl, rfl, ⟨by simp⟩, ⟨none_row kLists _ _ _ _⟩, ⟨above_none _⟩, ⟨Below.refl _ _⟩, HBB4.out⟩
        case round =>
          obtain ⟨j, Os, hj, rfl, hos, HOs, HV, HAb, HB4, hBr⟩ := hrel
          have hj' : j ≤ (runL pl mv).length := by omega
          have HJ := Aside0.mk hj
          clear hj
          by_cases hlt : j < (runL pl mv).length
          · obtain ⟨l, hl⟩ : ∃ l, (runL pl mv)[j]? = some l := ⟨_, List.getElem?_eq_getElem hlt⟩
            obtain ⟨ad, c', A', cc', he, hca4, hcb4, hown⟩ := row_elem HR4.out hl
            have hca := pw_cell_below HB4.out hca4
            have hcb := pw_cell_below HB4.out hcb4
            clear hca4 hcb4
            injection he with he1 _ he3
            subst he1 he3
            obtain ⟨Av, cv, rfl⟩ := Kd.R_slice HV.out
            have HTK := Aside0.mk hos
            clear hos
            have hosl : Os.length ≤ 9 := by rw [HTK.out]; omega
            have HL := Aside0.mk hl
            have HO := Aside0.mk hown
            clear hl hown
            have HAl := Aside0.mk (below_alloc (Below.refl wr.heap.size wr) (.cells #[.slice A pl.length c, .slice A' l.length cc'] 89))
            have HBx := Aside0.mk (below_alloc hBr (.cells #[.slice A pl.length c, .slice A' l.length cc'] 89))
            have HV2 := Aside0.mk (Kd.R_below HV.out HAl.out)
            have HNE := HAb
            have HM2 := Aside0.mk (kLists_mk (Kd.R_below (Kd.R_below (Kd.R_bound HO.out) HB4.out) HAl.out))
            have HB4x := Aside0.mk (below_alloc HB4.out (.cells #[.slice A pl.length c, .slice A' l.length cc'] 89))
            have HSZ := Aside0.mk HB4.out.size
            go_wp2_with (at_builtin; go_must (refine Kd.R_append kLists (w0 := w) w.heap.size rfl (.tmp 32) (.tmp 35) 30 23 (.slice none 0 0) 24 rfl Tryz.underlying30 info23 rfl (show 0 < 1 by decide) (by decide) _ Os l _ (fun _ => True) _ rfl ?_ HM2.out ?_ (fun _ _ => trivial) HV2.out HBx.out ?_ ?_ ?_); go_must (show Value.slice (some ⟨wr.heap.size + 1, 0, none⟩) 1 1 = _; rw [World.size_alloc]); go_must ((intro k hk; exact ⟨trivial, HAb.out.ne hk.2.2.1⟩)); go_must (exact below_size HBx.out); go_must (omega); go_must (intro v1 w3 hr1 hb1 hg1 ha1; have HR5 := Aside0.mk hr1; have HG5 := Aside0.mk hg1; have HA5 := Aside0.mk ha1; clear hr1 hg1 ha1))
            go_roundg (gk - 1)
            case measure => have := HJ.out; omega
            case rel =>
              refine ⟨j + 1, Os ++ [l], by have := HJ.out; omega, by go_num, by rw [List.length_append, HTK.out]; rfl, ⟨?_⟩, HR5, ⟨HAb.out.next (Nat.le_trans HSZ.out HAl.out.size) HA5.out⟩, ⟨HAb.out.below HB4x.out (Nat.le_trans HSZ.out HAl.out.size) HG5.out⟩, hb1⟩
              rw [HOs.out, List.take_add_one, HL.out]
              rfl
          · obtain rfl : j = (runL pl mv).length := by omega
            have HV2 := HV.out
            rw [HOs.out, List.take_length] at HV2
            have HV3 := Aside0.mk HV2
            clear HV2
            go_wp2
            go_ret2
            have hq : ranB ms mv rs pl = true := by simp [ranB, HB.out, HBp.out, HBo.out]
            refine ⟨?_, hBr⟩
            unfold RanV
            rw [show ranE ms mv rs pl = 0 by simp [ranE, hq], show ranL ms mv rs pl = runL pl mv by simp [ranL, hq]]
            exact ⟨_, rfl, HV3.out⟩
end
end Go.Proofs.YtaojkmalpihmbaaGreatDoor.M

