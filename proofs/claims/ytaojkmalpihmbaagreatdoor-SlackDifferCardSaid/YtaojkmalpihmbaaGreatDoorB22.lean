import Derived.Test.YtaojkmalpihmbaaGreatDoorB21
import Derived.Maps.OwnIn
namespace Go.Proofs.YtaojkmalpihmbaaGreatDoor.M
open Go.RowKit Go.Proofs.YtaojkmalpihmbaaGreatDoorW.PrintWords Go.Proofs.YtaojkmalpihmbaaGreatDoorW.PrintLast Go.Proofs.YtaojkmalpihmbaaGreatDoorW.PrintMore Go.Proofs.YtaojkmalpihmbaaGreatDoor.Q
set_option linter.unusedVariables false
set_option linter.unusedSimpArgs false

/-! asked. -/
/-- append(xs, p), in a round. -/
theorem R_appendIn {F : Fence} {nF : Nat} {P : Program} {ops : Array Oper} {rest : List Oper} {o : Oper} {a : Act} {Q : Exit → Act → World → Prop} {α : Type} (d : Kd α) {w0 W : World} (base : Nat) (hgd : o.guard = none) (s x : Operand) (t e : TypeId) (z : Value) (bytes : Nat)
    (ho : o.op = .call { callee := .builtin .append, args := #[s, x], argTypes := #[t, t] })
    (ht : P.underlying t = some (.slice e)) (hinfo : (P.info? e).map (fun i => (i.zero, i.size, i.bytes)) = some (some z, d.sz, bytes)) (hz : z.cells.size = d.sz) (hs0 : 0 < d.sz) (hb0 : 0 < bytes)
    (v : Value) (xs : List α) (p : α) (cs : List Value) (ok okp : Nat → Prop) (hs : a.eval s = v) (hx : a.eval x = .slice (some ⟨W.heap.size, 0, none⟩) 1 1) (hp : d.M W base okp p cs) (hokp : ∀ k, okp k → ok k ∧ some k ≠ v.ownBlock) (hfresh : ∀ k, W.heap.size ≤ k → ok k)
    (HO : d.R e W base ok v xs) (HB : Below base w0 W) (hbase : base ≤ W.heap.size) (hl : (xs.length + 1) * bytes ≤ 140737488355328)
    (h : ∀ v1 w1, d.R e w1 base ok v1 (xs ++ [p]) → Below base w0 w1 → W.grownBy w1 v.ownBlock → (v1.ownBlock = v.ownBlock ∨ ∃ b, v1.ownBlock = some b ∧ W.heap.size ≤ b) → wpListIn F nF P ops Q rest (a.put o.dst v1) w1) :
    wpListIn F nF P ops Q (o :: rest) a (W.alloc (.cells cs.toArray e)) := by
  obtain ⟨h0, inner, hown, hr⟩ := HO
  obtain ⟨i0, hi, hzz⟩ := Option.map_eq_some_iff.1 hinfo
  simp only [Prod.mk.injEq] at hzz
  obtain ⟨hz0, hz1, hz2⟩ := hzz
  have hys := d.K_len (d.K_of_M hp)
  have hlen : xs.length + 1 ≤ 140737488355328 := Nat.le_trans (Nat.le_mul_of_pos_right _ hb0) hl
  refine wpListIn_append_own_at _ hgd s x t ho base e i0 z d.sz bytes ht hi hz0 hz1 hz2 hz hs0 v xs.length inner hs (hown.alloc _) ⟨W.heap.size, 0, none⟩ 1 1 cs hx (by rw [hys]; simp)
    (by simpa using World.news_of_block (cs := cs.toArray) (t := e) (fr := (0, 0)) (heap_alloc_new W (.cells cs.toArray e))) (d.K_one (d.K_of_M hp)) (by simp only [maxLen]; omega) hl (by simp; omega) ?_
  intro v1 w1 hown1 hg _ hat
  have hg1 : W.grownBy w1 v.ownBlock := World.grownBy.trans (World.grownBy_alloc W _ _) hg
  have hat1 : v1.ownBlock = v.ownBlock ∨ ∃ b, v1.ownBlock = some b ∧ W.heap.size ≤ b := by
    rcases hat with hat | hat
    · exact .inl hat
    · exact .inr ⟨_, hat, by simp⟩
  exact h v1 w1 (Kd.R_appended h0 hr hp hokp hfresh hown1 hg1 hat1) ((HB.alloc hbase _).grown hg (by simp; omega) (own_base hown)) hg1 hat1

def askE (ms : List S64) (mv : List Int) (rs : List S66) (fine : Bool) : Int := if (pieceB ms mv rs && fine) then (if truthsL ms mv rs = [] then 7 else 0) else 2
/-- A row of truths: it is its own. -/
def AllR (w : World) (base : Nat) (v : Value) (l : List S89) : Prop := Kd.R k89 89 w base (fun _ => True) v l
theorem R_putObj {α : Type} {d : Kd α} {e base l : Nat} {W : World} {v : Value} {xs : List α} {o : Obj} (o' : Obj) (h : d.R e W base (fun _ => True) v xs) (hl : W.heap[l]? = some o) (hc : o.isCells = false) : d.R e (W.putObj l o') base (fun _ => True) v xs :=
  Kd.R_mono (Kd.R_move (Kd.R_bound h) (fun k hk => by
    obtain ⟨_, _, _, q, _, cells, hk'⟩ := hk
    exact World.putObj_heap_other (fun e => by subst e; rw [hk'] at hl; cases hl; cases hc))) (fun _ _ => trivial)
theorem R_under_set {α : Type} {d : Kd α} {e base : Nat} {W : World} {v : Value} {xs : List α} (h : d.R e W base (fun _ => True) v xs) {p : Addr} (hp : p.block < base) (u : Value) : d.R e (W.setCell p u) base (fun _ => True) v xs :=
  Kd.R_mono (Kd.R_move (Kd.R_bound h) (fun k hk => Below.heap_setCell W p u k (by have := hk.2.1; omega))) (fun _ _ => trivial)
theorem AllR.ne {w : World} {base k : Nat} {v : Value} {l : List S89} (h : AllR w base v l) {cells : Array Value} {q : Nat} {fr : Nat × Nat} (hk : w.heap[k]? = some (.cells cells q fr)) (hq : q ≠ 89) : some k ≠ v.ownBlock := by
  intro e
  obtain ⟨inner, ho⟩ := Kd.R_own h
  obtain ⟨cells', hc⟩ := own_typed ho k e.symm
  rw [hk] at hc
  cases hc
  exact hq rfl
theorem AllR.base_le {w : World} {base k : Nat} {v : Value} {l : List S89} (h : AllR w base v l) (hk : v.ownBlock = some k) : base ≤ k := by
  obtain ⟨inner, ho⟩ := Kd.R_own h
  exact own_base ho k hk
theorem AllR.cells {w : World} {base : Nat} {v : Value} {l : List S89} (h : AllR w base v l) : ∀ (j : Nat) (o : Obj), v.ownBlock = some j → w.heap[j]? = some o → o.isCells = true := by
  intro j o hj ho
  obtain ⟨inner, hown⟩ := Kd.R_own h
  obtain ⟨cells', hc⟩ := own_typed hown j hj
  rw [hc] at ho
  cases ho
  rfl
theorem Keep.grown {W w1 : World} {n0 b base : Nat} {v : Value} {l : List S89} (h : AllR W base v l) (hn : n0 ≤ base) (hs : base ≤ W.heap.size) (hg : W.grownBy w1 v.ownBlock) : Keep n0 b W w1 :=
  ⟨⟨hg.os, hg.tape, hg.output, hg.size, fun k hk => hg.block k (by omega) (fun e => by have := h.base_le e.symm; omega)⟩,
   fun k _ cs q fr hk hq => (hg.block k (Array.getElem?_eq_some_iff.1 hk).1 (h.ne hk hq)).trans hk⟩
/-- What a truth that is handed out looks like. -/
theorem TOwn.form {base : Nat} {x : TV} {W : World} (h : TOwn base x W) : ∃ A n c A' n' c', x.1 = .agg #[.slice A n c, .slice A' n' c'] ∧
    (k89).M W base (fun k => ∃ cells, W.heap[k]? = some (.cells cells 3 (0, 0))) x.2 [.slice A n c, .slice A' n' c'] := by
  obtain ⟨cs, hM, e⟩ := h
  obtain ⟨v0, v1, rfl, h0, h1⟩ := k89_openM hM
  obtain ⟨A, c, rfl⟩ := Kd.R_slice h0
  obtain ⟨A', c', rfl⟩ := Kd.R_slice h1
  have hb : ∀ {v : Value} {l : List Int}, (Kd.int .i64).R 3 W base (fun _ => True) v l → (Kd.int .i64).R 3 W base (fun k => ∃ cells, W.heap[k]? = some (.cells cells 3 (0, 0))) v l := by
    intro v l hr
    refine Kd.R_mono (Kd.R_bound hr) (fun k hk => ?_)
    obtain ⟨_, _, _, q, hq, cells, hc⟩ := hk
    have hq' : q = 3 := by simpa [Kd.E, Kd.int, Kd.scalar] using hq
    subst hq'
    exact ⟨cells, hc⟩
  exact ⟨A, _, c, A', _, c', e, k89_mkM _ _ _ _ (hb h0) (hb h1)⟩
section
variable {A0 A1 A2 : Option Addr} {c0 c1 c2 : Nat} {ms : List S64} {mv : List Int} {rs : List S66}
def AskV (w : World) (A0 : Option Addr) (c0 : Nat) (ms : List S64) (A1 : Option Addr) (c1 : Nat) (mv : List Int) (A2 : Option Addr) (c2 : Nat) (rs : List S66) (fine : Bool) (e : Ending) (w' : World) : Prop :=
  (askE ms mv rs fine = 0 ∧ ∃ A c, e = .returned (.tuple #[.agg #[.slice A0 ms.length c0, .slice A1 mv.length c1, .slice A2 rs.length c2, .slice A (truthsL ms mv rs).length c], .int .i64 0]) ∧ AllR w' w.heap.size (.slice A (truthsL ms mv rs).length c) (truthsL ms mv rs)) ∨
  (askE ms mv rs fine ≠ 0 ∧ e = .returned (.tuple #[.agg #[.slice none 0 0, .slice none 0 0, .slice none 0 0, .slice none 0 0], .int .i64 (askE ms mv rs fine)]))
set_option maxHeartbeats 4000000 in
set_option maxRecDepth 100000 in
theorem asked_refuse {w : World} (h : PR w A0 c0 ms A1 c1 mv A2 c2 rs) (fine : Bool) (hf : (pieceB ms mv rs && fine) = false) :
    Calls Tryz.prog 48 #[.agg #[.slice A0 ms.length c0, .slice A1 mv.length c1, .slice A2 rs.length c2], .bool fine] w fun e w' =>
      AskV w A0 c0 ms A1 c1 mv A2 c2 rs fine e w' ∧ Below w.heap.size w w' := by
  have H := Aside0.mk h
  have hask : askE ms mv rs fine = 2 := by simp [askE, hf]
  have HE := Aside0.mk hask
  have HB0 := Aside0.mk (below_alloc (below_alloc (Below.refl w.heap.size w) (.cells #[.slice A0 ms.length c0, .slice A1 mv.length c1, .slice A2 rs.length c2] 26)) (.cells #[.slice none 0 0, .slice none 0 0, .slice none 0 0, .slice none 0 0] 84))
  have hk0 := Blk.new (w.alloc (.cells #[.slice A0 ms.length c0, .slice A1 mv.length c1, .slice A2 rs.length c2] 26)) #[.slice none 0 0, .slice none 0 0, .slice none 0 0, .slice none 0 0] 84
  rw [World.size_alloc] at hk0
  have HK0 := Aside0.mk hk0
  clear h hask hk0
  rcases hb1 : pieceB ms mv rs with _ | _
  · have HB := Aside0.mk hb1
    clear hb1 hf
    go_enter Tryz.func48, Tryz.ntmps48
    go_wp2_with (go_at_call 66; (with_reducible refine (piece_calls (H.out.below HB0.out)).mono ?_); rintro e w1 ⟨rfl, hb1⟩; have HBB1 := Aside0.mk (bthen HB0.out hb1); have HK1 := Aside0.mk (HK0.out.below hb1); have hc0 := HK1.out.cell 0 rfl; have hc1 := HK1.out.cell 1 rfl; have hc2 := HK1.out.cell 2 rfl; have hc3 := HK1.out.cell 3 rfl; have hf0 := HK1.out.free 0; have hf1 := HK1.out.free 1; have hf2 := HK1.out.free 2; have hf3 := HK1.out.free 3; have hlt := HK1.out.lt; rw [HB.out]; clear hb1)
    refine bodyPost_ret (results_ct rfl _ _ (w.heap.size + 1) 84 #[.slice none 0 0, .slice none 0 0, .slice none 0 0, .slice none 0 0] (0, 0) _ rfl ((((HK1.out.put 0 _ rfl).put 1 _ rfl).put 2 _ rfl).put 3 _ rfl) Tryz.underlying84 rfl (by kernel_rfl)) rfl ?_
    exact ⟨.inr ⟨by rw [HE.out]; decide, by rw [HE.out]; rfl⟩, below_set (below_set (below_set (below_set HBB1.out (by omega)) (by omega)) (by omega)) (by omega)⟩
  · obtain rfl : fine = false := by simpa [hb1] using hf
    have HB := Aside0.mk hb1
    clear hb1 hf
    go_enter Tryz.func48, Tryz.ntmps48
    go_wp2_with (go_at_call 66; (with_reducible refine (piece_calls (H.out.below HB0.out)).mono ?_); rintro e w1 ⟨rfl, hb1⟩; have HBB1 := Aside0.mk (bthen HB0.out hb1); have HK1 := Aside0.mk (HK0.out.below hb1); have hc0 := HK1.out.cell 0 rfl; have hc1 := HK1.out.cell 1 rfl; have hc2 := HK1.out.cell 2 rfl; have hc3 := HK1.out.cell 3 rfl; have hf0 := HK1.out.free 0; have hf1 := HK1.out.free 1; have hf2 := HK1.out.free 2; have hf3 := HK1.out.free 3; have hlt := HK1.out.lt; rw [HB.out]; clear hb1)
    refine bodyPost_ret (results_ct rfl _ _ (w.heap.size + 1) 84 #[.slice none 0 0, .slice none 0 0, .slice none 0 0, .slice none 0 0] (0, 0) _ rfl ((((HK1.out.put 0 _ rfl).put 1 _ rfl).put 2 _ rfl).put 3 _ rfl) Tryz.underlying84 rfl (by kernel_rfl)) rfl ?_
    exact ⟨.inr ⟨by rw [HE.out]; decide, by rw [HE.out]; rfl⟩, below_set (below_set (below_set (below_set HBB1.out (by omega)) (by omega)) (by omega)) (by omega)⟩
set_option maxHeartbeats 4000000 in
set_option maxRecDepth 100000 in
attribute [local go_sem] Oper.semAt_some in
theorem asked_accept {w : World} (h : PR w A0 c0 ms A1 c1 mv A2 c2 rs) (hf : pieceB ms mv rs = true) :
    Calls Tryz.prog 48 #[.agg #[.slice A0 ms.length c0, .slice A1 mv.length c1, .slice A2 rs.length c2], .bool true] w fun e w' =>
      AskV w A0 c0 ms A1 c1 mv A2 c2 rs true e w' ∧ Below w.heap.size w w' := by
  have H := Aside0.mk h
  have HB := Aside0.mk hf
  have HB0 := Aside0.mk (below_alloc (below_alloc (Below.refl w.heap.size w) (.cells #[.slice A0 ms.length c0, .slice A1 mv.length c1, .slice A2 rs.length c2] 26)) (.cells #[.slice none 0 0, .slice none 0 0, .slice none 0 0, .slice none 0 0] 84))
  have hk0 := Blk.new (w.alloc (.cells #[.slice A0 ms.length c0, .slice A1 mv.length c1, .slice A2 rs.length c2] 26)) #[.slice none 0 0, .slice none 0 0, .slice none 0 0, .slice none 0 0] 84
  rw [World.size_alloc] at hk0
  have HK0 := Aside0.mk hk0
  have HP0 := Aside0.mk ((Blk.new w #[.slice A0 ms.length c0, .slice A1 mv.length c1, .slice A2 rs.length c2] 26).alloc (.cells #[.slice none 0 0, .slice none 0 0, .slice none 0 0, .slice none 0 0] 84))
  clear h hf hk0
  refine (callsIn_wide (n := 4)).1 ?_
  refine callsIn_of_wp_marks Tryz.func48 rfl trivial ?_ rfl
  simp only [Tryz.ntmps48, List.size_toArray, List.length_cons, List.length_nil, Nat.reduceAdd, Nat.reduceSub, Array.replicate_succ, Array.replicate_zero, List.push_toArray, List.append_toArray, List.nil_append, List.cons_append]
  gi_wp2_with (first
    | (refine ⟨trivial, ?_⟩; gi_at_call 66; refine (callsIn_wide.2 (piece_calls (H.out.below HB0.out))).mono ?_; rintro e w1 ⟨rfl, hb1⟩; have HBB1 := Aside0.mk (bthen HB0.out hb1); have hz1 := hb1.size; simp only [World.size_alloc] at hz1; have HK1 := Aside0.mk (HP0.out.below hb1); have HR1 := Aside0.mk (HK0.out.below hb1); have hk0 := HK1.out.cell 0 rfl; have hk1 := HK1.out.cell 1 rfl; have hk2 := HK1.out.cell 2 rfl; have hkl := HK1.out.lt; rw [HB.out]; clear hb1)
    | (refine ⟨trivial, ?_⟩; gi_at_call 70; refine (callsIn_wide.2 truths_calls).mono ?_; rintro e w2 ⟨rfl, rfl⟩))
  have hw1 := HBB1.out.size
  have HB3 := Aside0.mk (below_alloc (below_alloc HBB1.out (.cells #[.slice A0 ms.length c0, .slice A1 mv.length c1, .slice A2 rs.length c2, .slice none 0 0] 84)) (.cells #[.slice A0 ms.length c0, .slice A1 mv.length c1, .slice A2 rs.length c2] 26))
  have HKn := Aside0.mk ((Blk.new w1 #[.slice A0 ms.length c0, .slice A1 mv.length c1, .slice A2 rs.length c2, .slice none 0 0] 84).alloc (.cells #[.slice A0 ms.length c0, .slice A1 mv.length c1, .slice A2 rs.length c2] 26))
  have hkp := Blk.new (w1.alloc (.cells #[.slice A0 ms.length c0, .slice A1 mv.length c1, .slice A2 rs.length c2, .slice none 0 0] 84)) #[.slice A0 ms.length c0, .slice A1 mv.length c1, .slice A2 rs.length c2] 26
  rw [World.size_alloc] at hkp
  have HKp := Aside0.mk hkp
  have HKr := Aside0.mk ((HR1.out.alloc (.cells #[.slice A0 ms.length c0, .slice A1 mv.length c1, .slice A2 rs.length c2, .slice none 0 0] 84)).alloc (.cells #[.slice A0 ms.length c0, .slice A1 mv.length c1, .slice A2 rs.length c2] 26))
  have hl6 := truthsL_length HB.out
  clear hkp hk0 hk1 hk2 HR1 HK1
  obtain ⟨W0, hW0⟩ : ∃ W0, (w1.alloc (.cells #[.slice A0 ms.length c0, .slice A1 mv.length c1, .slice A2 rs.length c2, .slice none 0 0] 84)).alloc (.cells #[.slice A0 ms.length c0, .slice A1 mv.length c1, .slice A2 rs.length c2] 26) = W0 := ⟨_, rfl⟩
  have hsz : W0.heap.size = w1.heap.size + 1 + 1 := by rw [← hW0, World.size_alloc, World.size_alloc]
  rw [hW0] at HB3 HKn HKp HKr ⊢
  clear hW0
  refine wpIn_rangeFunc_T rfl (by omega) (gf := 109) (lb := #[.pointer (some ⟨w1.heap.size + 1, 0, none⟩)]) rfl trivial (enters_of Tryz.func109 (by kernel_rfl) rfl)
    (truths_seq (w0 := w) (b := w1.heap.size) (B0 := w1.heap.size + 1 + 1) (bp := w1.heap.size + 1) H.out HB.out HB3.out HKp.out (by omega) (by omega) (by omega))
    (fun h k => h.trans k) (fun W l o o' hl ho hc => Keep.putObj o' (by omega) ho hc) (Below.refl _ _) (fun _ => rfl)
    (fun x W l o o' ht hl hc => ht.putObj o' hl hc)
    (fun pre W => (Below w.heap.size w W ∧ Blk W (w.heap.size + 1) #[.slice none 0 0, .slice none 0 0, .slice none 0 0, .slice none 0 0] 84 ∧ W0.heap.size ≤ W.heap.size) ∧ ∃ A c, Blk W w1.heap.size #[.slice A0 ms.length c0, .slice A1 mv.length c1, .slice A2 rs.length c2, .slice A pre.length c] 84 ∧ AllR W (w1.heap.size + 1 + 1) (.slice A pre.length c) (pre.map (·.2)))
    (fun s A B hI hb => by
      obtain ⟨⟨h1, h2, h3⟩, A', c', h4, h5⟩ := hI
      exact ⟨⟨h1.trans (hb.mono h1.size), h2.below hb, Nat.le_trans h3 hb.size⟩, A', c', h4.below hb, Kd.R_below h5 hb⟩)
    (fun s W l o o' hI hl ho hc => by
      obtain ⟨⟨h1, h2, h3⟩, A', c', h4, h5⟩ := hI
      exact ⟨⟨below_putObj h1 o' (by omega), h2.putObj o' ho hc, by simpa using h3⟩, A', c', h4.putObj o' ho hc, R_putObj o' h5 ho hc⟩)
    ⟨⟨HB3.out, HKr.out, Nat.le_refl _⟩, none, 0, HKn.out, Kd.R_nil _ _ _ _ _⟩
    (fun x a' W => ∃ bx A n c A' n' c', W0.heap.size ≤ bx ∧ x.1 = .agg #[.slice A n c, .slice A' n' c'] ∧ Blk W bx #[.slice A n c, .slice A' n' c'] 89 ∧ a' = { tmps := #[.agg #[.slice A0 ms.length c0, .slice A1 mv.length c1, .slice A2 rs.length c2], .bool true, .pointer (some ⟨w.heap.size, 0, none⟩), undef, .pointer (some ⟨w.heap.size + 1, 0, none⟩), .int .i64 0, .pointer (some ⟨w1.heap.size, 0, none⟩), .pointer (some ⟨bx, 0, none⟩), .agg #[.slice A0 ms.length c0, .slice A1 mv.length c1, .slice A2 rs.length c2], .bool true, .bool false, .bool false, .bool true, .bool false, .bool false, undef, .agg #[.slice A0 ms.length c0, .slice A1 mv.length c1, .slice A2 rs.length c2], .agg #[.slice A0 ms.length c0, .slice A1 mv.length c1, .slice A2 rs.length c2, .slice none 0 0], .agg #[.slice A0 ms.length c0, .slice A1 mv.length c1, .slice A2 rs.length c2], .func (.func 109) #[] #[.pointer (some ⟨w1.heap.size + 1, 0, none⟩)], .agg #[.slice A n c, .slice A' n' c'], undef, undef, undef, undef, undef, undef, undef, undef, undef, undef, undef, undef], defers := [] })
    (fun x a' W l o o' h hl hc => by
      obtain ⟨bx, A, n, c, A', n', c', h0, h1, h2, h3⟩ := h
      exact ⟨bx, A, n, c, A', n', c', h0, h1, h2.putObj o' hl hc, h3⟩) ?assign ?body ?done
  case assign =>
    intro l pre x W K hi ht hK
    obtain ⟨A, n, c, A', n', c', hx, hM⟩ := ht.form
    rw [hx]
    have HI := Aside0.mk hi
    have HT := Aside0.mk ht
    have HX := Aside0.mk hx
    have HKK := Aside0.mk @hK
    clear hi ht hx hM hK
    gi_wp2
    obtain ⟨⟨h1, h2, h3⟩, Av, cv, h4, h5⟩ := HI.out
    have hb := below_alloc (Below.refl W.heap.size W) (.cells #[.slice A n c, .slice A' n' c'] 89)
    exact HKK.out _ _ (KeepsOthers.alloc _ _) (Keep.of_below h1.size hb) ⟨⟨h1.trans (hb.mono h1.size), h2.below hb, Nat.le_trans h3 hb.size⟩, Av, cv, h4.below hb, Kd.R_below h5 hb⟩ (HT.out.below hb) ⟨_, A, n, c, A', n', c', h3, HX.out, Blk.new _ _ _, rfl⟩
  case body =>
    rintro l pre x a' W ⟨⟨hB, hR, hS⟩, Av, cv, hk, hAll⟩ hlen ht ⟨bx, A, n, c, A', n', c', hbx, hx, hkx, rfl⟩
    obtain ⟨A9, n9, c9, A8, n8, c8, hx9, hM⟩ := ht.form
    rw [hx] at hx9
    cases hx9
    have hc0 := hk.cell 3 rfl
    have hf0 := hk.free 3
    have hkl := hk.lt
    have hd0 := hkx.cell 0 rfl
    have hd1 := hkx.cell 1 rfl
    have hpl : pre.length < 625 := by omega
    have HKK := Aside0.mk hk
    have HRR := Aside0.mk hR
    have HBB := Aside0.mk hB
    have HSS := Aside0.mk hS
    have HAll := Aside0.mk hAll
    have HM := Aside0.mk hM
    have hlm : (pre.map (·.2)).length = pre.length := List.length_map _
    have HLM := Aside0.mk hlm
    clear hk hR hB hS hAll hM hlen ht hx hkx hlm
    have HLE := Aside0.mk (show w.heap.size ≤ w1.heap.size + 1 + 1 by omega)
    have HLE2 := Aside0.mk (show w1.heap.size + 1 + 1 ≤ W.heap.size by have := HSS.out; omega)
    have HNE := Aside0.mk (show w1.heap.size ≠ w1.heap.size + 1 by omega)
    have HTN := Aside0.mk (show 84 ≠ 89 by decide)
    gi_wp2_with (gi_at_builtin; go_must (refine R_appendIn k89 (w0 := W) (w1.heap.size + 1 + 1) rfl (.tmp 22) (.tmp 24) 82 89 (.agg #[.slice none 0 0, .slice none 0 0]) 48 rfl Tryz.underlying82 info89 rfl (by decide) (by decide) (.slice Av pre.length cv) (pre.map (fun x : TV => x.2)) x.2 _ (fun _ => True) _ (by rfl) (by rfl) HM.out ?_ (fun _ _ => trivial) HAll.out (Below.refl _ _) ?_ ?_ ?_); (intro k hk; obtain ⟨cells, hk⟩ := hk; exact ⟨trivial, AllR.ne HAll.out hk (by decide)⟩); (have := HSS.out; omega); (rw [HLM.out]; omega); intro v1 w3 hr1 hb1 hg1 ha1; obtain ⟨A7, c7, he7⟩ := Kd.R_slice hr1; rw [List.length_append, HLM.out] at he7; subst he7; have HR3 := Aside0.mk hr1; have HB3' := Aside0.mk hb1; have HG3 := Aside0.mk hg1; have hk3 := HKK.out.keep (Keep.grown (n0 := w.heap.size) (b := w1.heap.size + 1) HAll.out HLE.out HLE2.out hg1) HNE.out HTN.out; have hx3 := hk3.cell 3 rfl; have hx4 := hk3.free 3; have hx5 := hk3.lt; clear hr1 hb1 hg1 ha1 hk3)
    have hA7 : AllR w3 (w1.heap.size + 1 + 1) (.slice A7 (pre.length + 1) c7) ((pre ++ [x]).map (·.2)) := by
      rw [List.map_append]
      exact HR3.out
    have hK1 : ∀ b, Keep w.heap.size b W w3 := fun b => Keep.grown HAll.out (by omega) (by have := HSS.out; omega) HG3.out
    refine ⟨(KeepsOthers.of_grownBy HG3.out HAll.out.cells).trans (KeepsOthers.setCell _ _ _), (hK1 _).trans (Keep.setCell (by omega) _ _), ⟨HBB.out.trans ((hK1 w1.heap.size).trans (Keep.setCell (by omega) _ 3)).1, ((HRR.out.keep (hK1 w1.heap.size) (by omega) (by decide)).far (by show w.heap.size + 1 ≠ w1.heap.size; omega) _), ?_⟩, A7, c7, ?_, ?_⟩
    · rw [World.size_setCell]
      exact Nat.le_trans HSS.out HG3.out.size
    · have := (HKK.out.keep (hK1 (w1.heap.size + 1)) (by omega) (by decide)).put 3 (.slice A7 (pre.length + 1) c7) rfl
      rw [List.length_append]
      exact this
    · rw [List.length_append]
      exact R_under_set hA7 (by show w1.heap.size < _; omega) _
  case done =>
    rintro D xs W hD hS ⟨⟨hB, hR, hSz⟩, Av, cv, hk, hAll⟩ hK
    have hc0 := hk.cell 0 rfl
    have hc1 := hk.cell 1 rfl
    have hc2 := hk.cell 2 rfl
    have hc3 := hk.cell 3 rfl
    have hr0 := hR.cell 0 rfl
    have hr1 := hR.cell 1 rfl
    have hr2 := hR.cell 2 rfl
    have hr3 := hR.cell 3 rfl
    have hf0 := hR.free 0
    have hf1 := hR.free 1
    have hf2 := hR.free 2
    have hf3 := hR.free 3
    have hlt := hR.lt
    have HS := Aside0.mk hS
    have HBF := Aside0.mk hB
    have HRR := Aside0.mk hR
    have HAl := Aside0.mk hAll
    have HKD := Aside0.mk hK
    have hxl := congrArg List.length hS
    rw [List.length_map] at hxl
    have HXL := Aside0.mk hxl
    clear hS hB hR hk hAll hK hxl
    rcases xs with _ | ⟨x0, xs⟩
    · have hnil : truthsL ms mv rs = [] := List.length_eq_zero_iff.1 HXL.out.symm
      have HN := Aside0.mk hnil
      clear hnil
      gi_wp2
      have hKD := ((((KeepsOthers.setCell W ⟨w.heap.size + 1, 0, none⟩ (.slice none 0 0)).trans (KeepsOthers.setCell _ ⟨w.heap.size + 1, 1, none⟩ (.slice none 0 0))).trans (KeepsOthers.setCell _ ⟨w.heap.size + 1, 2, none⟩ (.slice none 0 0))).trans (KeepsOthers.setCell _ ⟨w.heap.size + 1, 3, none⟩ (.slice none 0 0))).same D _ HKD.out rfl
      refine ⟨by simp, .inl ⟨_, _, rfl, run_takeDeferred hKD, ?_⟩⟩
      refine ⟨_, results_ct rfl _ _ (w.heap.size + 1) 84 #[.slice none 0 0, .slice none 0 0, .slice none 0 0, .slice none 0 0] (0, 0) _ rfl (Blk.putObj _ ((((HRR.out.put 0 _ rfl).put 1 _ rfl).put 2 _ rfl).put 3 _ rfl) hKD rfl) Tryz.underlying84 rfl (by kernel_rfl), ?_⟩
      have hq : askE ms mv rs true = 7 := by simp [askE, HB.out, HN.out]
      exact ⟨.inr ⟨by rw [hq]; decide, by rw [hq]; rfl⟩, below_putObj (below_set (below_set (below_set (below_set HBF.out (by omega)) (by omega)) (by omega)) (by omega)) _ (by omega)⟩
    · have hcons : (((x0 :: xs).length : Int) == 0) = false := by simp; omega
      obtain ⟨n, hn⟩ : ∃ n, n = (x0 :: xs).length := ⟨_, rfl⟩
      rw [← hn] at hcons hc3
      have HN := Aside0.mk hn
      clear hn
      gi_wp2
      have hKD := ((((KeepsOthers.setCell W ⟨w.heap.size + 1, 0, none⟩ (.slice A0 ms.length c0)).trans (KeepsOthers.setCell _ ⟨w.heap.size + 1, 1, none⟩ (.slice A1 mv.length c1))).trans (KeepsOthers.setCell _ ⟨w.heap.size + 1, 2, none⟩ (.slice A2 rs.length c2))).trans (KeepsOthers.setCell _ ⟨w.heap.size + 1, 3, none⟩ (.slice Av n cv))).same D _ HKD.out rfl
      refine ⟨by simp, .inl ⟨_, _, rfl, run_takeDeferred hKD, ?_⟩⟩
      refine ⟨_, results_ct rfl _ _ (w.heap.size + 1) 84 #[.slice A0 ms.length c0, .slice A1 mv.length c1, .slice A2 rs.length c2, .slice Av n cv] (0, 0) _ rfl (Blk.putObj _ ((((HRR.out.put 0 _ rfl).put 1 _ rfl).put 2 _ rfl).put 3 _ rfl) hKD rfl) Tryz.underlying84 rfl (by kernel_rfl), ?_⟩
      have hne : truthsL ms mv rs ≠ [] := fun e => by have := HXL.out; rw [e] at this; simp at this
      have hq : askE ms mv rs true = 0 := by simp [askE, HB.out, hne]
      have hln : n = (truthsL ms mv rs).length := by rw [HN.out, ← HXL.out]
      have hlt2 : w.heap.size + 1 < w1.heap.size + 1 + 1 := by omega
      have hall := HAl.out
      rw [HS.out, ← HN.out] at hall
      refine ⟨.inl ⟨hq, Av, cv, by rw [← hln]; rfl, ?_⟩, below_putObj (below_set (below_set (below_set (below_set HBF.out (by omega)) (by omega)) (by omega)) (by omega)) _ (by omega)⟩
      rw [← hln]
      exact Kd.R_lower (R_putObj _ (R_under_set (R_under_set (R_under_set (R_under_set hall (p := ⟨w.heap.size + 1, 0, none⟩) hlt2 _) (p := ⟨w.heap.size + 1, 1, none⟩) hlt2 _) (p := ⟨w.heap.size + 1, 2, none⟩) hlt2 _) (p := ⟨w.heap.size + 1, 3, none⟩) hlt2 _) hKD rfl) (by omega)
theorem asked_calls {w : World} (h : PR w A0 c0 ms A1 c1 mv A2 c2 rs) (fine : Bool) :
    Calls Tryz.prog 48 #[.agg #[.slice A0 ms.length c0, .slice A1 mv.length c1, .slice A2 rs.length c2], .bool fine] w fun e w' =>
      AskV w A0 c0 ms A1 c1 mv A2 c2 rs fine e w' ∧ Below w.heap.size w w' := by
  rcases hf : (pieceB ms mv rs && fine) with _ | _
  · exact asked_refuse h fine hf
  · rw [Bool.and_eq_true] at hf
    obtain ⟨h1, rfl⟩ := hf
    exact asked_accept h h1
end
end Go.Proofs.YtaojkmalpihmbaaGreatDoor.M

