import Derived.Test.YtaojkmalpihmbaaGreatDoorB12
namespace Go.Proofs.YtaojkmalpihmbaaGreatDoor.M
open Go.RowKit Go.Proofs.YtaojkmalpihmbaaGreatDoorW.PrintWords Go.Proofs.YtaojkmalpihmbaaGreatDoorW.PrintLast Go.Proofs.YtaojkmalpihmbaaGreatDoorW.PrintMore Go.Proofs.YtaojkmalpihmbaaGreatDoor.Q
set_option linter.unusedVariables false
set_option linter.unusedSimpArgs false

/-! Truths. -/
theorem truthsFrom_length (mv : List Int) (rs : List S66) : ∀ (ms : List S64) (pl : List Int), (∀ m ∈ ms, m.f0.f1 - m.f0.f0 ≤ 4) → (truthsFrom mv rs ms pl).length ≤ 5 ^ ms.length
  | [], pl, _ => by
    simp only [truthsFrom]
    split <;> simp
  | m :: ms, pl, h => by
    have h1 : ∀ (l : List Int), (l.flatMap fun n => truthsFrom mv rs ms (pl ++ [n])).length ≤ l.length * 5 ^ ms.length := by
      intro l
      induction l with
      | nil => simp
      | cons a l ih =>
        have h2 := truthsFrom_length mv rs ms (pl ++ [a]) (fun m hm => h m (List.mem_cons_of_mem _ hm))
        simp only [List.flatMap_cons, List.length_append, List.length_cons, Nat.add_mul]
        omega
    have h3 := h1 (upTo m.f0.f0 m.f0.f1)
    have h4 : (upTo m.f0.f0 m.f0.f1).length ≤ 5 := by
      rw [upTo_length]
      have := h m (List.mem_cons_self ..)
      omega
    have h5 := Nat.mul_le_mul_right (5 ^ ms.length) h4
    simp only [truthsFrom, List.length_cons, Nat.pow_succ]
    omega
theorem piece_thin {ms : List S64} {mv : List Int} {rs : List S66} (h : pieceB ms mv rs = true) : ∀ m ∈ ms, m.f0.f1 - m.f0.f0 ≤ 4 := by
  intro r hr
  simp [pieceB, anyB] at h
  have := h.2.2.2.1 r hr
  simp [meshBad, spanB] at this
  omega
theorem truthsL_length {ms : List S64} {mv : List Int} {rs : List S66} (h : pieceB ms mv rs = true) : (truthsL ms mv rs).length ≤ 625 := by
  have h1 := truthsFrom_length mv rs ms [] (piece_thin h)
  have h2 : 5 ^ ms.length ≤ 5 ^ 4 := Nat.pow_le_pow_right (by decide) (piece_len h).2.1
  exact Nat.le_trans h1 (Nat.le_trans h2 (by decide))
def countT (ms : List S64) (mv : List Int) (rs : List S66) : Int := if pieceB ms mv rs then (truthsL ms mv rs).length else 0
def pieceE (ms : List S64) (mv : List Int) (rs : List S66) : Int := if pieceB ms mv rs then 0 else 2
theorem OwnR.move {A B : World} {base : Nat} {l : List Int} {v : Value} (h : OwnR A base l v) (hm : ∀ k cells, base ≤ k → A.heap[k]? = some (.cells cells 3 (0, 0)) → B.heap[k]? = A.heap[k]?) : OwnR B base l v := by
  refine Kd.R_mono (Kd.R_move (Kd.R_bound h) (fun k hk' => ?_)) (fun _ _ => trivial)
  obtain ⟨_, h1, _, q, hq, cells, hc⟩ := hk'
  have hq' : q = 3 := by simpa [Kd.E, Kd.int, Kd.scalar] using hq
  subst hq'
  exact hm k cells h1 hc
theorem TOwn.move {A B : World} {base : Nat} {x : TV} (h : TOwn base x A) (hm : ∀ k cells, base ≤ k → A.heap[k]? = some (.cells cells 3 (0, 0)) → B.heap[k]? = A.heap[k]?) : TOwn base x B := by
  obtain ⟨cs, hM, e⟩ := h
  obtain ⟨v0, v1, rfl, h0, h1⟩ := k89_openM hM
  exact ⟨_, k89_mkM _ _ _ _ (OwnR.move h0 hm) (OwnR.move h1 hm), e⟩
theorem TOwn.putObj {W : World} {base l : Nat} {x : TV} {o : Obj} (o' : Obj) (h : TOwn base x W) (hl : W.heap[l]? = some o) (hc : o.isCells = false) : TOwn base x (W.putObj l o') :=
  h.move (fun k cells _ hk => World.putObj_heap_other (fun e => by subst e; rw [hk] at hl; cases hl; cases hc))
theorem TOwn.below {A B : World} {base : Nat} {x : TV} (h : TOwn base x A) (hb : Below A.heap.size A B) : TOwn base x B :=
  h.move (fun k cells _ hk => hb.block k (Array.getElem?_eq_some_iff.1 hk).1)
theorem Blk.putObj {W : World} {k l : Nat} {cs : Array Value} {q : Nat} {o : Obj} (o' : Obj) (h : Blk W k cs q) (hl : W.heap[l]? = some o) (hc : o.isCells = false) : Blk (W.putObj l o') k cs q :=
  (World.putObj_heap_other (fun e => by subst e; rw [show W.heap[k]? = _ from h] at hl; cases hl; cases hc)).trans h
theorem below_putObj {w W : World} {n l : Nat} (h : Below n w W) (o' : Obj) (hl : n ≤ l) : Below n w (W.putObj l o') :=
  h.trans ⟨rfl, rfl, rfl, by simp, fun k hk => World.putObj_heap_other (by omega)⟩
theorem Keep.setCell {W : World} {n0 b : Nat} (hn : n0 ≤ b) (v : Value) (j : Nat) : Keep n0 b W (W.setCell ⟨b, j, none⟩ v) :=
  ⟨(Below.refl n0 W).setCell (p := ⟨b, j, none⟩) hn _, fun k hk cs q fr h _ => (Below.heap_setCell W ⟨b, j, none⟩ v k hk).trans h⟩
section
variable {A0 A1 A2 : Option Addr} {c0 c1 c2 : Nat} {ms : List S64} {mv : List Int} {rs : List S66}
attribute [local go_sem] Oper.semAt_some
set_option maxHeartbeats 4000000 in
set_option maxRecDepth 100000 in
theorem Truths_calls {w : World} (h : PR w A0 c0 ms A1 c1 mv A2 c2 rs) :
    Calls Tryz.prog 37 #[.agg #[.slice A0 ms.length c0, .slice A1 mv.length c1, .slice A2 rs.length c2]] w fun e w' =>
      e = .returned (.tuple #[.int .i64 (countT ms mv rs), .int .i64 (pieceE ms mv rs)]) ∧ Below w.heap.size w w' := by
  have H := Aside0.mk h
  have HB0 := Aside0.mk (below_alloc (Below.refl w.heap.size w) (.cells #[.slice A0 ms.length c0, .slice A1 mv.length c1, .slice A2 rs.length c2] 26))
  have HK0 := Aside0.mk (Blk.new w #[.slice A0 ms.length c0, .slice A1 mv.length c1, .slice A2 rs.length c2] 26)
  clear h
  rcases hb1 : pieceB ms mv rs with _ | _
  · have HB := Aside0.mk hb1
    clear hb1
    go_enter Tryz.func37, Tryz.ntmps37
    go_wp2_with (go_at_call 66; (with_reducible refine (piece_calls (H.out.below HB0.out)).mono ?_); rintro e w1 ⟨rfl, hb1⟩; have HBB1 := Aside0.mk (bthen HB0.out hb1); rw [HB.out]; clear hb1)
    go_ret2
    exact ⟨by simp [countT, pieceE, HB.out], HBB1.out⟩
  · have HB := Aside0.mk hb1
    clear hb1
    refine (callsIn_wide (n := 4)).1 ?_
    refine callsIn_of_wp_marks Tryz.func37 rfl trivial ?_ rfl
    simp only [Tryz.ntmps37, List.size_toArray, List.length_cons, List.length_nil, Nat.reduceAdd, Nat.reduceSub, Array.replicate_succ, Array.replicate_zero, List.push_toArray, List.append_toArray, List.nil_append, List.cons_append]
    gi_wp2_with (first
      | (refine ⟨trivial, ?_⟩; gi_at_call 66; refine (callsIn_wide.2 (piece_calls (H.out.below HB0.out))).mono ?_; rintro e w1 ⟨rfl, hb1⟩; have HBB1 := Aside0.mk (bthen HB0.out hb1); have HK1 := Aside0.mk (HK0.out.below hb1); have hk0 := HK1.out.cell 0 rfl; have hk1 := HK1.out.cell 1 rfl; have hk2 := HK1.out.cell 2 rfl; have hkl := HK1.out.lt; rw [HB.out]; clear hb1)
      | (refine ⟨trivial, ?_⟩; gi_at_call 70; refine (callsIn_wide.2 truths_calls).mono ?_; rintro e w2 ⟨rfl, rfl⟩))
    have hw1 := HBB1.out.size
    have HB3 := Aside0.mk (below_alloc (below_alloc HBB1.out (.cells #[.int .i64 0] 3)) (.cells #[.slice A0 ms.length c0, .slice A1 mv.length c1, .slice A2 rs.length c2] 26))
    have HKn := Aside0.mk ((Blk.new w1 #[.int .i64 0] 3).alloc (.cells #[.slice A0 ms.length c0, .slice A1 mv.length c1, .slice A2 rs.length c2] 26))
    have hkp := Blk.new (w1.alloc (.cells #[.int .i64 0] 3)) #[.slice A0 ms.length c0, .slice A1 mv.length c1, .slice A2 rs.length c2] 26
    rw [World.size_alloc] at hkp
    have HKp := Aside0.mk hkp
    have hl6 := truthsL_length HB.out
    clear hkp hk0 hk1 hk2
    obtain ⟨W0, hW0⟩ : ∃ W0, (w1.alloc (.cells #[.int .i64 0] 3)).alloc (.cells #[.slice A0 ms.length c0, .slice A1 mv.length c1, .slice A2 rs.length c2] 26) = W0 := ⟨_, rfl⟩
    have hsz : W0.heap.size = w1.heap.size + 1 + 1 := by rw [← hW0, World.size_alloc, World.size_alloc]
    rw [hW0] at HB3 HKn HKp ⊢
    clear hW0
    refine wpIn_rangeFunc_T rfl (by omega) (gf := 109) (lb := #[.pointer (some ⟨w1.heap.size + 1, 0, none⟩)]) rfl trivial (enters_of Tryz.func109 (by kernel_rfl) rfl)
      (truths_seq (w0 := w) (b := w1.heap.size) (B0 := w1.heap.size + 1 + 1) (bp := w1.heap.size + 1) H.out HB.out HB3.out HKp.out (by omega) (by omega) (by omega))
      (fun h k => h.trans k) (fun W l o o' hl ho hc => Keep.putObj o' (by omega) ho hc) (Below.refl _ _) (fun _ => rfl)
      (fun x W l o o' ht hl hc => ht.putObj o' hl hc)
      (fun pre W => Below w.heap.size w W ∧ Blk W w1.heap.size #[.int .i64 (pre.length : Int)] 3)
      (fun s A B hI hb => ⟨hI.1.trans (hb.mono hI.1.size), hI.2.below hb⟩)
      (fun s W l o o' hI hl ho hc => ⟨below_putObj hI.1 o' (by omega), hI.2.putObj o' ho hc⟩)
      ⟨HB3.out, HKn.out⟩
      (fun x a' W => a' = { tmps := #[.agg #[.slice A0 ms.length c0, .slice A1 mv.length c1, .slice A2 rs.length c2], .pointer (some ⟨w.heap.size, 0, none⟩), .int .i64 0, .int .i64 0, .pointer (some ⟨w1.heap.size, 0, none⟩), .agg #[.slice A0 ms.length c0, .slice A1 mv.length c1, .slice A2 rs.length c2], .bool true, .bool false, .agg #[.slice A0 ms.length c0, .slice A1 mv.length c1, .slice A2 rs.length c2], .func (.func 109) #[] #[.pointer (some ⟨w1.heap.size + 1, 0, none⟩)], x.1, undef, undef, undef], defers := [] })
      (fun x a' W l o o' h _ _ => h) ?assign ?body ?done
    case assign =>
      intro l pre x W K hi ht hK
      gi_wp2
      exact hK _ _ (KeepsOthers.refl _) (Keep.refl _) hi ht (by simp)
    case body =>
      rintro l pre x a' W ⟨hB, hk⟩ hlen ht rfl
      have hc0 := hk.cell 0 rfl
      have hf0 := hk.free 0
      have hkl := hk.lt
      have HKK := Aside0.mk hk
      have hpl : pre.length < 625 := by omega
      clear hk hlen
      gi_wp2
      exact ⟨KeepsOthers.setCell _ _ _, Keep.setCell (by omega) _ _, below_set hB (by omega), by have := HKK.out.put 0 (.int .i64 ((pre.length : Int) + 1)) rfl; simpa using this⟩
    case done =>
      rintro D xs W hD hS ⟨hB, hk⟩ hK
      have hc0 := hk.cell 0 rfl
      have HS := Aside0.mk hS
      have HBF := Aside0.mk hB
      clear hS hB
      gi_wp2
      refine ⟨by simp, .inl ⟨_, _, rfl, run_takeDeferred hK, ?_⟩⟩
      refine ⟨_, results_tmp2 rfl _ _ _, ?_⟩
      have hl := congrArg List.length HS.out
      rw [List.length_map] at hl
      exact ⟨by simp [countT, pieceE, HB.out, hl], below_putObj HBF.out _ (by omega)⟩
end
end Go.Proofs.YtaojkmalpihmbaaGreatDoor.M

