import Derived.Test.YtaojkmalpihmbaaGreatDoorB42
namespace Go.Proofs.YtaojkmalpihmbaaGreatDoor.M
open Go.RowKit Go.Proofs.YtaojkmalpihmbaaGreatDoorW.PrintWords Go.Proofs.YtaojkmalpihmbaaGreatDoorW.PrintLast Go.Proofs.YtaojkmalpihmbaaGreatDoorW.PrintMore Go.Proofs.YtaojkmalpihmbaaGreatDoor.Q
set_option linter.unusedVariables false
set_option linter.unusedSimpArgs false

/-! The document's On. -/
theorem grown_no {W w1 : World} (h : W.grownBy w1 (Value.slice none 0 0).ownBlock) : Below W.heap.size W w1 :=
  ⟨h.os, h.tape, h.output, h.size, fun k hk => h.block k hk (by simp [Value.ownBlock])⟩
theorem OwnR.aside {w : World} {base k : Nat} {l : List Int} {v : Value} {cs : Array Value} {q : Nat} (h : OwnR w base l v) (hk : Blk w k cs q) (hq : 3 ≠ q) (j : Nat) (u : Value) : OwnR (w.setCell ⟨k, j, none⟩ u) base l v :=
  Kd.R_of_own (own_move h.own (fun k' hk' => Below.heap_setCell w ⟨k, j, none⟩ u k' (fun e => Kd.R_ne h hk hq (by rw [hk']; exact congrArg some e.symm)))) (fun _ _ => trivial)
section
variable {A0 A1 A2 : Option Addr} {c0 c1 c2 : Nat} {ms : List S64} {mv : List Int} {rs : List S66}
set_option maxHeartbeats 4000000 in
set_option maxRecDepth 100000 in
theorem refOn_calls {w : World} (h : PR w A0 c0 ms A1 c1 mv A2 c2 rs) {B : Option Addr} {d : Nat} {mv2 : List Int} (hq : IR w B d mv2) :
    Calls Tryz.prog 27 #[.agg #[.slice A0 ms.length c0, .slice A1 mv.length c1, .slice A2 rs.length c2], .slice B mv2.length d] w fun e w' =>
      (∃ Ax cx, e = .returned (.agg #[.slice A0 ms.length c0, .slice Ax (mv ++ mv2).length cx, .slice A2 rs.length c2]) ∧ OwnR w' w.heap.size (mv ++ mv2) (.slice Ax (mv ++ mv2).length cx)) ∧ Below w.heap.size w w' := by
  have H := Aside0.mk h
  have HQ := Aside0.mk hq
  have hl1 := h.l1
  have hl2 := hq.l
  let W1 := ((w.alloc (.cells #[.slice A0 ms.length c0, .slice A1 mv.length c1, .slice A2 rs.length c2] 26)).alloc (.cells #[.slice none 0 0, .slice none 0 0, .slice none 0 0] 26)).alloc (.cells #[.slice A0 ms.length c0, .slice A1 mv.length c1, .slice A2 rs.length c2] 26)
  have hb0 : Below w.heap.size w W1 := below_alloc (below_alloc (below_alloc (Below.refl _ _) _) _) _
  have hk0 : Blk W1 w.heap.size #[.slice A0 ms.length c0, .slice A1 mv.length c1, .slice A2 rs.length c2] 26 := ((Blk.new w _ _).alloc _).alloc _
  have hk1 : Blk W1 (w.heap.size + 1) #[.slice none 0 0, .slice none 0 0, .slice none 0 0] 26 := by
    have := (Blk.new (w.alloc (.cells #[.slice A0 ms.length c0, .slice A1 mv.length c1, .slice A2 rs.length c2] 26)) #[.slice none 0 0, .slice none 0 0, .slice none 0 0] 26).alloc (.cells #[.slice A0 ms.length c0, .slice A1 mv.length c1, .slice A2 rs.length c2] 26)
    rw [World.size_alloc] at this
    exact this
  have hk2 : Blk W1 (w.heap.size + 1 + 1) #[.slice A0 ms.length c0, .slice A1 mv.length c1, .slice A2 rs.length c2] 26 := by
    have := Blk.new ((w.alloc (.cells #[.slice A0 ms.length c0, .slice A1 mv.length c1, .slice A2 rs.length c2] 26)).alloc (.cells #[.slice none 0 0, .slice none 0 0, .slice none 0 0] 26)) #[.slice A0 ms.length c0, .slice A1 mv.length c1, .slice A2 rs.length c2] 26
    rw [World.size_alloc, World.size_alloc] at this
    exact this
  have HB0 := Aside0.mk hb0
  have HK0 := Aside0.mk hk0
  have HK1 := Aside0.mk hk1
  have HK2 := Aside0.mk hk2
  have HN : Aside0 (∀ u : World, Kd.R (Kd.int .i64) 3 u w.heap.size (fun _ => True) (.slice none 0 0) []) := ⟨fun u => Kd.R_nil _ _ _ _ _⟩
  clear h hq hb0 hk0 hk1 hk2
  go_enter Tryz.func27, Tryz.ntmps27
  go_wp2_with (first
    | (at_builtin; (refine Kd.R_append_row (Value.int .i64) (0 : Int) (h1 := fun _ => rfl) w.heap.size rfl (.const (.slice none 0 0)) (.tmp 8) 23 3 (.int .i64 0) 8 rfl Tryz.underlying23 info3 rfl (by decide) _ [] mv A1 mv.length c1 (fun _ => True) rfl rfl (fun _ _ => trivial) (HN.out _) (Kd.C_below H.out.r1 HB0.out) HB0.out ?_ ?_ ?_); exact below_size HB0.out; (simp; omega); intro v1 w1 hr1 hb1 hg1 _; rw [List.nil_append] at hr1; obtain ⟨B1, d1, rfl⟩ := Kd.R_slice hr1; have HR1 := Aside0.mk hr1; have HB1 := Aside0.mk hb1; have hg1' := grown_no hg1; have HK0' := Aside0.mk (HK0.out.below hg1'); have HK1' := Aside0.mk (HK1.out.below hg1'); have HK2' := Aside0.mk (HK2.out.below hg1'); clear hr1 hb1 hg1 hg1')
    | (at_builtin; (refine Kd.R_append_row (Value.int .i64) (0 : Int) (h1 := fun _ => rfl) w.heap.size rfl (.tmp 9) (.tmp 10) 23 3 (.int .i64 0) 8 rfl Tryz.underlying23 info3 rfl (by decide) _ mv mv2 B mv2.length d (fun _ => True) rfl rfl (fun _ _ => trivial) HR1.out (Kd.C_below HQ.out.r HB1.out) HB1.out ?_ ?_ ?_); exact below_size HB1.out; omega; intro v2 w2 hr2 hb2 hg2 _; obtain ⟨B2, d2, rfl⟩ := Kd.R_slice hr2; have HR2 : Aside0 (OwnR w2 w.heap.size (mv ++ mv2) (.slice B2 (mv ++ mv2).length d2)) := ⟨hr2⟩; have HB2 := Aside0.mk hb2; have HK1'' := Aside0.mk (HK1'.out.grown hg2 (Kd.R_ne HR1.out HK1'.out (by decide))); have HK2'' := Aside0.mk (HK2'.out.grown hg2 (Kd.R_ne HR1.out HK2'.out (by decide))); have hq0 := HK2''.out.cell 0 rfl; have hq1 := HK2''.out.cell 1 rfl; have hq2 := HK2''.out.cell 2 rfl; have hqf := HK2''.out.free 1; have hp0 := HK1''.out.cell 0 rfl; have hp1 := HK1''.out.cell 1 rfl; have hp2 := HK1''.out.cell 2 rfl; have hpf0 := HK1''.out.free 0; have hpf1 := HK1''.out.free 1; have hpf2 := HK1''.out.free 2; clear hr2 hb2 hg2))
  have HA1 := Aside0.mk (show Blk (w2.setCell ⟨w.heap.size + 1 + 1, 1, none⟩ (.slice B2 (mv.length + mv2.length) d2)) (w.heap.size + 1) #[.slice none 0 0, .slice none 0 0, .slice none 0 0] 26 from (Below.heap_setCell w2 ⟨w.heap.size + 1 + 1, 1, none⟩ _ _ (by show w.heap.size + 1 ≠ w.heap.size + 1 + 1; omega)).trans HK1''.out)
  have hlen : (mv ++ mv2).length = mv.length + mv2.length := List.length_append
  refine bodyPost_ret (results_cell_row rfl _ _ (w.heap.size + 1) 26 #[.slice A0 ms.length c0, .slice B2 (mv.length + mv2.length) d2, .slice A2 rs.length c2] (0, 0) _ (by rfl) (((HA1.out.put 0 _ rfl).put 1 _ rfl).put 2 _ rfl) Tryz.underlying26 rfl (by kernel_rfl)) rfl ?_
  refine ⟨⟨B2, d2, by rw [hlen], ?_⟩, below_set (below_set (below_set (below_set HB2.out (by omega)) (by omega)) (by omega)) (by omega)⟩
  have h0 := HR2.out
  have h1 := h0.aside HK2''.out (by decide) 1 (.slice B2 (mv.length + mv2.length) d2)
  have h2 := h1.aside HA1.out (by decide) 0 (.slice A0 ms.length c0)
  have h3 := h2.aside (HA1.out.put 0 _ rfl) (by decide) 1 (.slice B2 (mv.length + mv2.length) d2)
  exact h3.aside ((HA1.out.put 0 _ rfl).put 1 _ rfl) (by decide) 2 (.slice A2 rs.length c2)
end
end Go.Proofs.YtaojkmalpihmbaaGreatDoor.M
