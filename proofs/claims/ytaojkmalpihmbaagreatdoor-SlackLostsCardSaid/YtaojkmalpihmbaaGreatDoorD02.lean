import Derived.Test.YtaojkmalpihmbaaGreatDoorB42
import Derived.Test.YtaojkmalpihmbaaGreatDoorD01
import Derived.Deep.RegionHeld3
import Derived.StillTailTactics
namespace Go.Proofs.YtaojkmalpihmbaaGreatDoor.M
open Go.RowKit Go.Proofs.YtaojkmalpihmbaaGreatDoorW.PrintWords Go.Proofs.YtaojkmalpihmbaaGreatDoorW.PrintLast Go.Proofs.YtaojkmalpihmbaaGreatDoorW.PrintMore Go.Proofs.YtaojkmalpihmbaaGreatDoor.Q
set_option linter.unusedVariables false
set_option linter.unusedSimpArgs false

/-! The document's On. -/
theorem grown_no {W w1 : World} (h : W.grownBy w1 (Value.slice none 0 0).ownBlock) : Below W.heap.size W w1 :=
  ⟨h.os, h.tape, h.output, h.size, fun k hk => h.block k hk (by simp [Value.ownBlock])⟩
theorem OwnR.aside {w : World} {base k : Nat} {l : List Int} {v : Value} {cs : Array Value} {q : Nat} (h : OwnR w base l v) (hk : Blk w k cs q) (hq : 3 ≠ q) (j : Nat) (u : Value) : OwnR (w.setCell ⟨k, j, none⟩ u) base l v :=
  Kd.R_of_own (own_move h.own (fun k' hk' => Below.heap_setCell w ⟨k, j, none⟩ u k' (fun e => Kd.R_ne h hk hq (by rw [hk']; exact congrArg some e.symm)))) (fun _ _ => trivial)
section
variable {A0 A1 A2 : Option Addr} {c0 c1 c2 : Nat} {ms : List S64} {mv : List Int} {rs : List S66}
set_option maxHeartbeats 4000000 in
set_option maxRecDepth 100000 in
theorem refOn_calls {w : World} (h : PR w A0 c0 ms A1 c1 mv A2 c2 rs) {B : Option Addr} {d : Nat} {mv2 : List Int} (hq : IR w B d mv2) :
    Calls Tryz.prog 27 #[.agg #[.slice A0 ms.length c0, .slice A1 mv.length c1, .slice A2 rs.length c2], .slice B mv2.length d] w fun e w' =>
      (∃ Ax cx, e = .returned (.agg #[.slice A0 ms.length c0, .slice Ax (mv ++ mv2).length cx, .slice A2 rs.length c2]) ∧ OwnR w' w.heap.size (mv ++ mv2) (.slice Ax (mv ++ mv2).length cx)) ∧ Below w.heap.size w w' := by
  have H := Aside0.mk h
  have HQ := Aside0.mk hq
  have hl1 := h.l1
  have hl2 := hq.l
  let W1 := ((w.alloc (.cells #[.slice A0 ms.length c0, .slice A1 mv.length c1, .slice A2 rs.length c2] 26)).alloc (.cells #[.slice none 0 0, .slice none 0 0, .slice none 0 0] 26)).alloc (.cells #[.slice A0 ms.length c0, .slice A1 mv.length c1, .slice A2 rs.length c2] 26)
  have hb0 : Below w.heap.size w W1 := below_alloc (below_alloc (below_alloc (Below.refl _ _) _) _) _
  have hk0 : Blk W1 w.heap.size #[.slice A0 ms.length c0, .slice A1 mv.length c1, .slice A2 rs.length c2] 26 := ((Blk.new w _ _).alloc _).alloc _
  have hk1 : Blk W1 (w.heap.size + 1) #[.slice none 0 0, .slice none 0 0, .slice none 0 0] 26 := by
    have := (Blk.new (w.alloc (.cells #[.slice A0 ms.length c0, .slice A1 mv.length c1, .slice A2 rs.length c2] 26)) #[.slice none 0 0, .slice none 0 0, .slice none 0 0] 26).alloc (.cells #[.slice A0 ms.length c0, .slice A1 mv.length c1, .slice A2 rs.length c2] 26)
    rw [World.size_alloc] at this
    exact this
  have hk2 : Blk W1 (w.heap.size + 1 + 1) #[.slice A0 ms.length c0, .slice A1 mv.length c1, .slice A2 rs.length c2] 26 := by
    have := Blk.new ((w.alloc (.cells #[.slice A0 ms.length c0, .slice A1 mv.length c1, .slice A2 rs.length c2] 26)).alloc (.cells #[.slice none 0 0, .slice none 0 0, .slice none 0 0] 26)) #[.slice A0 ms.length c0, .slice A1 mv.length c1, .slice A2 rs.length c2] 26
    rw [World.size_alloc, World.size_alloc] at this
    exact this
  have HB0 := Aside0.mk hb0
  have HK0 := Aside0.mk hk0
  have HK1 := Aside0.mk hk1
  have HK2 := Aside0.mk hk2
  have HN : Aside0 (∀ u : World, Kd.R (Kd.int .i64) 3 u w.heap.size (fun _ => True) (.slice none 0 0) []) := ⟨fun u => Kd.R_nil _ _ _ _ _⟩
  clear h hq hb0 hk0 hk1 hk2
  go_enter Tryz.func27, Tryz.ntmps27
  go_wp2_with (first
    | (at_builtin; (refine Kd.R_append_row (Value.int .i64) (0 : Int) (h1 := fun _ => rfl) w.heap.size rfl (.const (.slice none 0 0)) (.tmp 8) 23 3 (.int .i64 0) 8 rfl Tryz.underlying23 info3 rfl (by decide) _ [] mv A1 mv.length c1 (fun _ => True) rfl rfl (fun _ _ => trivial) (HN.out _) (Kd.C_below H.out.r1 HB0.out) HB0.out ?_ ?_ ?_); exact below_size HB0.out; (simp; omega); intro v1 w1 hr1 hb1 hg1 _; rw [List.nil_append] at hr1; obtain ⟨B1, d1, rfl⟩ := Kd.R_slice hr1; have HR1 := Aside0.mk hr1; have HB1 := Aside0.mk hb1; have hg1' := grown_no hg1; have HK0' := Aside0.mk (HK0.out.below hg1'); have HK1' := Aside0.mk (HK1.out.below hg1'); have HK2' := Aside0.mk (HK2.out.below hg1'); clear hr1 hb1 hg1 hg1')
    | (at_builtin; (refine Kd.R_append_row (Value.int .i64) (0 : Int) (h1 := fun _ => rfl) w.heap.size rfl (.tmp 9) (.tmp 10) 23 3 (.int .i64 0) 8 rfl Tryz.underlying23 info3 rfl (by decide) _ mv mv2 B mv2.length d (fun _ => True) rfl rfl (fun _ _ => trivial) HR1.out (Kd.C_below HQ.out.r HB1.out) HB1.out ?_ ?_ ?_); exact below_size HB1.out; omega; intro v2 w2 hr2 hb2 hg2 _; obtain ⟨B2, d2, rfl⟩ := Kd.R_slice hr2; have HR2 : Aside0 (OwnR w2 w.heap.size (mv ++ mv2) (.slice B2 (mv ++ mv2).length d2)) := ⟨hr2⟩; have HB2 := Aside0.mk hb2; have HK1'' := Aside0.mk (HK1'.out.grown hg2 (Kd.R_ne HR1.out HK1'.out (by decide))); have HK2'' := Aside0.mk (HK2'.out.grown hg2 (Kd.R_ne HR1.out HK2'.out (by decide))); have hq0 := HK2''.out.cell 0 rfl; have hq1 := HK2''.out.cell 1 rfl; have hq2 := HK2''.out.cell 2 rfl; have hqf := HK2''.out.free 1; have hp0 := HK1''.out.cell 0 rfl; have hp1 := HK1''.out.cell 1 rfl; have hp2 := HK1''.out.cell 2 rfl; have hpf0 := HK1''.out.free 0; have hpf1 := HK1''.out.free 1; have hpf2 := HK1''.out.free 2; clear hr2 hb2 hg2))
  have HA1 := Aside0.mk (show Blk (w2.setCell ⟨w.heap.size + 1 + 1, 1, none⟩ (.slice B2 (mv.length + mv2.length) d2)) (w.heap.size + 1) #[.slice none 0 0, .slice none 0 0, .slice none 0 0] 26 from (Below.heap_setCell w2 ⟨w.heap.size + 1 + 1, 1, none⟩ _ _ (by show w.heap.size + 1 ≠ w.heap.size + 1 + 1; omega)).trans HK1''.out)
  have hlen : (mv ++ mv2).length = mv.length + mv2.length := List.length_append
  refine bodyPost_ret (results_cell_row rfl _ _ (w.heap.size + 1) 26 #[.slice A0 ms.length c0, .slice B2 (mv.length + mv2.length) d2, .slice A2 rs.length c2] (0, 0) _ (by rfl) (((HA1.out.put 0 _ rfl).put 1 _ rfl).put 2 _ rfl) Tryz.underlying26 rfl (by kernel_rfl)) rfl ?_
  refine ⟨⟨B2, d2, by rw [hlen], ?_⟩, below_set (below_set (below_set (below_set HB2.out (by omega)) (by omega)) (by omega)) (by omega)⟩
  have h0 := HR2.out
  have h1 := h0.aside HK2''.out (by decide) 1 (.slice B2 (mv.length + mv2.length) d2)
  have h2 := h1.aside HA1.out (by decide) 0 (.slice A0 ms.length c0)
  have h3 := h2.aside (HA1.out.put 0 _ rfl) (by decide) 1 (.slice B2 (mv.length + mv2.length) d2)
  exact h3.aside ((HA1.out.put 0 _ rfl).put 1 _ rfl) (by decide) 2 (.slice A2 rs.length c2)
end
end Go.Proofs.YtaojkmalpihmbaaGreatDoor.M

namespace Go.Proofs.YtaojkmalpihmbaaGreatDoor.M
open Go.RowKit Go.Proofs.YtaojkmalpihmbaaGreatDoorW.PrintWords Go.Proofs.YtaojkmalpihmbaaGreatDoorW.PrintLast Go.Proofs.YtaojkmalpihmbaaGreatDoorW.PrintMore Go.Proofs.YtaojkmalpihmbaaGreatDoor.Q
set_option linter.unusedVariables false
set_option linter.unusedSimpArgs false

/-! The document's Truths: the walk. -/
theorem truthsL_plays {ms : List S64} {mv : List Int} {rs : List S66} (h : pieceB ms mv rs = true) : (truthsL ms mv rs).map (·.f0) = (allL ms).filter fun pl => fitB rs pl mv := by
  unfold truthsL allL
  rw [truthsFrom_all]
  refine List.filter_congr fun pl hpl => ?_
  have hb := all_mem ms [[]] [] (fun q hq => by simp at hq; subst hq; rfl) pl hpl
  rw [List.nil_append] at hb
  exact live_fit h (okB_okPl h hb) (okB_length hb)
theorem stepM_length (L : List (List Int)) (m : S64) (h : m.f0.f1 - m.f0.f0 ≤ 4) : (stepM L m).length ≤ 5 * L.length := by
  induction L with
  | nil => simp [stepM]
  | cons a L ih =>
    have e : stepM (a :: L) m = (upTo m.f0.f0 m.f0.f1).map (fun n => a ++ [n]) ++ stepM L m := by simp [stepM]
    rw [e, List.length_append, List.length_map, upTo_length, List.length_cons]
    omega
theorem fold_length : ∀ (ms : List S64) (L : List (List Int)), (∀ m ∈ ms, m.f0.f1 - m.f0.f0 ≤ 4) → (ms.foldl stepM L).length ≤ 5 ^ ms.length * L.length
  | [], L, _ => by simp
  | m :: ms, L, h => by
    have h1 := fold_length ms (stepM L m) (fun x hx => h x (List.mem_cons_of_mem _ hx))
    have h2 := stepM_length L m (h m (List.mem_cons_self ..))
    simp only [List.foldl_cons, List.length_cons]
    calc _ ≤ 5 ^ ms.length * (stepM L m).length := h1
      _ ≤ 5 ^ ms.length * (5 * L.length) := Nat.mul_le_mul_left _ h2
      _ = 5 ^ (ms.length + 1) * L.length := by rw [Nat.pow_succ]; simp [Nat.mul_assoc]
theorem fold_small {ms : List S64} (hl : ms.length ≤ 4) (h : ∀ m ∈ ms, m.f0.f1 - m.f0.f0 ≤ 4) (j : Nat) : ((ms.take j).foldl stepM [[]]).length ≤ 625 := by
  have h1 := fold_length (ms.take j) [[]] (fun m hm => h m (List.mem_of_mem_take hm))
  have h2 : (ms.take j).length ≤ 4 := by rw [List.length_take]; omega
  have h3 : 5 ^ (ms.take j).length ≤ 5 ^ 4 := Nat.pow_le_pow_right (by omega) h2
  have h4 : (5 : Nat) ^ 4 = 625 := by decide
  simp only [List.length_cons, List.length_nil] at h1
  omega
section
variable {A0 A1 A2 : Option Addr} {c0 c1 c2 : Nat} {ms : List S64} {mv : List Int} {rs : List S66}
set_option maxHeartbeats 40000000 in
set_option maxRecDepth 100000 in
theorem refTruths_calls {w : World} (h : PR w A0 c0 ms A1 c1 mv A2 c2 rs) (hok : pieceB ms mv rs = true) :
    Calls Tryz.prog 53 #[.agg #[.slice A0 ms.length c0, .slice A1 mv.length c1, .slice A2 rs.length c2]] w fun e w' =>
      (∃ v, e = .returned v ∧ Kd.R kLists 23 w' w.heap.size (fun _ => True) v ((truthsL ms mv rs).map (·.f0))) ∧ Below w.heap.size w w' := by
  obtain ⟨p1, p2, p3, p4⟩ := piece_len hok
  have H := Aside0.mk h
  have HOK := Aside0.mk hok
  have HSM := Aside0.mk (fold_small p2 (piece_thin hok))
  have HPM := Aside0.mk (piece_meshes hok)
  have HTH := Aside0.mk (piece_thin hok)
  have hb0 := below_alloc (Below.refl w.heap.size w) (.cells #[.slice A0 ms.length c0, .slice A1 mv.length c1, .slice A2 rs.length c2] 26)
  have HK0 := Aside0.mk ((Blk.new w #[.slice A0 ms.length c0, .slice A1 mv.length c1, .slice A2 rs.length c2] 26).alloc (.cells #[.slice none 0 0] 23))
  have HL0 := one_list (w := w.alloc (.cells #[.slice A0 ms.length c0, .slice A1 mv.length c1, .slice A2 rs.length c2] 26)) (base := w.heap.size) (l := []) (v := .slice none 0 0) (Kd.R_nil _ _ _ _ _) (by rw [World.size_alloc]; omega)
  rw [World.size_alloc] at HL0
  have HL1 := Aside0.mk HL0
  have HB0 := Aside0.mk (below_alloc hb0 (.cells #[.slice none 0 0] 23))
  clear h hok hb0 HL0
  go_enter Tryz.func53, Tryz.ntmps53
  go_wp2
  go_loopg [3, 4, 5, 6, 7] (ms.length) (fun k v3 i v5 v6 v7 wr => ∃ (j : Nat) (Ls : List (List Int)) (Av : Option Addr) (cv : Nat), j + k = ms.length ∧ i = .int .i64 j ∧ v3 = .slice Av Ls.length cv ∧ Aside0 (Ls = (ms.take j).foldl stepM [[]]) ∧ Aside0 (Kd.R kLists 23 wr w.heap.size (fun _ => True) v3 Ls) ∧ Below w.heap.size w wr ∧ Aside0 (Blk wr w.heap.size #[.slice A0 ms.length c0, .slice A1 mv.length c1, .slice A2 rs.length c2] 26))
  case atStart => exact ⟨0, [[]], _, _, by omega, rfl, rfl, ⟨by simp⟩, HL1, HB0.out, HK0⟩
  case round =>
    obtain ⟨j, Ls, Av, cv, hj, rfl, rfl, HLs, HV, hBr, HBK⟩ := hrel
    have hj' : j ≤ ms.length := by omega
    have HJ := Aside0.mk hj
    clear hj
    have hk0 := HBK.out.cell 0 rfl
    have hLl : Ls.length ≤ 625 := by rw [HLs.out]; exact HSM.out j
    by_cases hlt : j < ms.length
    · obtain ⟨m, hm⟩ : ∃ m, ms[j]? = some m := ⟨_, List.getElem?_eq_getElem hlt⟩
      obtain ⟨m1, m2, m3⟩ := HPM.out m (List.mem_of_getElem? hm)
      have m4 := HTH.out m (List.mem_of_getElem? hm)
      obtain ⟨am, rfl, hca0, hcb0⟩ := at_mesh H.out.r0 hm hlt
      have HM := Aside0.mk hm
      have HCA := Aside0.mk hca0
      have HCB := Aside0.mk hcb0
      have hnl : (stepM Ls m).length ≤ 625 := by
        have h1 := HSM.out (j + 1)
        rw [List.take_add_one, hm, Option.toList_some, List.foldl_append, ← HLs.out] at h1
        exact h1
      have HNL := Aside0.mk hnl
      obtain ⟨_, hVc, hVr⟩ := Kd.R_reads' HV.out
      have HVR := Aside0.mk hVr
      clear hm hca0 hcb0 hnl hVr
      obtain ⟨W1, rfl⟩ : ∃ W1 : World, W1 = wr := ⟨_, rfl⟩
      obtain ⟨gk1, rfl⟩ : ∃ gk1 : Nat, gk1 = gk := ⟨_, rfl⟩
      go_wp2
      go_loopg [5, 6, 7] (Ls.length) (fun g v5 v6 v7 wr => ∃ (k : Nat) (Ns : List (List Int)) (An : Option Addr) (cn : Nat), k + g = Ls.length ∧ v6 = .int .i64 k ∧ v5 = .slice An Ns.length cn ∧ Aside0 (Ns = stepM (Ls.take k) m) ∧ Aside0 (Kd.R kLists 23 wr W1.heap.size (fun _ => True) v5 Ns) ∧ Below W1.heap.size W1 wr)
      case atStart => exact ⟨0, [], none, 0, by omega, rfl, rfl, ⟨by simp [stepM]⟩, ⟨none_row _ _ _ _ _⟩, Below.refl _ _⟩
      case round =>
        obtain ⟨k, Ns, An, cn, hk, rfl, rfl, HNs, HN, hB2⟩ := hrel
        have hk' : k ≤ Ls.length := by omega
        have HKK := Aside0.mk hk
        clear hk
        have hBw : Below w.heap.size w wr := hBr.trans (Below.mono hB2 hBr.size)
        by_cases hlt2 : k < Ls.length
        · obtain ⟨pl, hpl⟩ : ∃ pl, Ls[k]? = some pl := ⟨_, List.getElem?_eq_getElem hlt2⟩
          obtain ⟨av, Al, cl, rfl, hcell0, hcl, hcr⟩ := at_row HVR.out hpl hlt2
          have hpll : pl.length ≤ 4 := by
            have h1 := all_mem (ms.take j) [[]] [] (fun q hq => by simp at hq; subst hq; rfl) pl (by rw [← HLs.out]; exact List.mem_of_getElem? hpl)
            have h2 := okB_length h1
            rw [List.nil_append, List.length_take] at h2
            omega
          have HPL := Aside0.mk hpl
          have HCE := Aside0.mk hcell0
          have HCR := Aside0.mk hcr
          have hk2 := (HBK.out.below hB2).cell 0 rfl
          have hca := pw_cell_below hBw HCA.out
          have hcb := pw_cell_below hBw HCB.out
          obtain ⟨cnt, hcnt⟩ : ∃ cnt : Nat, cnt = (m.f0.f1 - m.f0.f0 + 1).toNat := ⟨_, rfl⟩
          have hcnt' : (cnt : Int) = m.f0.f1 - m.f0.f0 + 1 := by omega
          have HC := Aside0.mk hcnt
          have HC' := Aside0.mk hcnt'
          clear hpl hcell0 hcr hcnt hcnt'
          obtain ⟨W2, rfl⟩ : ∃ W2 : World, W2 = wr := ⟨_, rfl⟩
          obtain ⟨gk2, rfl⟩ : ∃ gk2 : Nat, gk2 = gk := ⟨_, rfl⟩
          go_wp2
          go_loopg [5, 7] cnt (fun g v5 v7 wr => ∃ (q : Nat) (Ns : List (List Int)) (An : Option Addr) (cn : Nat), q + g = cnt ∧ v7 = .int .i64 (m.f0.f0 + q) ∧ v5 = .slice An Ns.length cn ∧ Aside0 (Ns = stepM (Ls.take k) m ++ ((upTo m.f0.f0 m.f0.f1).take q).map fun n => pl ++ [n]) ∧ Aside0 (Kd.R kLists 23 wr W1.heap.size (fun _ => True) v5 Ns) ∧ Below W1.heap.size W1 wr)
          case atStart => exact ⟨0, Ns, An, cn, by omega, by simp, rfl, ⟨by rw [HNs.out]; simp⟩, HN, hB2⟩
          case round =>
            clear HNs HN An cn Ns
            obtain ⟨q, Ns, An, cn, hq, rfl, rfl, HNs, HN, hB3⟩ := hrel
            have hq' : q ≤ cnt := by omega
            have HQ := Aside0.mk hq
            clear hq
            have hBw3 : Below w.heap.size w wr := hBr.trans (Below.mono hB3 hBr.size)
            have hk3 := (HBK.out.below hB3).cell 0 rfl
            have hca3 := pw_cell_below hBw3 HCA.out
            have hcb3 := pw_cell_below hBw3 HCB.out
            by_cases hlt3 : q < cnt
            · have hcond : m.f0.f0 + (q : Int) ≤ m.f0.f1 := by have := HC'.out; omega
              have hNl : Ns.length ≤ 625 := by
                have h1 := HNL.out
                have h2 : (stepM (Ls.take (k + 1)) m).length ≤ (stepM Ls m).length := by
                  conv => rhs; rw [← List.take_append_drop (k + 1) Ls, stepM_append, List.length_append]
                  omega
                have h3 : stepM (Ls.take (k + 1)) m = stepM (Ls.take k) m ++ (upTo m.f0.f0 m.f0.f1).map fun n => pl ++ [n] := by
                  rw [List.take_add_one, HPL.out, stepM_append]
                  simp [stepM]
                rw [h3, List.length_append, List.length_map, upTo_length] at h2
                rw [HNs.out, List.length_append, List.length_map, List.length_take, upTo_length]
                omega
              have hcell := pw_cell_below hB3 HCE.out
              have HIR : Aside0 (Kd.C (Kd.int .i64) wr Al pl.length pl) := ⟨Kd.C_below HCR.out hB3⟩
              have hsz1 := hB3.size
              obtain ⟨nv, hnv⟩ : ∃ nv, m.f0.f0 + (q : Int) = nv := ⟨_, rfl⟩
              rw [hnv] at hcond ⊢
              have HNV := Aside0.mk hnv
              obtain ⟨PN, hPN⟩ : ∃ PN, PN = pl ++ [nv] := ⟨_, rfl⟩
              have HPN := Aside0.mk hPN
              have HB3 := Aside0.mk hB3
              clear hnv hPN
              go_wp2_with (first
                | (at_builtin; (refine Kd.R_append_row (Value.int .i64) (0 : Int) (h1 := fun _ => rfl) (w0 := wr) wr.heap.size rfl (.const (.slice none 0 0)) (.tmp 46) 23 3 (.int .i64 0) 8 rfl Tryz.underlying23 info3 rfl (by decide) _ [] pl Al pl.length cl (fun _ => True) rfl rfl (fun _ _ => trivial) (Kd.R_nil _ _ _ _ _) HIR.out (Below.refl _ _) ?_ ?_ ?_); exact Nat.le_refl _; (simp; omega); intro v1 w1 hr1 hb1 hg1 _; rw [List.nil_append] at hr1; obtain ⟨B1, d1, rfl⟩ := Kd.R_slice hr1; have HR1 := Aside0.mk hr1; have HB1 := Aside0.mk hb1; clear hr1 hb1 hg1)
                | (at_builtin; (refine Kd.R_append (Kd.int .i64) (w0 := wr) wr.heap.size rfl (.tmp 47) (.tmp 49) 23 3 (.int .i64 0) 8 rfl Tryz.underlying23 info3 rfl (by decide) (by decide) _ pl nv [.int .i64 nv] (fun _ => True) (fun _ => False) rfl rfl rfl (fun _ h => h.elim) (fun _ _ => trivial) HR1.out HB1.out ?_ ?_ ?_); exact below_size HB1.out; omega; intro v2 w2 hr2 hb2 hg2 _; rw [← HPN.out] at hr2; obtain ⟨B2, d2, rfl⟩ := Kd.R_slice hr2; have HR2 : Aside0 (OwnR w2 wr.heap.size PN (.slice B2 PN.length d2)) := ⟨hr2⟩; have HV2 := Aside0.mk (Kd.R_below HN.out hb2); have HB2 := Aside0.mk (HB3.out.trans (Below.mono hb2 HB3.out.size)); have HM2 := Aside0.mk (kLists_mk (Kd.R_bound (Kd.R_lower HR2.out HB3.out.size))); clear hr2 hb2 hg2)
                | (at_builtin; (refine Kd.R_append kLists (w0 := W1) W1.heap.size rfl (.tmp 42) (.tmp 51) 30 23 (.slice none 0 0) 24 rfl Tryz.underlying30 info23 rfl (show 0 < 1 by decide) (by decide) _ Ns PN _ (fun _ => True) _ rfl ?_ HM2.out ?_ (fun _ _ => trivial) HV2.out HB2.out ?_ ?_ ?_); go_must (rfl); (intro k hk; exact ⟨trivial, ints_ne HV2.out hk⟩); exact below_size HB2.out; omega; intro v3 w3 hr3 hb3 hg3 _; obtain ⟨B3, d3, rfl⟩ := Kd.R_slice hr3; have HR3 := Aside0.mk hr3; clear hr3 hg3))
              go_roundg (gk - 1)
              case measure => have := HQ.out; omega
              case rel =>
                have e9 : (Ns ++ [PN]).length = Ns.length + 1 := by simp
                refine ⟨q + 1, Ns ++ [PN], B3, d3, by have := HQ.out; omega, ?_, by rw [e9], ⟨?_⟩, ⟨by have h9 := HR3.out; rw [e9] at h9; exact h9⟩, hb3⟩
                · have e : wrap64 (nv + 1) = m.f0.f0 + ((q + 1 : Nat) : Int) := by rw [← HNV.out, wr_in (by have := HC'.out; omega) (by have := HC'.out; omega)]; omega
                  first | rw [e] | (rw [← e]) | (simp [← HNV.out]; omega)
                · rw [HNs.out, upTo_take _ _ _ (by have := HC.out; omega), List.map_append, HPN.out, HNV.out]
                  simp
            · obtain rfl : q = cnt := by omega
              have hcond : ¬ m.f0.f0 + (q : Int) ≤ m.f0.f1 := by have := HC'.out; omega
              go_wp2
              go_roundg (gk2 - 1)
              case measure => have := HKK.out; omega
              case rel =>
                refine ⟨k + 1, Ns, _, _, by have := HKK.out; omega, by go_num, rfl, ⟨?_⟩, HN, hB3⟩
                rw [HNs.out, List.take_of_length_le (l := upTo m.f0.f0 m.f0.f1) (by rw [upTo_length]; have := HC.out; omega), List.take_add_one, HPL.out, stepM_append]
                simp [stepM]
        · obtain rfl : k = Ls.length := by omega
          go_wp2
          go_roundg (gk1 - 1)
          case measure => have := HJ.out; omega
          case rel =>
            refine ⟨j + 1, Ns, _, _, by have := HJ.out; omega, by go_num, rfl, ⟨?_⟩, ⟨Kd.R_lower HN.out hBr.size⟩, hBw, ⟨HBK.out.below hB2⟩⟩
            rw [HNs.out, List.take_length, List.take_add_one, HM.out, Option.toList_some, List.foldl_append, ← HLs.out]
            rfl
    · obtain rfl : j = ms.length := by omega
      have HAL : Aside0 (Ls = allL ms) := ⟨by rw [HLs.out, List.take_length]; rfl⟩
      obtain ⟨W4, rfl⟩ : ∃ W4 : World, W4 = wr := ⟨_, rfl⟩
      go_wp2
      go_loopg [8, 9] (Ls.length) (fun k v i wr => ∃ (j : Nat) (Os : List (List Int)), j + k = Ls.length ∧ i = .int .i64 j ∧ Os.length ≤ j ∧ Aside0 (Os = (Ls.take j).filter fun pl => fitB rs pl mv) ∧ Aside0 (Kd.R kLists 23 wr w.heap.size (fun _ => True) v Os) ∧ Aside0 (Above W4.heap.size v) ∧ Aside0 (Below W4.heap.size W4 wr) ∧ Below w.heap.size w wr)
      case atStart => exact ⟨0, [], by omega, rfl, by simp, ⟨by simp⟩, ⟨none_row kLists _ _ _ _⟩, ⟨above_none _⟩, ⟨Below.refl _ _⟩, hBr⟩
      case round =>
        obtain ⟨j, Os, hj, rfl, hos, HOs, HO, HAb, HB4, hBq⟩ := hrel
        have hj' : j ≤ Ls.length := by omega
        have HJ4 := Aside0.mk hj
        clear hj
        have HKq := Aside0.mk (HBK.out.below HB4.out)
        by_cases hlt4 : j < Ls.length
        · obtain ⟨pl, hpl⟩ : ∃ pl, Ls[j]? = some pl := ⟨_, List.getElem?_eq_getElem hlt4⟩
          obtain ⟨g, gc, Al, cl, he, hcell0, hown⟩ := rows_elem HV.out hpl
          injection he with he1 _ he3
          subst he1 he3
          have hokb : okB pl ms = true := by
            have h1 := all_mem ms [[]] [] (fun q hq => by simp at hq; subst hq; rfl) pl (by rw [show ms.foldl stepM [[]] = Ls from HAL.out.symm]; exact List.mem_of_getElem? hpl)
            rwa [List.nil_append] at h1
          have hpll := okB_length hokb
          have hcell := pw_cell_below HB4.out hcell0
          have HCE := Aside0.mk hcell
          have HOW : Aside0 (OwnR wr w.heap.size pl (.slice Al pl.length cl)) := ⟨OwnR.below hown HB4.out⟩
          have HIR : Aside0 (IR wr Al cl pl) := ⟨OwnR.ir HOW.out (by omega)⟩
          have HPL := Aside0.mk hpl
          have HFT : Aside0 (∀ {u : World}, Below wr.heap.size wr u → Calls Tryz.prog 26 #[.agg #[.slice A0 ms.length c0, .slice A1 mv.length c1, .slice A2 rs.length c2], .slice Al pl.length cl] u fun e w' => e = .returned (.bool (fitB rs pl mv)) ∧ Below u.heap.size u w') := ⟨fun {u} hu => by
            have h1 := refFits_calls ((H.out.below hBq).below hu) (HIR.out.below hu) HOK.out (okB_okPl HOK.out hokb) hpll
            rw [hokb, Bool.true_and] at h1
            exact h1⟩
          have hk0 := HKq.out.cell 0 rfl
          have hk1 := HKq.out.cell 1 rfl
          have hk2 := HKq.out.cell 2 rfl
          have QK0 := Aside0.mk hk0
          have QK1 := Aside0.mk hk1
          have QK2 := Aside0.mk hk2
          obtain ⟨Av, cv, rfl⟩ := Kd.R_slice HO.out
          have HSZ := Aside0.mk HB4.out.size
          have hosl : Os.length ≤ 625 := by omega
          have HOSJ := Aside0.mk hos
          clear hpl hcell0 hown hokb hpll hos
          go_upto_region 18 with fail
          rcases hf : fitB rs pl mv with _ | _
          · have HF := Aside0.mk hf
            clear hf
            go_region_held3 (fun w' => w'.cell? ⟨w.heap.size, 0, none⟩ = some (.slice A0 ms.length c0) ∧ w'.cell? ⟨w.heap.size, 1, none⟩ = some (.slice A1 mv.length c1) ∧ w'.cell? ⟨w.heap.size, 2, none⟩ = some (.slice A2 rs.length c2) ∧ w'.cell? ⟨g, j, none⟩ = some (.slice Al pl.length cl)) (first | go_keep | (exact ⟨pw_cell_below HB5.out QK0.out, pw_cell_below HB5.out QK1.out, pw_cell_below HB5.out QK2.out, pw_cell_below HB5.out HCE.out⟩)) (first | (go_at_call 26; (with_reducible refine (HFT.out (below_drew1 (Below.refl _ _))).mono ?_); rintro e w5 ⟨rfl, hb5⟩; rw [HF.out]; have HB5 : Aside0 (Below wr.heap.size wr w5) := ⟨(below_drew1 (Below.refl _ _)).trans hb5⟩; clear hb5) | fail)
            go_wp2
            go_roundg (gk - 1)
            case measure => have := HJ4.out; omega
            case rel =>
              refine ⟨j + 1, Os, by have := HJ4.out; omega, by go_num, by have := HOSJ.out; omega, ⟨?_⟩, ⟨Kd.R_below HO.out HB5.out⟩, HAb, ⟨HB4.out.trans (Below.mono HB5.out HB4.out.size)⟩, hBq.trans (Below.mono HB5.out hBq.size)⟩
              rw [List.take_add_one, HPL.out, List.filter_append, ← HOs.out]
              simp [HF.out]
          · have HF := Aside0.mk hf
            clear hf
            go_region_held3 (fun w' => w'.cell? ⟨w.heap.size, 0, none⟩ = some (.slice A0 ms.length c0) ∧ w'.cell? ⟨w.heap.size, 1, none⟩ = some (.slice A1 mv.length c1) ∧ w'.cell? ⟨w.heap.size, 2, none⟩ = some (.slice A2 rs.length c2) ∧ w'.cell? ⟨g, j, none⟩ = some (.slice Al pl.length cl)) (first | go_keep | (exact ⟨pw_cell_below HB5.out QK0.out, pw_cell_below HB5.out QK1.out, pw_cell_below HB5.out QK2.out, pw_cell_below HB5.out HCE.out⟩)) (first | (go_at_call 26; (with_reducible refine (HFT.out (below_drew1 (Below.refl _ _))).mono ?_); rintro e w5 ⟨rfl, hb5⟩; rw [HF.out]; have HB5 : Aside0 (Below wr.heap.size wr w5) := ⟨(below_drew1 (Below.refl _ _)).trans hb5⟩; clear hb5) | fail)
            have hc5 := pw_cell_below HB5.out HCE.out
            have HO5 := Aside0.mk (Kd.R_below HO.out HB5.out)
            have HM5 := Aside0.mk (kLists_mk (Kd.R_bound (OwnR.below HOW.out HB5.out)))
            have HBw5 := Aside0.mk (hBq.trans (Below.mono HB5.out hBq.size))
            have HB45 := Aside0.mk (HB4.out.trans (Below.mono HB5.out HB4.out.size))
            go_wp2_with (at_builtin; go_must (refine Kd.R_append kLists (w0 := w) w.heap.size rfl (.tmp 66) (.tmp 71) 30 23 (.slice none 0 0) 24 rfl Tryz.underlying30 info23 rfl (show 0 < 1 by decide) (by decide) _ Os pl _ (fun _ => True) _ rfl ?_ HM5.out ?_ (fun _ _ => trivial) HO5.out HBw5.out ?_ ?_ ?_); go_must (rfl); go_must ((intro k hk; exact ⟨trivial, ints_ne HO5.out hk⟩)); go_must (exact below_size HBw5.out); go_must (omega); go_must (intro v6 w6 hr6 hb6 hg6 ha6; have HR6 := Aside0.mk hr6; have HG6 := Aside0.mk hg6; have HA6 := Aside0.mk ha6; clear hr6 hg6 ha6))
            go_roundg (gk - 1)
            case measure => have := HJ4.out; omega
            case rel =>
              refine ⟨j + 1, Os ++ [pl], by have := HJ4.out; omega, by go_num, by rw [List.length_append]; have := HOSJ.out; simp; omega, ⟨?_⟩, HR6, ⟨HAb.out.next HB45.out.size HA6.out⟩, ⟨HAb.out.below HB45.out HB45.out.size HG6.out⟩, hb6⟩
              rw [List.take_add_one, HPL.out, List.filter_append, ← HOs.out]
              simp [HF.out]
        · obtain rfl : j = Ls.length := by omega
          have HX : Aside0 (Os = (truthsL ms mv rs).map (·.f0)) := ⟨by rw [truthsL_plays HOK.out, HOs.out, List.take_length, HAL.out]⟩
          go_wp2
          go_ret
          exact ⟨⟨_, rfl, by rw [← HX.out]; exact HO.out⟩, hBq⟩
end
end Go.Proofs.YtaojkmalpihmbaaGreatDoor.M

namespace Go.Proofs.YtaojkmalpihmbaaGreatDoor.M
open Go.RowKit Go.Proofs.YtaojkmalpihmbaaGreatDoorW.PrintWords Go.Proofs.YtaojkmalpihmbaaGreatDoorW.PrintLast Go.Proofs.YtaojkmalpihmbaaGreatDoorW.PrintMore Go.Proofs.YtaojkmalpihmbaaGreatDoor.Q
set_option linter.unusedVariables false
set_option linter.unusedSimpArgs false

/-! The document's hulls. -/
attribute [local go_sem] max2_int min2_int
def hullS (i : Nat) : List (List Int) → S44
  | [] => ⟨0, 0⟩
  | l :: L => L.foldl (fun s y => widerS s (one (y.getD i 0)) false) (one (l.getD i 0))
theorem hull_over (i : Nat) (g : S89 → List Int) (T : List S89) : hullS i (T.map g) = overL (fun x => one ((g x).getD i 0)) T := by
  cases T with
  | nil => rfl
  | cons x T => simp only [List.map_cons, hullS, overL, List.foldl_map]
theorem hull_take {i j : Nat} {L : List (List Int)} {l : List Int} (h : L[j]? = some l) (hj : 0 < j) : hullS i (L.take (j + 1)) = widerS (hullS i (L.take j)) (one (l.getD i 0)) false := by
  obtain ⟨k, rfl⟩ : ∃ k, j = k + 1 := ⟨j - 1, by omega⟩
  cases L with
  | nil => simp at h
  | cons a L =>
    rw [List.take_add_one, h]
    simp only [List.take_succ_cons, Option.toList_some, List.cons_append, hullS, List.foldl_append, List.foldl_cons, List.foldl_nil]
theorem mn_if (a b : Int) : (if b < a then b else a) = mn a b := rfl
theorem mx_if (a b : Int) : (if a < b then b else a) = mx a b := rfl
theorem below_setN {n : Nat} {w W : World} {b j : Nat} {v : Value} (h : Below n w W) (hb : n ≤ b) : Below n w (W.setCell ⟨b, j, none⟩ v) :=
  ⟨h.os, h.tape, h.output, by simpa using h.size, fun k hk => (Below.heap_setCell W ⟨b, j, none⟩ v k (by show k ≠ b; omega)).trans (h.block k hk)⟩
section
set_option maxHeartbeats 40000000 in
set_option maxRecDepth 100000 in
theorem refHulls_calls {w : World} {A : Option Addr} {c : Nat} {L : List (List Int)} (hL : Kd.C kLists w A L.length L) (hc : L.length ≤ c) (hl : L.length ≤ 1000) (h0 : 0 < L.length) {n : Nat} (hn : ∀ l ∈ L, l.length = n) (hn9 : n ≤ 1000) :
    Calls Tryz.prog 54 #[.slice A L.length c] w fun e w' =>
      (∃ v, e = .returned v ∧ Kd.R k44 44 w' w.heap.size (fun _ => True) v ((List.range n).map fun i => hullS i L)) ∧ Below w.heap.size w w' := by
  have HL := Aside0.mk hL
  have HN := Aside0.mk hn
  obtain ⟨l0, hl0⟩ : ∃ l, L[0]? = some l := ⟨_, List.getElem?_eq_getElem h0⟩
  obtain ⟨ad, Q0, d0, rfl, hcz, hclz, hcrz⟩ := at_row hL hl0 h0
  have hl0n := hn l0 (List.mem_of_getElem? hl0)
  rw [hl0n] at hcz hcrz
  rw [Addr.add_zero'] at hcz
  have HCZ := Aside0.mk hcz
  have HCRZ := Aside0.mk hcrz
  have HL0 := Aside0.mk hl0
  clear hL hn hl0 hcz hclz hcrz hl0n
  have hzi : (0 : Int) < (L.length : Int) := by omega
  go_enter Tryz.func54, Tryz.ntmps54
  go_wp2
  go_loopg [3, 4, 5, 6] (n) (fun k v3 i v5 v6 wr => ∃ (j : Nat) (Os : List S44), j + k = n ∧ i = .int .i64 j ∧ Os.length = j ∧ Aside0 (Os = (List.range j).map fun i => hullS i L) ∧ Aside0 (Kd.R k44 44 wr w.heap.size (fun _ => True) v3 Os) ∧ Below w.heap.size w wr)
  case atStart => exact ⟨0, [], by omega, rfl, rfl, ⟨rfl⟩, ⟨none_row _ _ _ _ _⟩, Below.refl _ _⟩
  case round =>
    obtain ⟨j, Os, hj, rfl, hos, HOs, HV, hBr⟩ := hrel
    have hj' : j ≤ n := by omega
    have HJ := Aside0.mk hj
    obtain ⟨Av, cv, rfl⟩ := Kd.R_slice HV.out
    have HO9 := Aside0.mk hos
    have hosl : Os.length ≤ 1000 := by omega
    have hcz := pw_cell_below hBr HCZ.out
    clear hj hos
    by_cases hlt : j < n
    · obtain ⟨x, hx⟩ : ∃ x, l0[j]? = some x := ⟨_, List.getElem?_eq_getElem (by rw [HN.out l0 (List.mem_of_getElem? HL0.out)]; exact hlt)⟩
      obtain ⟨b0, rfl, hcx0⟩ := at_int HCRZ.out hx hlt
      have hcx := pw_cell_below hBr hcx0
      have HX := Aside0.mk hx
      have HCX := Aside0.mk hcx
      have HCY := Aside0.mk hcz
      have hlt' : (j : Int) < (n : Int) := by omega
      clear hx hcx0
      go_upto_region 5 with fail
      go_cut [5] (fun s wx => ∃ b, s = .pointer (some ⟨b, 0, none⟩) ∧ Aside0 (Blk wx b #[.int .i64 x, .int .i64 x] 44) ∧ wr.heap.size ≤ b ∧ Aside0 (Below wr.heap.size wr wx))
      case first =>
        go_region_held3 (fun w' => w'.cell? ad = some (.slice (some b0) n d0) ∧ w'.cell? (b0.add j) = some (.int .i64 x)) (first | go_keep) (fail)
        all_goals (go_wp2_with fail; go_meet)
        all_goals exact ⟨_, rfl, ⟨(Blk.new wr #[.int .i64 x, .int .i64 x] 44).drew⟩, Nat.le_refl _, ⟨below_drew1 (below_alloc (Below.refl _ _) _)⟩⟩
      case rest =>
        obtain ⟨b, rfl, HKb, hwb, HBx⟩ := hcut
        obtain ⟨wx, rfl⟩ : ∃ wx : World, wx = wc := ⟨_, rfl⟩
        have hS1 : hullS j (L.take 1) = ⟨x, x⟩ := by
          rw [List.take_one, List.head?_eq_getElem?, HL0.out]
          simp [hullS, one, List.getD_eq_getElem?_getD, HX.out]
        have HKs : Aside0 (Blk wx b #[.int .i64 (hullS j (L.take 1)).f0, .int .i64 (hullS j (L.take 1)).f1] 44) := ⟨by rw [hS1]; exact HKb.out⟩
        have HV2 := Aside0.mk (Kd.R_below HV.out HBx.out)
        have HB2 := Aside0.mk (hBr.trans (Below.mono HBx.out hBr.size))
        clear hS1
        obtain ⟨gk1, rfl⟩ : ∃ gk1 : Nat, gk1 = gk := ⟨_, rfl⟩
        obtain ⟨W1, rfl⟩ : ∃ W1 : World, W1 = wr := ⟨_, rfl⟩
        go_wp2
        go_loopg [6] (L.length) (fun g v6 wr => ∃ (k : Nat), k + g = L.length + 1 ∧ k ≤ L.length ∧ 1 ≤ k ∧ v6 = .int .i64 k ∧ Aside0 (Blk wr b #[.int .i64 (hullS j (L.take k)).f0, .int .i64 (hullS j (L.take k)).f1] 44) ∧ Below W1.heap.size W1 wr)
        case atStart => exact ⟨1, by omega, by omega, Nat.le_refl _, rfl, HKs, HBx.out⟩
        case round =>
          obtain ⟨k, hk, hk', hk1, rfl, HKk, hB3⟩ := hrel
          have HKJ := Aside0.mk hk
          clear hk
          have hBw : Below w.heap.size w wr := hBr.trans (Below.mono hB3 hBr.size)
          by_cases hlt2 : k < L.length
          · obtain ⟨l, hl9⟩ : ∃ l, L[k]? = some l := ⟨_, List.getElem?_eq_getElem hlt2⟩
            obtain ⟨ad', Ql, dl, he, hcl0, hcll, hclr⟩ := at_row HL.out hl9 hlt2
            cases he
            have hln := HN.out l (List.mem_of_getElem? hl9)
            rw [hln] at hcl0 hclr
            obtain ⟨y, hy⟩ : ∃ y, l[j]? = some y := ⟨_, List.getElem?_eq_getElem (by rw [hln]; exact hlt)⟩
            obtain ⟨bl, rfl, hcy0⟩ := at_int hclr hy hlt
            have hcl := pw_cell_below hBw hcl0
            have hcy := pw_cell_below hBw hcy0
            have hht := hull_take hl9 hk1 (i := j)
            rw [show l.getD j 0 = y from by rw [List.getD_eq_getElem?_getD, hy]; rfl] at hht
            obtain ⟨s, hs⟩ : ∃ s, hullS j (L.take k) = s := ⟨_, rfl⟩
            rw [hs] at HKk hht
            have HHT := Aside0.mk hht
            have hkb0 := HKk.out.drew.cell 0 rfl
            have hkb1 := HKk.out.drew.cell 1 rfl
            have hkf0 := HKk.out.drew.free 0
            have hkf1 := HKk.out.drew.free 1
            have hclD : wr.drew.cell? (ad.add k) = some (.slice (some bl) n dl) := hcl
            have hcyD : wr.drew.cell? (bl.add j) = some (.int .i64 y) := hcy
            have hki : (k : Int) < (L.length : Int) := by omega
            clear hl9 hcl0 hcll hclr hln hy hcy0 hht hs hcl hcy
            go_upto_region 9 with fail
            go_still_tail 21, (by kernel_rfl)
            change wpList _ _ _ _ _ wr.drew
            have HKd := Aside0.mk HKk.out.drew
            have HB3d := Aside0.mk (below_drew1 hB3)
            obtain ⟨w2, hw2⟩ : ∃ w2, wr.drew = w2 := ⟨_, rfl⟩
            rw [hw2] at hkb0 hkb1 hkf0 hkf1 hclD hcyD HKd HB3d ⊢
            clear hw2
            have hklt := HKd.out.lt
            go_wp2
            go_roundg (gk - 1)
            case measure => have := HKJ.out; omega
            case rel =>
              refine ⟨k + 1, by have := HKJ.out; omega, by omega, by omega, by go_num, ⟨?_⟩, below_setN (below_setN HB3d.out hwb) hwb⟩
              rw [HHT.out]
              rw [show (widerS s (one y) false).f0 = min s.f0 y from mn_eq _ _, show (widerS s (one y) false).f1 = max s.f1 y from mx_eq _ _]
              exact (HKd.out.put 0 (.int .i64 (min s.f0 y)) rfl).put 1 (.int .i64 (max s.f1 y)) rfl
          · obtain rfl : k = L.length := by omega
            rw [List.take_length] at HKk
            obtain ⟨s, hs⟩ : ∃ s, hullS j L = s := ⟨_, rfl⟩
            rw [hs] at HKk
            have HS := Aside0.mk hs
            have hkb0 := HKk.out.cell 0 rfl
            have hkb1 := HKk.out.cell 1 rfl
            have HV3 := Aside0.mk (Kd.R_below HV.out hB3)
            have HBW := Aside0.mk hBw
            clear hs
            go_wp2_with (at_builtin; go_must (refine Kd.R_append k44 (w0 := w) w.heap.size rfl (.tmp 55) (.tmp 57) 34 44 (.agg #[.int .i64 0, .int .i64 0]) 16 rfl Tryz.underlying34 info44 rfl (by decide) (by decide) _ Os s _ (fun _ => True) (fun _ => False) rfl rfl (k44_mkM _ _ _ _) (fun _ h => h.elim) (fun _ _ => trivial) HV3.out HBW.out ?_ ?_ ?_); go_must (exact below_size HBW.out); go_must (omega); go_must (intro v1 w3 hr1 hb1 hg1 ha1; have HR5 := Aside0.mk hr1; clear hr1 hg1 ha1))
            go_roundg (gk1 - 1)
            case measure => have := HJ.out; omega
            case rel =>
              refine ⟨j + 1, Os ++ [s], by have := HJ.out; omega, by go_num, by rw [List.length_append, HO9.out]; rfl, ⟨?_⟩, HR5, hb1⟩
              rw [HOs.out, List.range_succ, List.map_append, ← HS.out]
              rfl
    · obtain rfl : j = n := by omega
      go_wp2
      go_ret
      exact ⟨⟨_, rfl, by rw [← HOs.out]; exact HV.out⟩, hBr⟩
end
end Go.Proofs.YtaojkmalpihmbaaGreatDoor.M

namespace Go.Proofs.YtaojkmalpihmbaaGreatDoor.M
open Go.RowKit Go.Proofs.YtaojkmalpihmbaaGreatDoorW.PrintWords Go.Proofs.YtaojkmalpihmbaaGreatDoorW.PrintLast Go.Proofs.YtaojkmalpihmbaaGreatDoorW.PrintMore Go.Proofs.YtaojkmalpihmbaaGreatDoor.Q
set_option linter.unusedVariables false
set_option linter.unusedSimpArgs false

/-! The laws' asked. -/
section
variable {A0 A1 A2 : Option Addr} {c0 c1 c2 : Nat} {ms : List S64} {mv : List Int} {rs : List S66}
def playRows (ms : List S64) (mv : List Int) (rs : List S66) : List (List Int) := (truthsL ms mv rs).map (·.f0)
theorem lawAsked_no {w : World} (h : PR w A0 c0 ms A1 c1 mv A2 c2 rs) (fine : Bool) (hn : askE ms mv rs fine ≠ 0) :
    Calls Tryz.prog 19 #[.agg #[.slice A0 ms.length c0, .slice A1 mv.length c1, .slice A2 rs.length c2], .bool fine] w fun e w' =>
      e = .returned (.tuple #[.slice none 0 0, .int .i64 (askE ms mv rs fine)]) ∧ Below w.heap.size w w' := by
  have H := Aside0.mk h
  have HN := Aside0.mk hn
  have HB0 := Aside0.mk (below_alloc (Below.refl w.heap.size w) (.cells #[.slice A0 ms.length c0, .slice A1 mv.length c1, .slice A2 rs.length c2] 26))
  have HK0 := Aside0.mk (Blk.new w #[.slice A0 ms.length c0, .slice A1 mv.length c1, .slice A2 rs.length c2] 26)
  clear h hn
  rcases hp : pieceB ms mv rs with _ | _
  · have HP := Aside0.mk hp
    have HE : Aside0 (askE ms mv rs fine = 2) := ⟨by simp [askE, hp]⟩
    clear hp
    rw [HE.out]
    go_enter Tryz.func19, Tryz.ntmps19
    go_wp2_with (go_at_call 11; (with_reducible refine (piece_at (H.out.below HB0.out)).mono ?_); rintro e w1 ⟨rfl, hb1⟩; rw [HP.out]; have HB1 := Aside0.mk (bthen HB0.out hb1); clear hb1)
    go_ret2
    exact ⟨rfl, HB1.out⟩
  · rcases fine with _ | _
    · have HP := Aside0.mk hp
      have HE : Aside0 (askE ms mv rs false = 2) := ⟨by simp [askE, hp]⟩
      clear hp
      rw [HE.out]
      go_enter Tryz.func19, Tryz.ntmps19
      go_wp2_with (go_at_call 11; (with_reducible refine (piece_at (H.out.below HB0.out)).mono ?_); rintro e w1 ⟨rfl, hb1⟩; rw [HP.out]; have HB1 := Aside0.mk (bthen HB0.out hb1); clear hb1)
      go_ret2
      exact ⟨rfl, HB1.out⟩
    · have HP := Aside0.mk hp
      have ht : truthsL ms mv rs = [] := by
        have := HN.out
        unfold askE at this
        rw [hp] at this
        simp only [Bool.and_self, if_true] at this
        rcases hq : truthsL ms mv rs with _ | ⟨x, T⟩
        · rfl
        · rw [hq, if_neg (by simp)] at this
          exact absurd rfl this
      have HE : Aside0 (askE ms mv rs true = 7) := ⟨by simp [askE, hp, ht]⟩
      have HT : Aside0 (∀ {u : World}, Below w.heap.size w u → Calls Tryz.prog 53 #[.agg #[.slice A0 ms.length c0, .slice A1 mv.length c1, .slice A2 rs.length c2]] u fun e w' => (∃ A' c', e = .returned (.slice A' 0 c')) ∧ Below u.heap.size u w') := ⟨fun {u} hu => by
        refine (refTruths_calls (H.out.below hu) hp).mono ?_
        rintro e w' ⟨⟨v, rfl, hr⟩, hb⟩
        rw [ht] at hr
        obtain ⟨A', c', rfl⟩ := Kd.R_slice hr
        exact ⟨⟨A', c', rfl⟩, hb⟩⟩
      clear hp ht
      rw [HE.out]
      go_enter Tryz.func19, Tryz.ntmps19
      go_wp2_with (first
        | (go_at_call 11; (with_reducible refine (piece_at (H.out.below HB0.out)).mono ?_); rintro e w1 ⟨rfl, hb1⟩; rw [HP.out]; have HB1 := Aside0.mk (bthen HB0.out hb1); have HK1 := Aside0.mk (HK0.out.below hb1); have hk0 := HK1.out.cell 0 rfl; have hk1 := HK1.out.cell 1 rfl; have hk2 := HK1.out.cell 2 rfl; clear hb1)
        | (go_at_call 53; (with_reducible refine (HT.out HB1.out).mono ?_); rintro e w2 ⟨⟨A', c', rfl⟩, hb2⟩; have HB2 := Aside0.mk (bthen HB1.out hb2); clear hb2))
      go_ret2
      exact ⟨rfl, HB2.out⟩
theorem lawAsked_ok {w : World} (h : PR w A0 c0 ms A1 c1 mv A2 c2 rs) (fine : Bool) (hn : askE ms mv rs fine = 0) :
    Calls Tryz.prog 19 #[.agg #[.slice A0 ms.length c0, .slice A1 mv.length c1, .slice A2 rs.length c2], .bool fine] w fun e w' =>
      (∃ v, e = .returned (.tuple #[v, .int .i64 0]) ∧ Kd.R kLists 23 w' w.heap.size (fun _ => True) v (playRows ms mv rs)) ∧ Below w.heap.size w w' := by
  obtain ⟨hp, rfl⟩ := askE_piece hn
  have hne : truthsL ms mv rs ≠ [] := fun e => by
    unfold askE at hn
    rw [hp, e] at hn
    simp at hn
  have H := Aside0.mk h
  have HP := Aside0.mk hp
  have HB0 := Aside0.mk (below_alloc (Below.refl w.heap.size w) (.cells #[.slice A0 ms.length c0, .slice A1 mv.length c1, .slice A2 rs.length c2] 26))
  have HK0 := Aside0.mk (Blk.new w #[.slice A0 ms.length c0, .slice A1 mv.length c1, .slice A2 rs.length c2] 26)
  obtain ⟨n, hl⟩ : ∃ n : Nat, (playRows ms mv rs).length = n + 1 := ⟨(playRows ms mv rs).length - 1, by
    have : 0 < (playRows ms mv rs).length := by
      unfold playRows
      rw [List.length_map]
      exact List.length_pos_iff.2 hne
    omega⟩
  have HL := Aside0.mk hl
  have HT : Aside0 (∀ {u : World}, Below w.heap.size w u → Calls Tryz.prog 53 #[.agg #[.slice A0 ms.length c0, .slice A1 mv.length c1, .slice A2 rs.length c2]] u fun e w' => (∃ A' c', e = .returned (.slice A' (n + 1) c') ∧ Kd.R kLists 23 w' u.heap.size (fun _ => True) (.slice A' (n + 1) c') (playRows ms mv rs)) ∧ Below u.heap.size u w') := ⟨fun {u} hu => by
    refine (refTruths_calls (h.below hu) hp).mono ?_
    rintro e w' ⟨⟨v, rfl, hr⟩, hb⟩
    obtain ⟨A', c', rfl⟩ := Kd.R_slice hr
    have e9 : ((truthsL ms mv rs).map (·.f0)).length = n + 1 := hl
    rw [e9] at hr ⊢
    exact ⟨⟨A', c', rfl, hr⟩, hb⟩⟩
  have hz : (((n : Int) + 1) == 0) = false := by simp; omega
  clear h hp hn hne hl
  go_enter Tryz.func19, Tryz.ntmps19
  go_wp2_with (first
    | (go_at_call 11; (with_reducible refine (piece_at (H.out.below HB0.out)).mono ?_); rintro e w1 ⟨rfl, hb1⟩; rw [HP.out]; have HB1 := Aside0.mk (bthen HB0.out hb1); have HK1 := Aside0.mk (HK0.out.below hb1); have hk0 := HK1.out.cell 0 rfl; have hk1 := HK1.out.cell 1 rfl; have hk2 := HK1.out.cell 2 rfl; clear hb1)
    | (go_at_call 53; (with_reducible refine (HT.out HB1.out).mono ?_); rintro e w2 ⟨⟨A', c', rfl, hr2⟩, hb2⟩; have HR2 := Aside0.mk (Kd.R_lower (base' := w.heap.size) hr2 HB1.out.size); have HB2 := Aside0.mk (bthen HB1.out hb2); clear hb2 hr2))
  go_ret2
  exact ⟨⟨_, rfl, HR2.out⟩, HB2.out⟩
end
end Go.Proofs.YtaojkmalpihmbaaGreatDoor.M

