import Derived.Test.YtaojkmalpihmbaaGreatDoorMRA
import Derived.Test.YtaojkmalpihmbaaGreatDoorB16
import Derived.Test.YtaojkmalpihmbaaGreatDoorB22
import Derived.Test.YtaojkmalpihmbaaGreatDoorB12
namespace Go.Proofs.YtaojkmalpihmbaaGreatDoor.M
open Go.RowKit Go.Proofs.YtaojkmalpihmbaaGreatDoorW.PrintWords Go.Proofs.YtaojkmalpihmbaaGreatDoorW.PrintLast Go.Proofs.YtaojkmalpihmbaaGreatDoorW.PrintMore Go.Proofs.YtaojkmalpihmbaaGreatDoor.Q
set_option linter.unusedVariables false
set_option linter.unusedSimpArgs false

/-! The document's Run. -/
theorem begun_begC {pl : List Int} (ho : okPl pl) (hl : pl.length ≤ 100) : begunL pl = begC 0 pl := begun_eq pl 0 ho (by omega) (by omega)
/-- A list that was made, after another block has grown. -/
theorem OwnR.grown {W w1 : World} {base : Nat} {l : List Int} {v u : Value} (h : OwnR W base l v) (hg : W.grownBy w1 u.ownBlock) (hu : ∀ (k : Nat) (cells : Array Value), u.ownBlock = some k → W.heap[k]? ≠ some (.cells cells 3 (0, 0))) : OwnR w1 base l v :=
  OwnR.move h fun k cells _ hk => hg.block k (Array.getElem?_eq_some_iff.1 hk).1 (fun e => hu k cells e.symm hk)
theorem rows_ne {w : World} {base : Nat} {v : Value} {l : List (List Int)} (h : Kd.R kLists 23 w base (fun _ => True) v l) : ∀ (k : Nat) (cells : Array Value), v.ownBlock = some k → w.heap[k]? ≠ some (.cells cells 3 (0, 0)) := by
  intro k cells e hk
  obtain ⟨inner, ho⟩ := Kd.R_own h
  obtain ⟨cells', hc⟩ := own_typed ho k e
  rw [hk] at hc
  cases hc
theorem blk_grown {W w1 : World} {base k : Nat} {L : List Int} {v : Value} {cs : Array Value} {q : Nat} (hk : Blk W k cs q) (h : OwnR W base L v) (hg : W.grownBy w1 v.ownBlock) (hq : 3 ≠ q) : Blk w1 k cs q := hk.grown hg (Kd.R_ne h hk hq)
theorem ints_ne {w : World} {base : Nat} {v : Value} {l : List (List Int)} (h : Kd.R kLists 23 w base (fun _ => True) v l) {k : Nat} (hk : (fun k => True ∧ base ≤ k ∧ k < w.heap.size ∧ ∃ q, q ∈ 3 :: (Kd.int .i64).E ∧ ∃ cells, w.heap[k]? = some (.cells cells q (0, 0))) k) : some k ≠ v.ownBlock := by
  obtain ⟨_, _, _, q, hq, cells, hc⟩ := hk
  have hq' : q = 3 := by simpa [Kd.E, Kd.int, Kd.scalar] using hq
  subst hq'
  exact fun e => rows_ne h k cells e.symm hc
theorem one_list {w : World} {base : Nat} {l : List Int} {v : Value} (h : OwnR w base l v) (hb : base ≤ w.heap.size) :
    Kd.R kLists 23 (w.alloc (.cells #[v] 23)) base (fun _ => True) (.slice (some ⟨w.heap.size, 0, none⟩) 1 1) [l] := by
  refine ⟨fun _ _ => trivial, [v], ⟨rfl, .inr ⟨w.heap.size, 1, #[v], rfl, hb, heap_alloc_new w _, by simp, by simp [maxLen], by rfl, rfl⟩⟩, rfl, fun j p hj => ?_⟩
  have hj0 : j = 0 := by have := (List.getElem?_eq_some_iff.1 hj).1; simp at this; exact this
  subst hj0
  simp at hj
  subst hj
  refine kLists_mk ?_
  refine Kd.R_mono (Kd.R_below (Kd.R_bound h) (below_alloc (Below.refl _ _) _)) (fun k hk => ⟨trivial, ?_⟩)
  intro e
  simp [Value.ownBlock] at e
  have := hk.2.2.1
  omega
/-- How far Run has come: the row of the arbors now, all rows till now. -/
def Ran (pl mv : List Int) (now : List Int) (Os : List (List Int)) (j : Nat) : Prop := Os.length = j + 1 ∧ (∃ K, Inv pl K now ∧ K = 300 * (j : Int)) ∧ Os ++ (runCGo pl now (mv.drop j)).tail = runC pl mv
theorem Ran.start {pl mv : List Int} (ho : okPl pl) : Ran pl mv (begC 0 pl) [begC 0 pl] 0 :=
  ⟨rfl, ⟨0, beg_inv ho, by simp⟩, by cases mv <;> simp [runC, runCGo]⟩
theorem Ran.step {pl mv now : List Int} {Os : List (List Int)} {j : Nat} {m : Int} (h : Ran pl mv now Os j) (ho : okPl pl) (hm : mv[j]? = some m) (h1 : -300 ≤ m) (h2 : m ≤ 300) : Ran pl mv (movedC m pl now) (Os ++ [movedC m pl now]) (j + 1) := by
  obtain ⟨hl, ⟨K, hi, hK⟩, he⟩ := h
  obtain ⟨hj, rfl⟩ := List.getElem?_eq_some_iff.1 hm
  refine ⟨by simp [hl], ⟨K + 300, moved_inv ho hi h1 h2, by omega⟩, ?_⟩
  rw [List.drop_eq_getElem_cons hj] at he
  rw [← he]
  simp only [runCGo, List.tail_cons, List.append_assoc, List.singleton_append]
  congr 1
  cases mv.drop (j + 1) <;> simp [runCGo]
theorem Ran.all {pl mv now : List Int} {Os : List (List Int)} (h : Ran pl mv now Os mv.length) : Os = runC pl mv := by
  obtain ⟨_, _, he⟩ := h
  rw [List.drop_eq_nil_of_le (Nat.le_refl _)] at he
  simpa [runCGo] using he
section
variable {A0 A1 A2 : Option Addr} {c0 c1 c2 : Nat} {ms : List S64} {mv : List Int} {rs : List S66}
set_option maxHeartbeats 4000000 in
set_option maxRecDepth 100000 in
theorem refRun_calls {w : World} (h : PR w A0 c0 ms A1 c1 mv A2 c2 rs) {A : Option Addr} {c : Nat} {pl : List Int} (hp : IR w A c pl) (ho : okPl pl) (hm : okMv mv) (hl : pl.length ≤ 100) (hv : mv.length ≤ 100) :
    Calls Tryz.prog 60 #[.agg #[.slice A0 ms.length c0, .slice A1 mv.length c1, .slice A2 rs.length c2], .slice A pl.length c] w fun e w' =>
      (∃ v, e = .returned v ∧ Kd.R kLists 23 w' w.heap.size (fun _ => True) v (runC pl mv)) ∧ Below w.heap.size w w' := by
  have H := Aside0.mk h
  have HP := Aside0.mk hp
  have HOP := Aside0.mk ho
  have HOM := Aside0.mk hm
  have hb0 := below_alloc (Below.refl w.heap.size w) (.cells #[.slice A0 ms.length c0, .slice A1 mv.length c1, .slice A2 rs.length c2] 26)
  have HK0 := Aside0.mk ((Blk.new w #[.slice A0 ms.length c0, .slice A1 mv.length c1, .slice A2 rs.length c2] 26).alloc (.cells #[.int .i64 0] 3))
  have HO0 := Aside0.mk (one_own (w.alloc (.cells #[.slice A0 ms.length c0, .slice A1 mv.length c1, .slice A2 rs.length c2] 26)) 0)
  have HB0 := Aside0.mk (below_alloc hb0 (.cells #[.int .i64 0] 3))
  clear h hp ho hm hb0
  go_enter Tryz.func60, Tryz.ntmps60
  go_wp2
  go_loopg [5, 6] (pl.length) (fun k v i wr => ∃ (j : Nat) (L : List Int), j + k = pl.length ∧ i = .int .i64 j ∧ Aside0 (OwnR wr w.heap.size L v) ∧ Aside0 (Begun pl L j) ∧ Below w.heap.size w wr ∧ Aside0 (Blk wr w.heap.size #[.slice A0 ms.length c0, .slice A1 mv.length c1, .slice A2 rs.length c2] 26))
  case atStart => exact ⟨0, [0], by omega, rfl, ⟨by have h := HO0.out; rw [World.size_alloc] at h; exact Kd.R_lower h (by omega)⟩, ⟨Begun.start pl⟩, HB0.out, HK0⟩
  case round =>
    obtain ⟨j, L, hj, rfl, HOL, HD, hBr, HBK⟩ := hrel
    have hj' : j ≤ pl.length := by omega
    have HJ := Aside0.mk hj
    clear hj
    obtain ⟨g, cap, rfl, hbg, hgl⟩ := OwnR.form HOL.out (by have := HD.out.1; omega)
    by_cases hlt : j < pl.length
    · have hlL : j < L.length := by have := HD.out.1; omega
      have hl1 : L.length ≤ 1001 := by have := HD.out.1; omega
      obtain ⟨nn, hnn⟩ : ∃ nn, pl[j]? = some nn := ⟨_, List.getElem?_eq_getElem hlt⟩
      obtain ⟨p, hp⟩ : ∃ p, L[j]? = some p := ⟨_, List.getElem?_eq_getElem hlL⟩
      obtain ⟨ad, rfl, hcn0⟩ := at_int HP.out.r hnn hlt
      have HCN0 := Aside0.mk hcn0
      clear hcn0
      have hcn := pw_cell_below hBr HCN0.out
      have hcp := OwnR.cell HOL.out rfl hp
      have HNN := Aside0.mk hnn
      have HPP := Aside0.mk hp
      clear hnn hp
      have hbase := hBr.size
      go_upto_region 5 with fail
      have hww : IntKind.i64.wrap (p - nn) = wrap64 (p - nn) := i64_w _
      have hadb := World.block_lt_of_cell? _ _ hcn
      go_region_law (first | (refine Kd.R_append_rows_step (Kd.int .i64) (Rr := fun x cs => cs = [Value.int .i64 x]) (w0 := w) w.heap.size (by rfl) (.tmp 16) (.tmp 26) 23 3 (.int .i64 0) 8 (by rfl) Tryz.underlying23 info3 rfl (by decide) (by decide) (.slice (some ⟨g, 0, none⟩) L.length cap) L [wrap64 (p - nn)] _ 1 1 (fun _ => True) (fun _ => False) (by rfl) (by rfl) ?HO ?HR (fun _ _ h => h) (fun _ h => h.elim) (fun _ _ => trivial) ?HB ?hb ?hl ?_; (case HO => first | exact OwnR.below HOL.out (below_drew1 (below_alloc (Below.refl _ _) _)) | exact OwnR.below HOL.out (below_alloc (below_drew1 (Below.refl _ _)) _)); (case HR => first | exact hww ▸ Kd.C_drew (one_int _ _) | exact hww ▸ one_int _ _ | (rw [hww]; first | exact Kd.C_drew (one_int _ _) | exact one_int _ _)); (case HB => first | exact below_drew1 (below_alloc hBr _) | exact below_alloc (below_drew1 hBr) _); (case hb => (simp; omega)); (case hl => omega); intro v1 w2 hr2 hb2 hg2 _; have HR2 : Aside0 (OwnR w2 w.heap.size (L ++ [wrap64 (p - nn)]) v1) := ⟨hr2⟩; have HB2 := Aside0.mk hb2; have HG2 : Aside0 (Blk w2 w.heap.size #[.slice A0 ms.length c0, .slice A1 mv.length c1, .slice A2 rs.length c2] 26) := ⟨by refine blk_grown (base := w.heap.size) (L := L) ?_ ?_ hg2 (by decide); exact (HBK.out.alloc _).drew; exact OwnR.below HOL.out (below_drew1 (below_alloc (Below.refl _ _) _))⟩; clear hr2 hb2 hg2))
      all_goals go_wp2
      all_goals go_roundg (gk - 1)
      all_goals first
        | exact ⟨j + 1, _, by have := HJ.out; omega, by go_num, HR2, ⟨HD.out.step HNN.out HPP.out⟩, HB2.out, HG2⟩
        | (have := HJ.out; omega)
    · obtain rfl : j = pl.length := by omega
      have HL : Aside0 (L = begC 0 pl) := ⟨HD.out.all.trans (begun_begC HOP.out hl)⟩
      have HOW := Aside0.mk (one_list HOL.out hBr.size)
      rw [HL.out] at HOL HOW ⊢
      have HOL2 : Aside0 (OwnR (wr.alloc (.cells #[.slice (some ⟨g, 0, none⟩) (begC 0 pl).length cap] 23)) w.heap.size (begC 0 pl) (.slice (some ⟨g, 0, none⟩) (begC 0 pl).length cap)) := ⟨OwnR.below HOL.out (below_alloc (Below.refl _ _) _)⟩
      have HBK2 : Aside0 (Blk (wr.alloc (.cells #[.slice (some ⟨g, 0, none⟩) (begC 0 pl).length cap] 23)) w.heap.size #[.slice A0 ms.length c0, .slice A1 mv.length c1, .slice A2 rs.length c2] 26) := ⟨HBK.out.alloc _⟩
      have HB2 : Aside0 (Below w.heap.size w (wr.alloc (.cells #[.slice (some ⟨g, 0, none⟩) (begC 0 pl).length cap] 23))) := ⟨below_alloc hBr _⟩
      clear HBK HD HJ
      go_wp2
      go_loopg [5, 7, 8] (mv.length) (fun k v5 v7 i wr => ∃ (j : Nat) (now : List Int) (Os : List (List Int)) (An : Option Addr) (cn : Nat), j + k = mv.length ∧ i = .int .i64 j ∧ v5 = .slice An now.length cn ∧ Aside0 (OwnR wr w.heap.size now v5) ∧ Aside0 (Kd.R kLists 23 wr w.heap.size (fun _ => True) v7 Os) ∧ Aside0 (Ran pl mv now Os j) ∧ Below w.heap.size w wr ∧ Aside0 (Blk wr w.heap.size #[.slice A0 ms.length c0, .slice A1 mv.length c1, .slice A2 rs.length c2] 26))
      case atStart => exact ⟨0, begC 0 pl, [begC 0 pl], _, _, by omega, rfl, rfl, HOL2, HOW, ⟨Ran.start HOP.out⟩, HB2.out, HBK2⟩
      case round =>
        obtain ⟨j, now, Os, An, cn, hj, rfl, rfl, HN, HV, HD, hBr, HBK⟩ := hrel
        obtain ⟨Av, cv, rfl⟩ := Kd.R_slice HV.out
        have hj' : j ≤ mv.length := by omega
        have HJ := Aside0.mk hj
        clear hj
        have hk1 := HBK.out.cell 1 rfl
        by_cases hlt : j < mv.length
        · have hosl : Os.length ≤ 101 := by have := HD.out.1; omega
          obtain ⟨m, hm⟩ : ∃ m, mv[j]? = some m := ⟨_, List.getElem?_eq_getElem hlt⟩
          have hmb := HOM.out m (List.mem_of_getElem? hm)
          obtain ⟨a1, rfl, hcm⟩ := at_int (Kd.C_below H.out.r1 hBr) hm hlt
          have hnl : now.length ≤ 1000 := by
            obtain ⟨_, ⟨K, hi, _⟩, _⟩ := HD.out
            have := hi.length
            omega
          have HNI : Aside0 (IR wr An cn now) := ⟨OwnR.ir HN.out hnl⟩
          have HM := Aside0.mk hm
          have HMV : Aside0 (∀ {u : World}, Below wr.heap.size wr u → Calls Tryz.prog 92 #[.slice An now.length cn, .slice A pl.length c, .int .i64 m] u fun e w' => (∃ A' c', e = .returned (.slice A' (movedC m pl now).length c') ∧ OwnR w' u.heap.size (movedC m pl now) (.slice A' (movedC m pl now).length c')) ∧ Below u.heap.size u w') := ⟨fun {u} hu => by
            obtain ⟨_, ⟨K, hi, hK⟩, _⟩ := HD.out
            exact Moved_at ((HP.out.below hBr).below hu) (HNI.out.below hu) HOP.out hi hl (by omega) hmb.1 hmb.2⟩
          have HMB := Aside0.mk hmb
          clear hm hmb hnl
          go_upto_region 11 with ((go_at_call 92; (with_reducible refine (HMV.out (Below.refl _ _)).mono ?_); rintro e w2 ⟨⟨A', c', rfl, hr2⟩, hb2⟩; have HR2 := Aside0.mk (Kd.R_lower (base' := w.heap.size) hr2 hBr.size); have HBB2 := Aside0.mk (hBr.trans (hb2.mono hBr.size)); have HV2 := Aside0.mk (Kd.R_below HV.out hb2); have HK2 := Aside0.mk (HBK.out.below hb2); have HM2 := Aside0.mk (kLists_mk (Kd.R_bound HR2.out)); clear hr2 hb2))
          go_wp2_with ((at_builtin; go_must (refine Kd.R_append kLists (w0 := w) w.heap.size rfl (.tmp 45) (.tmp 47) 30 23 (.slice none 0 0) 24 rfl Tryz.underlying30 info23 rfl (show 0 < 1 by decide) (by decide) _ Os (movedC m pl now) _ (fun _ => True) _ rfl ?_ HM2.out ?_ (fun _ _ => trivial) HV2.out HBB2.out ?_ ?_ ?_); go_must (rfl); go_must ((intro k hk; exact ⟨trivial, ints_ne HV2.out hk⟩)); go_must (exact below_size HBB2.out); go_must (omega); go_must (intro v1 w3 hr1 hb1 hg1 _); have HR4 := Aside0.mk hr1; have HG4 := Aside0.mk hg1; clear hr1 hg1))
          go_roundg (gk - 1)
          case measure => have := HJ.out; omega
          case rel =>
            have hrn := HR2.out
            exact ⟨j + 1, movedC m pl now, Os ++ [movedC m pl now], A', c', by have := HJ.out; omega, by go_num, rfl, ⟨OwnR.grown (u := .slice Av Os.length cv) hrn HG4.out (rows_ne HV2.out)⟩, HR4, ⟨HD.out.step HOP.out HM.out HMB.out.1 HMB.out.2⟩, hb1, ⟨HK2.out.grown HG4.out (Kd.R_ne HV2.out HK2.out (by decide))⟩⟩
        · obtain rfl : j = mv.length := by omega
          go_wp2
          go_ret
          exact ⟨⟨_, rfl, by rw [← HD.out.all]; exact HV.out⟩, hBr⟩
end
end Go.Proofs.YtaojkmalpihmbaaGreatDoor.M
