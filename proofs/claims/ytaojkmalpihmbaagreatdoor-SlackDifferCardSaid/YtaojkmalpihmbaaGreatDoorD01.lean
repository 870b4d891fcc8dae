import Derived.Test.YtaojkmalpihmbaaGreatDoorB12
import Derived.Test.YtaojkmalpihmbaaGreatDoorB16
import Derived.Test.YtaojkmalpihmbaaGreatDoorD00
import Derived.Test.YtaojkmalpihmbaaGreatDoorB22
import Derived.Deep.RegionLaw
import Derived.Test.YtaojkmalpihmbaaGreatDoorB42
import Derived.Deep.RegionHeld3
namespace Go.Proofs.YtaojkmalpihmbaaGreatDoor.M
open Go.RowKit Go.Proofs.YtaojkmalpihmbaaGreatDoorW.PrintWords Go.Proofs.YtaojkmalpihmbaaGreatDoorW.PrintLast Go.Proofs.YtaojkmalpihmbaaGreatDoorW.PrintMore Go.Proofs.YtaojkmalpihmbaaGreatDoor.Q
set_option linter.unusedVariables false
set_option linter.unusedSimpArgs false

/-! The document's Moved. -/
theorem mn_eq (a b : Int) : mn a b = min a b := by
  unfold mn
  split <;> omega
theorem mx_eq (a b : Int) : mx a b = max a b := by
  unfold mx
  split <;> omega
theorem rd_at {l : List Int} {j : Nat} {x : Int} (h : l[j]? = some x) : rd l (j : Int) = x := by simp [rd, List.getD_eq_getElem?_getD, h]
theorem moved_l {pl pc : List Int} (ho : okPl pl) (hlen : pc.length = pl.length + 1) (hl : pl.length ≤ 100) : ∀ (d j : Nat) (o : List Int) (p : Int), j + d = pl.length → o.length = j + 1 → o[j]? = some p → -1000000 + 100 * (d : Int) ≤ p → p ≤ 1000000 →
    tellurionref03_Moved.l0 (d + 1) pc pl o (j : Int) = some (o ++ movedGo p (pl.drop j) (pc.drop (j + 1)))
  | 0, j, o, p, h, ho', hp, h1, h2 => by
    have h3 : ¬ (j : Int) < (pl.length : Int) := by omega
    rw [tellurionref03_Moved.l0, if_neg h3, List.drop_of_length_le (by omega)]
    simp [movedGo]
  | d + 1, j, o, p, h, ho', hp, h1, h2 => by
    have hj : j < pl.length := by omega
    have hk : j + 1 < pc.length := by omega
    have hn := ho pl[j] (List.getElem_mem hj)
    have e1 : rd pl (j : Int) = pl[j] := rd_nat hj
    have e2 : rd pc ((j + 1 : Nat) : Int) = pc[j + 1] := rd_nat hk
    rw [tellurionref03_Moved.l0, if_pos (by omega), if_pos (by omega), if_pos (by omega), w1_nat (by omega), if_pos (by omega), if_pos (by omega), if_pos (by omega), rd_at hp, e1, e2, mn_eq, mx_eq, wr_in (by omega) (by omega)]
    have ih := moved_l ho hlen hl d (j + 1) (o ++ [min p (max (p - pl[j]) pc[j + 1])]) (min p (max (p - pl[j]) pc[j + 1])) (by omega) (by simp [ho']) (by rw [List.getElem?_append_right (by omega)]; simp [ho']) (by omega) (by omega)
    rw [ih, List.drop_eq_getElem_cons hj, List.drop_eq_getElem_cons hk]
    simp [movedGo]
theorem moved_f {pl pc : List Int} {K m : Int} (ho : okPl pl) (hl : pl.length ≤ 100) (h : Inv pl K pc) (hK : K ≤ 100000) (h1 : -300 ≤ m) (h2 : m ≤ 300) : ∃ k, tellurionref03_Moved.f k pc pl m = some (movedC m pl pc) := by
  have hlen := h.length
  obtain ⟨x, r, rfl, hc, hx1, hx2⟩ := h
  refine ⟨pl.length + 1, ?_⟩
  have e : rd (x :: r) 0 = x := rfl
  have hw : wrap64 (x + m) = x + m := wr_in (by omega) (by omega)
  have := moved_l (pc := x :: r) ho hlen hl pl.length 0 [x + m] (x + m) (by omega) rfl rfl (by omega) (by omega)
  rw [tellurionref03_Moved.f, if_pos (by simp), e, hw]
  rw [show ((0 : Nat) : Int) = 0 from rfl] at this
  rw [this]
  simp [movedC]
theorem Moved_at {w : World} {A B : Option Addr} {c d : Nat} {pl pc : List Int} {K m : Int} (hp : IR w A c pl) (hq : IR w B d pc) (ho : okPl pl) (h : Inv pl K pc) (hl : pl.length ≤ 100) (hK : K ≤ 100000) (h1 : -300 ≤ m) (h2 : m ≤ 300) :
    Calls Tryz.prog 92 #[.slice B pc.length d, .slice A pl.length c, .int .i64 m] w fun e w' => (∃ A' c', e = .returned (.slice A' (movedC m pl pc).length c') ∧ OwnR w' w.heap.size (movedC m pl pc) (.slice A' (movedC m pl pc).length c')) ∧ Below w.heap.size w w' := by
  obtain ⟨k, hk⟩ := moved_f ho hl h hK h1 h2
  refine (tellurionref03_Moved.calls k B d pc A c pl m _ w hq.r hq.c hp.r hp.c hk).mono ?_
  rintro e w' ⟨v, rfl, hr, hb⟩
  obtain ⟨A', c', rfl⟩ := Kd.R_slice hr
  exact ⟨⟨A', c', rfl, hr⟩, hb⟩
theorem movedGo_length : ∀ (pl r : List Int) (p : Int), r.length = pl.length → (movedGo p pl r).length = r.length
  | [], [], _, _ => rfl
  | [], _ :: _, _, h => by simp at h
  | _ :: _, [], _, h => by simp at h
  | n :: pl, q :: r, p, h => by simp [movedGo, movedGo_length pl r _ (by simpa using h)]
end Go.Proofs.YtaojkmalpihmbaaGreatDoor.M

namespace Go.Proofs.YtaojkmalpihmbaaGreatDoor.M
open Go.RowKit Go.Proofs.YtaojkmalpihmbaaGreatDoorW.PrintWords Go.Proofs.YtaojkmalpihmbaaGreatDoorW.PrintLast Go.Proofs.YtaojkmalpihmbaaGreatDoorW.PrintMore Go.Proofs.YtaojkmalpihmbaaGreatDoor.Q
set_option linter.unusedVariables false
set_option linter.unusedSimpArgs false

/-! The document's Run. -/
theorem begun_begC {pl : List Int} (ho : okPl pl) (hl : pl.length ≤ 100) : begunL pl = begC 0 pl := begun_eq pl 0 ho (by omega) (by omega)
/-- A list that was made, after another block has grown. -/
theorem OwnR.grown {W w1 : World} {base : Nat} {l : List Int} {v u : Value} (h : OwnR W base l v) (hg : W.grownBy w1 u.ownBlock) (hu : ∀ (k : Nat) (cells : Array Value), u.ownBlock = some k → W.heap[k]? ≠ some (.cells cells 3 (0, 0))) : OwnR w1 base l v :=
  OwnR.move h fun k cells _ hk => hg.block k (Array.getElem?_eq_some_iff.1 hk).1 (fun e => hu k cells e.symm hk)
theorem rows_ne {w : World} {base : Nat} {v : Value} {l : List (List Int)} (h : Kd.R kLists 23 w base (fun _ => True) v l) : ∀ (k : Nat) (cells : Array Value), v.ownBlock = some k → w.heap[k]? ≠ some (.cells cells 3 (0, 0)) := by
  intro k cells e hk
  obtain ⟨inner, ho⟩ := Kd.R_own h
  obtain ⟨cells', hc⟩ := own_typed ho k e
  rw [hk] at hc
  cases hc
theorem blk_grown {W w1 : World} {base k : Nat} {L : List Int} {v : Value} {cs : Array Value} {q : Nat} (hk : Blk W k cs q) (h : OwnR W base L v) (hg : W.grownBy w1 v.ownBlock) (hq : 3 ≠ q) : Blk w1 k cs q := hk.grown hg (Kd.R_ne h hk hq)
theorem ints_ne {w : World} {base : Nat} {v : Value} {l : List (List Int)} (h : Kd.R kLists 23 w base (fun _ => True) v l) {k : Nat} (hk : (fun k => True ∧ base ≤ k ∧ k < w.heap.size ∧ ∃ q, q ∈ 3 :: (Kd.int .i64).E ∧ ∃ cells, w.heap[k]? = some (.cells cells q (0, 0))) k) : some k ≠ v.ownBlock := by
  obtain ⟨_, _, _, q, hq, cells, hc⟩ := hk
  have hq' : q = 3 := by simpa [Kd.E, Kd.int, Kd.scalar] using hq
  subst hq'
  exact fun e => rows_ne h k cells e.symm hc
theorem one_list {w : World} {base : Nat} {l : List Int} {v : Value} (h : OwnR w base l v) (hb : base ≤ w.heap.size) :
    Kd.R kLists 23 (w.alloc (.cells #[v] 23)) base (fun _ => True) (.slice (some ⟨w.heap.size, 0, none⟩) 1 1) [l] := by
  refine ⟨fun _ _ => trivial, [v], ⟨rfl, .inr ⟨w.heap.size, 1, #[v], rfl, hb, heap_alloc_new w _, by simp, by simp [maxLen], by rfl, rfl⟩⟩, rfl, fun j p hj => ?_⟩
  have hj0 : j = 0 := by have := (List.getElem?_eq_some_iff.1 hj).1; simp at this; exact this
  subst hj0
  simp at hj
  subst hj
  refine kLists_mk ?_
  refine Kd.R_mono (Kd.R_below (Kd.R_bound h) (below_alloc (Below.refl _ _) _)) (fun k hk => ⟨trivial, ?_⟩)
  intro e
  simp [Value.ownBlock] at e
  have := hk.2.2.1
  omega
/-- How far Run has come: the row of the arbors now, all rows till now. -/
def Ran (pl mv : List Int) (now : List Int) (Os : List (List Int)) (j : Nat) : Prop := Os.length = j + 1 ∧ (∃ K, Inv pl K now ∧ K = 300 * (j : Int)) ∧ Os ++ (runCGo pl now (mv.drop j)).tail = runC pl mv
theorem Ran.start {pl mv : List Int} (ho : okPl pl) : Ran pl mv (begC 0 pl) [begC 0 pl] 0 :=
  ⟨rfl, ⟨0, beg_inv ho, by simp⟩, by cases mv <;> simp [runC, runCGo]⟩
theorem Ran.step {pl mv now : List Int} {Os : List (List Int)} {j : Nat} {m : Int} (h : Ran pl mv now Os j) (ho : okPl pl) (hm : mv[j]? = some m) (h1 : -300 ≤ m) (h2 : m ≤ 300) : Ran pl mv (movedC m pl now) (Os ++ [movedC m pl now]) (j + 1) := by
  obtain ⟨hl, ⟨K, hi, hK⟩, he⟩ := h
  obtain ⟨hj, rfl⟩ := List.getElem?_eq_some_iff.1 hm
  refine ⟨by simp [hl], ⟨K + 300, moved_inv ho hi h1 h2, by omega⟩, ?_⟩
  rw [List.drop_eq_getElem_cons hj] at he
  rw [← he]
  simp only [runCGo, List.tail_cons, List.append_assoc, List.singleton_append]
  congr 1
  cases mv.drop (j + 1) <;> simp [runCGo]
theorem Ran.all {pl mv now : List Int} {Os : List (List Int)} (h : Ran pl mv now Os mv.length) : Os = runC pl mv := by
  obtain ⟨_, _, he⟩ := h
  rw [List.drop_eq_nil_of_le (Nat.le_refl _)] at he
  simpa [runCGo] using he
section
variable {A0 A1 A2 : Option Addr} {c0 c1 c2 : Nat} {ms : List S64} {mv : List Int} {rs : List S66}
set_option maxHeartbeats 4000000 in
set_option maxRecDepth 100000 in
theorem refRun_calls {w : World} (h : PR w A0 c0 ms A1 c1 mv A2 c2 rs) {A : Option Addr} {c : Nat} {pl : List Int} (hp : IR w A c pl) (ho : okPl pl) (hm : okMv mv) (hl : pl.length ≤ 100) (hv : mv.length ≤ 100) :
    Calls Tryz.prog 60 #[.agg #[.slice A0 ms.length c0, .slice A1 mv.length c1, .slice A2 rs.length c2], .slice A pl.length c] w fun e w' =>
      (∃ v, e = .returned v ∧ Kd.R kLists 23 w' w.heap.size (fun _ => True) v (runC pl mv)) ∧ Below w.heap.size w w' := by
  have H := Aside0.mk h
  have HP := Aside0.mk hp
  have HOP := Aside0.mk ho
  have HOM := Aside0.mk hm
  have hb0 := below_alloc (Below.refl w.heap.size w) (.cells #[.slice A0 ms.length c0, .slice A1 mv.length c1, .slice A2 rs.length c2] 26)
  have HK0 := Aside0.mk ((Blk.new w #[.slice A0 ms.length c0, .slice A1 mv.length c1, .slice A2 rs.length c2] 26).alloc (.cells #[.int .i64 0] 3))
  have HO0 := Aside0.mk (one_own (w.alloc (.cells #[.slice A0 ms.length c0, .slice A1 mv.length c1, .slice A2 rs.length c2] 26)) 0)
  have HB0 := Aside0.mk (below_alloc hb0 (.cells #[.int .i64 0] 3))
  clear h hp ho hm hb0
  go_enter Tryz.func60, Tryz.ntmps60
  go_wp2
  go_loopg [5, 6] (pl.length) (fun k v i wr => ∃ (j : Nat) (L : List Int), j + k = pl.length ∧ i = .int .i64 j ∧ Aside0 (OwnR wr w.heap.size L v) ∧ Aside0 (Begun pl L j) ∧ Below w.heap.size w wr ∧ Aside0 (Blk wr w.heap.size #[.slice A0 ms.length c0, .slice A1 mv.length c1, .slice A2 rs.length c2] 26))
  case atStart => exact ⟨0, [0], by omega, rfl, ⟨by have h := HO0.out; rw [World.size_alloc] at h; exact Kd.R_lower h (by omega)⟩, ⟨Begun.start pl⟩, HB0.out, HK0⟩
  case round =>
    obtain ⟨j, L, hj, rfl, HOL, HD, hBr, HBK⟩ := hrel
    have hj' : j ≤ pl.length := by omega
    have HJ := Aside0.mk hj
    clear hj
    obtain ⟨g, cap, rfl, hbg, hgl⟩ := OwnR.form HOL.out (by have := HD.out.1; omega)
    by_cases hlt : j < pl.length
    · have hlL : j < L.length := by have := HD.out.1; omega
      have hl1 : L.length ≤ 1001 := by have := HD.out.1; omega
      obtain ⟨nn, hnn⟩ : ∃ nn, pl[j]? = some nn := ⟨_, List.getElem?_eq_getElem hlt⟩
      obtain ⟨p, hp⟩ : ∃ p, L[j]? = some p := ⟨_, List.getElem?_eq_getElem hlL⟩
      obtain ⟨ad, rfl, hcn0⟩ := at_int HP.out.r hnn hlt
      have HCN0 := Aside0.mk hcn0
      clear hcn0
      have hcn := pw_cell_below hBr HCN0.out
      have hcp := OwnR.cell HOL.out rfl hp
      have HNN := Aside0.mk hnn
      have HPP := Aside0.mk hp
      clear hnn hp
      have hbase := hBr.size
      go_upto_region 5 with fail
      have hww : IntKind.i64.wrap (p - nn) = wrap64 (p - nn) := i64_w _
      have hadb := World.block_lt_of_cell? _ _ hcn
      go_region_law (first | (refine Kd.R_append_rows_step (Kd.int .i64) (Rr := fun x cs => cs = [Value.int .i64 x]) (w0 := w) w.heap.size (by rfl) (.tmp 16) (.tmp 26) 23 3 (.int .i64 0) 8 (by rfl) Tryz.underlying23 info3 rfl (by decide) (by decide) (.slice (some ⟨g, 0, none⟩) L.length cap) L [wrap64 (p - nn)] _ 1 1 (fun _ => True) (fun _ => False) (by rfl) (by rfl) ?HO ?HR (fun _ _ h => h) (fun _ h => h.elim) (fun _ _ => trivial) ?HB ?hb ?hl ?_; (case HO => first | exact OwnR.below HOL.out (below_drew1 (below_alloc (Below.refl _ _) _)) | exact OwnR.below HOL.out (below_alloc (below_drew1 (Below.refl _ _)) _)); (case HR => first | exact hww ▸ Kd.C_drew (one_int _ _) | exact hww ▸ one_int _ _ | (rw [hww]; first | exact Kd.C_drew (one_int _ _) | exact one_int _ _)); (case HB => first | exact below_drew1 (below_alloc hBr _) | exact below_alloc (below_drew1 hBr) _); (case hb => (simp; omega)); (case hl => omega); intro v1 w2 hr2 hb2 hg2 _; have HR2 : Aside0 (OwnR w2 w.heap.size (L ++ [wrap64 (p - nn)]) v1) := ⟨hr2⟩; have HB2 := Aside0.mk hb2; have HG2 : Aside0 (Blk w2 w.heap.size #[.slice A0 ms.length c0, .slice A1 mv.length c1, .slice A2 rs.length c2] 26) := ⟨by refine blk_grown (base := w.heap.size) (L := L) ?_ ?_ hg2 (by decide); exact (HBK.out.alloc _).drew; exact OwnR.below HOL.out (below_drew1 (below_alloc (Below.refl _ _) _))⟩; clear hr2 hb2 hg2))
      all_goals go_wp2
      all_goals go_roundg (gk - 1)
      all_goals first
        | exact ⟨j + 1, _, by have := HJ.out; omega, by go_num, HR2, ⟨HD.out.step HNN.out HPP.out⟩, HB2.out, HG2⟩
        | (have := HJ.out; omega)
    · obtain rfl : j = pl.length := by omega
      have HL : Aside0 (L = begC 0 pl) := ⟨HD.out.all.trans (begun_begC HOP.out hl)⟩
      have HOW := Aside0.mk (one_list HOL.out hBr.size)
      rw [HL.out] at HOL HOW ⊢
      have HOL2 : Aside0 (OwnR (wr.alloc (.cells #[.slice (some ⟨g, 0, none⟩) (begC 0 pl).length cap] 23)) w.heap.size (begC 0 pl) (.slice (some ⟨g, 0, none⟩) (begC 0 pl).length cap)) := ⟨OwnR.below HOL.out (below_alloc (Below.refl _ _) _)⟩
      have HBK2 : Aside0 (Blk (wr.alloc (.cells #[.slice (some ⟨g, 0, none⟩) (begC 0 pl).length cap] 23)) w.heap.size #[.slice A0 ms.length c0, .slice A1 mv.length c1, .slice A2 rs.length c2] 26) := ⟨HBK.out.alloc _⟩
      have HB2 : Aside0 (Below w.heap.size w (wr.alloc (.cells #[.slice (some ⟨g, 0, none⟩) (begC 0 pl).length cap] 23))) := ⟨below_alloc hBr _⟩
      clear HBK HD HJ
      go_wp2
      go_loopg [5, 7, 8] (mv.length) (fun k v5 v7 i wr => ∃ (j : Nat) (now : List Int) (Os : List (List Int)) (An : Option Addr) (cn : Nat), j + k = mv.length ∧ i = .int .i64 j ∧ v5 = .slice An now.length cn ∧ Aside0 (OwnR wr w.heap.size now v5) ∧ Aside0 (Kd.R kLists 23 wr w.heap.size (fun _ => True) v7 Os) ∧ Aside0 (Ran pl mv now Os j) ∧ Below w.heap.size w wr ∧ Aside0 (Blk wr w.heap.size #[.slice A0 ms.length c0, .slice A1 mv.length c1, .slice A2 rs.length c2] 26))
      case atStart => exact ⟨0, begC 0 pl, [begC 0 pl], _, _, by omega, rfl, rfl, HOL2, HOW, ⟨Ran.start HOP.out⟩, HB2.out, HBK2⟩
      case round =>
        obtain ⟨j, now, Os, An, cn, hj, rfl, rfl, HN, HV, HD, hBr, HBK⟩ := hrel
        obtain ⟨Av, cv, rfl⟩ := Kd.R_slice HV.out
        have hj' : j ≤ mv.length := by omega
        have HJ := Aside0.mk hj
        clear hj
        have hk1 := HBK.out.cell 1 rfl
        by_cases hlt : j < mv.length
        · have hosl : Os.length ≤ 101 := by have := HD.out.1; omega
          obtain ⟨m, hm⟩ : ∃ m, mv[j]? = some m := ⟨_, List.getElem?_eq_getElem hlt⟩
          have hmb := HOM.out m (List.mem_of_getElem? hm)
          obtain ⟨a1, rfl, hcm⟩ := at_int (Kd.C_below H.out.r1 hBr) hm hlt
          have hnl : now.length ≤ 1000 := by
            obtain ⟨_, ⟨K, hi, _⟩, _⟩ := HD.out
            have := hi.length
            omega
          have HNI : Aside0 (IR wr An cn now) := ⟨OwnR.ir HN.out hnl⟩
          have HM := Aside0.mk hm
          have HMV : Aside0 (∀ {u : World}, Below wr.heap.size wr u → Calls Tryz.prog 92 #[.slice An now.length cn, .slice A pl.length c, .int .i64 m] u fun e w' => (∃ A' c', e = .returned (.slice A' (movedC m pl now).length c') ∧ OwnR w' u.heap.size (movedC m pl now) (.slice A' (movedC m pl now).length c')) ∧ Below u.heap.size u w') := ⟨fun {u} hu => by
            obtain ⟨_, ⟨K, hi, hK⟩, _⟩ := HD.out
            exact Moved_at ((HP.out.below hBr).below hu) (HNI.out.below hu) HOP.out hi hl (by omega) hmb.1 hmb.2⟩
          have HMB := Aside0.mk hmb
          clear hm hmb hnl
          go_upto_region 11 with ((go_at_call 92; (with_reducible refine (HMV.out (Below.refl _ _)).mono ?_); rintro e w2 ⟨⟨A', c', rfl, hr2⟩, hb2⟩; have HR2 := Aside0.mk (Kd.R_lower (base' := w.heap.size) hr2 hBr.size); have HBB2 := Aside0.mk (hBr.trans (hb2.mono hBr.size)); have HV2 := Aside0.mk (Kd.R_below HV.out hb2); have HK2 := Aside0.mk (HBK.out.below hb2); have HM2 := Aside0.mk (kLists_mk (Kd.R_bound HR2.out)); clear hr2 hb2))
          go_wp2_with ((at_builtin; go_must (refine Kd.R_append kLists (w0 := w) w.heap.size rfl (.tmp 45) (.tmp 47) 30 23 (.slice none 0 0) 24 rfl Tryz.underlying30 info23 rfl (show 0 < 1 by decide) (by decide) _ Os (movedC m pl now) _ (fun _ => True) _ rfl ?_ HM2.out ?_ (fun _ _ => trivial) HV2.out HBB2.out ?_ ?_ ?_); go_must (rfl); go_must ((intro k hk; exact ⟨trivial, ints_ne HV2.out hk⟩)); go_must (exact below_size HBB2.out); go_must (omega); go_must (intro v1 w3 hr1 hb1 hg1 _); have HR4 := Aside0.mk hr1; have HG4 := Aside0.mk hg1; clear hr1 hg1))
          go_roundg (gk - 1)
          case measure => have := HJ.out; omega
          case rel =>
            have hrn := HR2.out
            exact ⟨j + 1, movedC m pl now, Os ++ [movedC m pl now], A', c', by have := HJ.out; omega, by go_num, rfl, ⟨OwnR.grown (u := .slice Av Os.length cv) hrn HG4.out (rows_ne HV2.out)⟩, HR4, ⟨HD.out.step HOP.out HM.out HMB.out.1 HMB.out.2⟩, hb1, ⟨HK2.out.grown HG4.out (Kd.R_ne HV2.out HK2.out (by decide))⟩⟩
        · obtain rfl : j = mv.length := by omega
          go_wp2
          go_ret
          exact ⟨⟨_, rfl, by rw [← HD.out.all]; exact HV.out⟩, hBr⟩
end
end Go.Proofs.YtaojkmalpihmbaaGreatDoor.M

namespace Go.Proofs.YtaojkmalpihmbaaGreatDoor.M
open Go.RowKit Go.Proofs.YtaojkmalpihmbaaGreatDoorW.PrintWords Go.Proofs.YtaojkmalpihmbaaGreatDoorW.PrintLast Go.Proofs.YtaojkmalpihmbaaGreatDoorW.PrintMore Go.Proofs.YtaojkmalpihmbaaGreatDoor.Q
set_option linter.unusedVariables false
set_option linter.unusedSimpArgs false

/-! The document's Ends. -/
/-- An element of a row of lists: where it lies, and that it is own. -/
theorem rows_elem {w : World} {base : Nat} {v : Value} {Os : List (List Int)} (h : Kd.R kLists 23 w base (fun _ => True) v Os) {j : Nat} {l : List Int} (hx : Os[j]? = some l) :
    ∃ g c A' c', v = .slice (some ⟨g, 0, none⟩) Os.length c ∧ w.cell? ⟨g, j, none⟩ = some (.slice A' l.length c') ∧ OwnR w base l (.slice A' l.length c') := by
  obtain ⟨_, inner, ho, hr⟩ := h
  have hjl := (List.getElem?_eq_some_iff.1 hx).1
  obtain ⟨g, cap, rfl, hb, hg⟩ := ho.form (by omega)
  obtain ⟨v', hcs, hrv⟩ := hr.2 j l hx
  have hcs' : (inner.drop (j * 1)).take 1 = [v'] := hcs
  obtain ⟨A', c', rfl⟩ := Kd.R_slice hrv
  have hi0 : inner[j]? = some (.slice A' l.length c') := by
    have := congrArg (fun l => l[0]?) hcs'
    simpa using this
  have hw := ho.cells (g := g) rfl
  exact ⟨g, cap, A', c', rfl, by have hq := hw _ _ hi0; rwa [show (⟨g, 0, none⟩ : Addr).add j = ⟨g, j, none⟩ from by cases j <;> simp [Addr.add]] at hq, Kd.R_mono hrv (fun _ _ => trivial)⟩
theorem runCGo_at_last (pl : List Int) : ∀ (mv pc : List Int), (runCGo pl pc mv)[mv.length]? = some (mv.foldl (fun pc m => movedC m pl pc) pc)
  | [], _ => rfl
  | m :: mv, pc => by simpa [runCGo] using runCGo_at_last pl mv (movedC m pl pc)
theorem runC_last (pl mv : List Int) : (runC pl mv)[mv.length]? = some (lastC pl mv) := runCGo_at_last pl mv _
section
variable {A0 A1 A2 : Option Addr} {c0 c1 c2 : Nat} {ms : List S64} {mv : List Int} {rs : List S66}
/-- Run, and its last row. -/
theorem refRun_last {w : World} (h : PR w A0 c0 ms A1 c1 mv A2 c2 rs) {A : Option Addr} {c : Nat} {pl : List Int} (hp : IR w A c pl) (ho : okPl pl) (hm : okMv mv) (hl : pl.length ≤ 100) (hv : mv.length ≤ 100) :
    Calls Tryz.prog 60 #[.agg #[.slice A0 ms.length c0, .slice A1 mv.length c1, .slice A2 rs.length c2], .slice A pl.length c] w fun e w' =>
      (∃ g cap Ae ce, e = .returned (.slice (some ⟨g, 0, none⟩) (mv.length + 1) cap) ∧ w'.cell? ⟨g, mv.length, none⟩ = some (.slice Ae (lastC pl mv).length ce) ∧ OwnR w' w.heap.size (lastC pl mv) (.slice Ae (lastC pl mv).length ce)) ∧ Below w.heap.size w w' := by
  refine (refRun_calls h hp ho hm hl hv).mono ?_
  rintro e w' ⟨⟨v, rfl, hr⟩, hb⟩
  obtain ⟨g, cap, Ae, ce, rfl, hcell, hown⟩ := rows_elem hr (runC_last pl mv)
  exact ⟨⟨g, cap, Ae, ce, by rw [runC_length], hcell, hown⟩, hb⟩
set_option maxHeartbeats 4000000 in
set_option maxRecDepth 100000 in
theorem refEnds_calls {w : World} (h : PR w A0 c0 ms A1 c1 mv A2 c2 rs) {A : Option Addr} {c : Nat} {L : List (List Int)} (hL : Kd.C kLists w A L.length L) (hc : L.length ≤ c) (hl : L.length ≤ 1000) (ho : ∀ pl ∈ L, okPl pl ∧ pl.length ≤ 100) (hm : okMv mv) (hv : mv.length ≤ 100) :
    Calls Tryz.prog 55 #[.agg #[.slice A0 ms.length c0, .slice A1 mv.length c1, .slice A2 rs.length c2], .slice A L.length c] w fun e w' =>
      (∃ v, e = .returned v ∧ Kd.R kLists 23 w' w.heap.size (fun _ => True) v (L.map fun pl => lastC pl mv)) ∧ Below w.heap.size w w' := by
  have H := Aside0.mk h
  have HL := Aside0.mk hL
  have HOP := Aside0.mk ho
  have HOM := Aside0.mk hm
  have HB0 := Aside0.mk (below_alloc (Below.refl w.heap.size w) (.cells #[.slice A0 ms.length c0, .slice A1 mv.length c1, .slice A2 rs.length c2] 26))
  have HK0 := Aside0.mk (Blk.new w #[.slice A0 ms.length c0, .slice A1 mv.length c1, .slice A2 rs.length c2] 26)
  clear h hL ho hm
  go_enter Tryz.func55, Tryz.ntmps55
  go_wp2
  go_loopg [5, 6] (L.length) (fun k v i wr => ∃ (j : Nat) (Os : List (List Int)), j + k = L.length ∧ i = .int .i64 j ∧ Os.length = j ∧ Aside0 (Os = (L.take j).map fun pl => lastC pl mv) ∧ Aside0 (Kd.R kLists 23 wr w.heap.size (fun _ => True) v Os) ∧ Below w.heap.size w wr ∧ Aside0 (Blk wr w.heap.size #[.slice A0 ms.length c0, .slice A1 mv.length c1, .slice A2 rs.length c2] 26))
  case atStart => exact ⟨0, [], by omega, rfl, rfl, ⟨by simp⟩, ⟨none_row _ _ _ _ _⟩, HB0.out, HK0⟩
  case round =>
    obtain ⟨j, Os, hj, rfl, hos, HOs, HV, hBr, HBK⟩ := hrel
    obtain ⟨Av, cv, rfl⟩ := Kd.R_slice HV.out
    have hj' : j ≤ L.length := by omega
    have HJ := Aside0.mk hj
    clear hj
    by_cases hlt : j < L.length
    · obtain ⟨l, hl9⟩ : ∃ l, L[j]? = some l := ⟨_, List.getElem?_eq_getElem hlt⟩
      obtain ⟨ad, Al, cl, rfl, hcell0, hcl, hcr⟩ := at_row HL.out hl9 hlt
      have hcell := pw_cell_below hBr hcell0
      obtain ⟨hol, hll⟩ := HOP.out l (List.mem_of_getElem? hl9)
      have HIR : Aside0 (IR wr Al cl l) := ⟨⟨Kd.C_below hcr hBr, hcl, by omega⟩⟩
      have HRN : Aside0 (∀ {u : World}, Below wr.heap.size wr u → Calls Tryz.prog 60 #[.agg #[.slice A0 ms.length c0, .slice A1 mv.length c1, .slice A2 rs.length c2], .slice Al l.length cl] u fun e w' =>
          (∃ g cap Ae ce, e = .returned (.slice (some ⟨g, 0, none⟩) (mv.length + 1) cap) ∧ w'.cell? ⟨g, mv.length, none⟩ = some (.slice Ae (lastC l mv).length ce) ∧ OwnR w' u.heap.size (lastC l mv) (.slice Ae (lastC l mv).length ce)) ∧ Below u.heap.size u w') :=
        ⟨fun {u} hu => refRun_last ((H.out.below hBr).below hu) (HIR.out.below hu) hol HOM.out hll hv⟩
      have HE := Aside0.mk hl9
      have hcellA : (wr.drew).cell? (ad.add j) = some (.slice Al l.length cl) := hcell
      have hk0 := HBK.out.drew.cell 0 rfl
      have hk1 := HBK.out.drew.cell 1 rfl
      have hk2 := HBK.out.drew.cell 2 rfl
      clear hcell0 hcl hcr hol hll hl9
      have hosl : Os.length ≤ 1000 := by omega
      have HO9 := Aside0.mk hos
      clear hos
      have hi1 : (mv.length : Int) < (mv.length : Int) + 1 := by omega
      have hi2 : (mv.length : Int) < ((mv.length + 1 : Nat) : Int) := by omega
      go_upto_region 5 with fail
      go_region_law (first | (go_simp; go_at_call 60; (with_reducible refine (HRN.out (below_drew1 (Below.refl _ _))).mono ?_); rintro e w2 ⟨⟨g2, cap2, Ae, ce, rfl, hcell2, hown2⟩, hb2⟩; have hk3 : w2.cell? ⟨w.heap.size, 1, none⟩ = some (.slice A1 mv.length c1) := (HBK.out.drew.below hb2).cell 1 rfl; have HBK2 := Aside0.mk (HBK.out.drew.below hb2); have HBx := Aside0.mk (bthen (w := wr) (below_drew1 (Below.refl _ _)) hb2); have HM2 := Aside0.mk (kLists_mk (Kd.R_bound (Kd.R_lower (base' := w.heap.size) hown2 hBr.size))); have HV2 := Aside0.mk (Kd.R_below HV.out HBx.out); have HB2 := Aside0.mk (hBr.trans (HBx.out.mono hBr.size)); clear hown2 hb2) | (refine Kd.R_append_step kLists (w0 := w) (W := w2) w.heap.size (by rfl) (.tmp 13) (.tmp 25) 30 23 (.slice none 0 0) 24 (by rfl) Tryz.underlying30 info23 rfl (by decide) (by decide) (.slice Av Os.length cv) Os (lastC l mv) [.slice Ae (lastC l mv).length ce] (fun _ => True) _ (by rfl) (by rfl) HM2.out ?hokp (fun _ _ => trivial) HV2.out HB2.out ?hb ?hl ?_; (case hokp => (intro k hk; exact ⟨trivial, ints_ne HV2.out hk⟩)); (case hb => exact below_size HB2.out); (case hl => omega); intro v1 w3 hr3 hb3 hg3 _; have HR3 := Aside0.mk hr3; have HB3 := Aside0.mk hb3; have HBK3 : Aside0 (Blk w3 w.heap.size #[.slice A0 ms.length c0, .slice A1 mv.length c1, .slice A2 rs.length c2] 26) := ⟨HBK2.out.grown hg3 (Kd.R_ne HV2.out HBK2.out (by decide))⟩; clear hr3 hb3 hg3))
      all_goals go_wp2
      all_goals go_roundg (gk - 1)
      all_goals first
        | exact ⟨j + 1, _, by have := HJ.out; omega, by go_num, by rw [List.length_append, HO9.out]; rfl, ⟨by rw [HOs.out, List.take_add_one, HE.out, List.map_append]; rfl⟩, HR3, HB3.out, HBK3⟩
        | (have := HJ.out; omega)
    · obtain rfl : j = L.length := by omega
      have HX : Aside0 (Os = L.map fun pl => lastC pl mv) := ⟨by rw [HOs.out, List.take_length]⟩
      have HO9 := Aside0.mk hos
      clear hos
      go_wp2
      go_ret
      exact ⟨⟨_, rfl, by rw [← HX.out]; exact HV.out⟩, hBr⟩
end
end Go.Proofs.YtaojkmalpihmbaaGreatDoor.M

namespace Go.Proofs.YtaojkmalpihmbaaGreatDoor.M
open Go.RowKit Go.Proofs.YtaojkmalpihmbaaGreatDoorW.PrintWords Go.Proofs.YtaojkmalpihmbaaGreatDoorW.PrintLast Go.Proofs.YtaojkmalpihmbaaGreatDoorW.PrintMore Go.Proofs.YtaojkmalpihmbaaGreatDoor.Q
set_option linter.unusedVariables false
set_option linter.unusedSimpArgs false

/-! The document's Fits. -/
theorem refIn_at (x a b : Int) (w : World) : Calls Tryz.prog 34 #[.int .i64 x, .int .i64 a, .int .i64 b] w fun e w' => e = .returned (.bool (inB x a b)) ∧ Below w.heap.size w w' := by
  refine (tellurionref03_in.calls x a b _ w (in_f x a b)).mono ?_
  rintro e w' ⟨rfl, hd⟩
  exact ⟨rfl, hd.below⟩
def fitAt (L : List (List Int)) (r : S66) : Bool := inB ((L.getD r.f0.toNat []).getD r.f1.toNat 0) (r.f2 - r.f3) (r.f2 + r.f3)
def fitB (rs : List S66) (pl mv : List Int) : Bool := !anyB (fun r => !fitAt (runC pl mv) r) rs
theorem liveGo_iff (rs : List S66) (Os : List (List Int)) : liveGo rs 0 Os = true ↔ ∀ (j : Nat) l, Os[j]? = some l → agreeB rs l (j : Nat) = true := by
  constructor
  · intro h j l hl
    rcases hb : agreeB rs l (j : Nat) with _ | _
    · have := liveGo_false rs Os 0 j l hl (by simpa using hb)
      rw [h] at this
      cases this
    · rfl
  · intro h
    exact liveGo_true rs Os 0 (fun j l hl => by simpa using h j l hl)
theorem piece_reading {ms : List S64} {mv : List Int} {rs : List S66} (h : pieceB ms mv rs = true) : ∀ r ∈ rs, (0 ≤ r.f0 ∧ r.f0 ≤ mv.length) ∧ (1 ≤ r.f1 ∧ r.f1 ≤ ms.length) ∧ (-5000 ≤ r.f2 ∧ r.f2 ≤ 5000) ∧ (0 ≤ r.f3 ∧ r.f3 ≤ 50) := by
  intro r hr
  simp only [pieceB, Bool.and_eq_true, Bool.not_eq_true', anyB, List.any_eq_false] at h
  have := h.2.2.2.2.2 r hr
  simp [readingBad, inB] at this
  omega
theorem live_fit {ms : List S64} {mv : List Int} {rs : List S66} {pl : List Int} (h : pieceB ms mv rs = true) (ho : okPl pl) (hl : pl.length = ms.length) : liveB rs pl mv = fitB rs pl mv := by
  obtain ⟨p1, p2, p3, _⟩ := piece_len h
  have hm := piece_okMv h
  have hrd := piece_reading h
  have hrun : runL pl mv = runC pl mv := runL_eq ho (by omega) hm (by omega)
  have hinv := runC_inv ho hm
  rw [Bool.eq_iff_iff, liveB, hrun, liveGo_iff]
  simp only [fitB, Bool.not_eq_true', anyB, List.any_eq_false, agreeB]
  have key : ∀ r ∈ rs, ∀ (j : Nat) l, (runC pl mv)[j]? = some l → r.f0 = j → (readAt l (j : Nat) r = fitAt (runC pl mv) r) := by
    intro r hr j l hlj hj
    have hb := hrd r hr
    have hi := hinv l (List.mem_of_getElem? hlj)
    have hln := hi.length
    obtain ⟨x, hx⟩ : ∃ x, l[r.f1.toNat]? = some x := ⟨_, List.getElem?_eq_getElem (by omega)⟩
    have hxb := hi.bound ho x (List.mem_of_getElem? hx)
    have e1 : (runC pl mv).getD r.f0.toNat [] = l := by rw [hj, Int.toNat_natCast, List.getD_eq_getElem?_getD, hlj]; rfl
    have e2 : l.getD r.f1.toNat 0 = x := by rw [List.getD_eq_getElem?_getD, hx]; rfl
    have e3 : readAt l (j : Nat) r = inB (wrap64 (x - r.f2)) (wrap64 (-r.f3)) r.f3 := by simp [readAt, hj, hx]
    have e4 : fitAt (runC pl mv) r = inB x (r.f2 - r.f3) (r.f2 + r.f3) := by unfold fitAt; rw [e1, e2]
    rw [e3, e4, wr_in (by omega) (by omega), wr_in (by omega) (by omega), Bool.eq_iff_iff]
    simp only [inB, Bool.and_eq_true, decide_eq_true_eq]
    omega
  constructor
  · intro hall r hr
    have hb := hrd r hr
    obtain ⟨j, hj⟩ : ∃ j : Nat, r.f0 = j := ⟨r.f0.toNat, by omega⟩
    obtain ⟨l, hlj⟩ : ∃ l, (runC pl mv)[j]? = some l := ⟨_, List.getElem?_eq_getElem (by rw [runC_length]; omega)⟩
    have h1 := hall j l hlj r hr
    rw [key r hr j l hlj hj] at h1
    exact h1
  · intro hall j l hlj r hr
    by_cases hj : r.f0 = (j : Int)
    · rw [key r hr j l hlj hj]
      exact hall r hr
    · have : (r.f0 == (j : Int)) = false := by simpa using hj
      simp [readAt, this]
section
variable {A0 A1 A2 : Option Addr} {c0 c1 c2 : Nat} {ms : List S64} {mv : List Int} {rs : List S66}
theorem plays_ok {pl : List Int} (hb : playsB ms pl = true) : okPl pl := by
  intro n hn
  simp only [playsB, Bool.and_eq_true, Bool.not_eq_true', anyB, List.any_eq_false] at hb
  have := hb.2 n hn
  simp [playBad, inB] at this
  omega
set_option maxHeartbeats 4000000 in
set_option maxRecDepth 100000 in
theorem refFits_calls {w : World} (h : PR w A0 c0 ms A1 c1 mv A2 c2 rs) {A : Option Addr} {c : Nat} {pl : List Int} (hp : IR w A c pl) (hok : pieceB ms mv rs = true) (ho : okPl pl) (hlm : pl.length = ms.length) :
    Calls Tryz.prog 26 #[.agg #[.slice A0 ms.length c0, .slice A1 mv.length c1, .slice A2 rs.length c2], .slice A pl.length c] w fun e w' => e = .returned (.bool (okB pl ms && fitB rs pl mv)) ∧ Below w.heap.size w w' := by
  obtain ⟨p1, p2, p3, p4⟩ := piece_len hok
  have H := Aside0.mk h
  have HP := Aside0.mk hp
  have HOP := Aside0.mk ho
  have HOM := Aside0.mk (piece_okMv hok)
  have HRD := Aside0.mk (piece_reading hok)
  have HLM := Aside0.mk hlm
  have hpl4 : pl.length ≤ 4 := by omega
  have HB0 := Aside0.mk (below_alloc (Below.refl w.heap.size w) (.cells #[.slice A0 ms.length c0, .slice A1 mv.length c1, .slice A2 rs.length c2] 26))
  have HK0 := Aside0.mk (Blk.new w #[.slice A0 ms.length c0, .slice A1 mv.length c1, .slice A2 rs.length c2] 26)
  have HW : Aside0 (∀ {u : World}, Below w.heap.size w u → Calls Tryz.prog 13 #[.agg #[.slice A0 ms.length c0, .slice A1 mv.length c1, .slice A2 rs.length c2], .slice A pl.length c] u fun e w' => e = .returned (.bool (okB pl ms)) ∧ Below u.heap.size u w') := ⟨fun {u} hu => within_at (h.below hu) (hp.below hu) hlm⟩
  clear h hp ho hok hlm
  rcases hb : okB pl ms with _ | _
  · have HV := Aside0.mk hb
    clear hb
    go_enter Tryz.func26, Tryz.ntmps26
    go_wp2_with (go_at_call 13; (with_reducible refine (HW.out HB0.out).mono ?_); rintro e w1 ⟨rfl, hb1⟩; rw [HV.out]; have HB1 := Aside0.mk (bthen HB0.out hb1); clear hb1)
    go_ret
    exact ⟨rfl, HB1.out⟩
  have HV := Aside0.mk hb
  clear hb
  simp only [Bool.true_and]
  have HRN : Aside0 (∀ {u : World}, Below w.heap.size w u → Calls Tryz.prog 60 #[.agg #[.slice A0 ms.length c0, .slice A1 mv.length c1, .slice A2 rs.length c2], .slice A pl.length c] u fun e w' =>
      (∃ Ar cr, e = .returned (.slice Ar (mv.length + 1) cr) ∧ Kd.C kLists w' Ar (mv.length + 1) (runC pl mv)) ∧ Below u.heap.size u w') := ⟨fun {u} hu => by
    refine (refRun_calls (H.out.below hu) (HP.out.below hu) HOP.out HOM.out (by omega) (by omega)).mono ?_
    rintro e w' ⟨⟨v, rfl, hr⟩, hb⟩
    obtain ⟨Ar, cr, rfl⟩ := Kd.R_slice hr
    obtain ⟨_, _, k0⟩ := Kd.R_reads' hr
    rw [runC_length] at k0
    exact ⟨⟨Ar, cr, by rw [runC_length], k0⟩, hb⟩⟩
  go_enter Tryz.func26, Tryz.ntmps26
  go_wp2_with (first
    | (go_at_call 13; (with_reducible refine (HW.out HB0.out).mono ?_); rintro e w1 ⟨rfl, hb1⟩; rw [HV.out]; have HB1 := Aside0.mk (bthen HB0.out hb1); have HK1 := Aside0.mk (HK0.out.below hb1); have hk0 := HK1.out.cell 0 rfl; have hk1 := HK1.out.cell 1 rfl; have hk2 := HK1.out.cell 2 rfl; clear hb1)
    | (go_at_call 60; (with_reducible refine (HRN.out HB1.out).mono ?_); rintro e w2 ⟨⟨Ar, cr, rfl, hr2⟩, hb2⟩; have HR2 := Aside0.mk hr2; have HB2 := Aside0.mk (bthen HB1.out hb2); have HK2 := Aside0.mk (HK1.out.below hb2); clear hr2 hb2))
  go_loopg [6] (rs.length) (fun k i wr => ∃ (j : Nat), j + k = rs.length ∧ i = .int .i64 j ∧ Aside0 (idxFrom (fun r => !fitAt (runC pl mv) r) rs j) ∧ Below w2.heap.size w2 wr)
  case atStart => exact ⟨0, by omega, rfl, ⟨idxFrom_zero _ _⟩, Below.refl _ _⟩
  case round =>
    obtain ⟨j, hj, rfl, HI, hBr⟩ := hrel
    have hj' : j ≤ rs.length := by omega
    have HJ := Aside0.mk hj
    clear hj
    have HKr := Aside0.mk (HK2.out.below hBr)
    have hq2 := HKr.out.cell 2 rfl
    by_cases hlt : j < rs.length
    · obtain ⟨r, hr⟩ : ∃ r, rs[j]? = some r := ⟨_, List.getElem?_eq_getElem hlt⟩
      obtain ⟨⟨r1, r2⟩, ⟨r3, r4⟩, ⟨r5, r6⟩, r7, r8⟩ := HRD.out r (List.mem_of_getElem? hr)
      obtain ⟨ad, rfl, hc0, hc1, hc2, hc3⟩ := at_reading (Kd.C_below H.out.r2 (HB2.out.trans (hBr.mono HB2.out.size))) hr hlt
      obtain ⟨l, hl⟩ : ∃ l, (runC pl mv)[r.f0.toNat]? = some l := ⟨_, List.getElem?_eq_getElem (by rw [runC_length]; omega)⟩
      obtain ⟨ar, Al, cl, rfl, hcell0, hcl, hcr⟩ := at_row HR2.out hl (by omega)
      have hll : l.length = pl.length + 1 := (runC_inv HOP.out HOM.out l (List.mem_of_getElem? hl)).length
      obtain ⟨x, hx⟩ : ∃ x, l[r.f1.toNat]? = some x := ⟨_, List.getElem?_eq_getElem (by have := HLM.out; omega)⟩
      obtain ⟨al, rfl, hcx0⟩ := at_int hcr hx (by have := HLM.out; omega)
      have HV2 : Aside0 (fitAt (runC pl mv) r = inB x (r.f2 - r.f3) (r.f2 + r.f3)) := ⟨by unfold fitAt; rw [show (runC pl mv).getD r.f0.toNat [] = l from by rw [List.getD_eq_getElem?_getD, hl]; rfl, show l.getD r.f1.toNat 0 = x from by rw [List.getD_eq_getElem?_getD, hx]; rfl]⟩
      have hBx := below_drew1 (below_alloc (Below.refl wr.heap.size wr) (.cells #[.int .i64 r.f0, .int .i64 r.f1, .int .i64 r.f2, .int .i64 r.f3] 66))
      have hcell := pw_cell_below hBx (pw_cell_below hBr hcell0)
      have hcx := pw_cell_below hBx (pw_cell_below hBr hcx0)
      have HBX : Aside0 (Below w2.heap.size w2 ((wr.alloc (.cells #[.int .i64 r.f0, .int .i64 r.f1, .int .i64 r.f2, .int .i64 r.f3] 66)).drew)) := ⟨below_drew1 (below_alloc hBr _)⟩
      have HE := Aside0.mk hr
      have hkn := (Blk.new wr #[.int .i64 r.f0, .int .i64 r.f1, .int .i64 r.f2, .int .i64 r.f3] 66).drew
      have hn0 := hkn.cell 0 rfl
      have hn1 := hkn.cell 1 rfl
      have hn2 := hkn.cell 2 rfl
      have hn3 := hkn.cell 3 rfl
      have HN0 := Aside0.mk hn0
      have HN1 := Aside0.mk hn1
      have HN2 := Aside0.mk hn2
      have HN3 := Aside0.mk hn3
      have HC0 := Aside0.mk hcell
      have HC1 := Aside0.mk hcx
      have hi1 : r.f0 < (mv.length : Int) + 1 := by omega
      have hi2 : r.f0 < ((mv.length + 1 : Nat) : Int) := by omega
      have hi3 : r.f1 < (l.length : Int) := by have := HLM.out; omega
      have hi4 : 0 ≤ r.f1 := by omega
      have HLL := Aside0.mk hll
      have hw1 : IntKind.i64.wrap (r.f2 - r.f3) = r.f2 - r.f3 := IntWalk.i64_in _ (by omega)
      have hw2 : IntKind.i64.wrap (r.f2 + r.f3) = r.f2 + r.f3 := IntWalk.i64_in _ (by omega)
      clear hr hl hx hcell0 hcx0 hBx hkn hll hcl hcr
      go_upto_region 8 with fail
      rcases hf : inB x (r.f2 - r.f3) (r.f2 + r.f3) with _ | _
      · have HF := Aside0.mk hf
        clear hf
        go_region_held3 (fun w' => w'.cell? ⟨wr.heap.size, 0, none⟩ = some (.int .i64 r.f0) ∧ w'.cell? ⟨wr.heap.size, 1, none⟩ = some (.int .i64 r.f1) ∧ w'.cell? ⟨wr.heap.size, 2, none⟩ = some (.int .i64 r.f2) ∧ w'.cell? ⟨wr.heap.size, 3, none⟩ = some (.int .i64 r.f3) ∧ w'.cell? (ar.add r.f0.toNat) = some (.slice (some al) l.length cl) ∧ w'.cell? (al.add r.f1.toNat) = some (.int .i64 x)) (first | go_keep | (exact ⟨pw_cell_below HB4.out HN0.out, pw_cell_below HB4.out HN1.out, pw_cell_below HB4.out HN2.out, pw_cell_below HB4.out HN3.out, pw_cell_below HB4.out HC0.out, pw_cell_below HB4.out HC1.out⟩)) (first | (go_at_call 34; (with_reducible refine (refIn_at _ _ _ _).mono ?_); rintro e w3 ⟨rfl, hb3⟩; rw [HF.out]; have HB4 := Aside0.mk hb3; have HB3 := Aside0.mk (bthen HBX.out hb3); clear hb3))
        go_wp2
        go_ret
        refine ⟨?_, HB2.out.trans (HB3.out.mono HB2.out.size)⟩
        rw [fitB, any_of_at HE.out (by rw [HV2.out, HF.out]; rfl)]
        rfl
      · have HF := Aside0.mk hf
        clear hf
        go_region_held3 (fun w' => w'.cell? ⟨wr.heap.size, 0, none⟩ = some (.int .i64 r.f0) ∧ w'.cell? ⟨wr.heap.size, 1, none⟩ = some (.int .i64 r.f1) ∧ w'.cell? ⟨wr.heap.size, 2, none⟩ = some (.int .i64 r.f2) ∧ w'.cell? ⟨wr.heap.size, 3, none⟩ = some (.int .i64 r.f3) ∧ w'.cell? (ar.add r.f0.toNat) = some (.slice (some al) l.length cl) ∧ w'.cell? (al.add r.f1.toNat) = some (.int .i64 x)) (first | go_keep | (exact ⟨pw_cell_below HB4.out HN0.out, pw_cell_below HB4.out HN1.out, pw_cell_below HB4.out HN2.out, pw_cell_below HB4.out HN3.out, pw_cell_below HB4.out HC0.out, pw_cell_below HB4.out HC1.out⟩)) (first | (go_at_call 34; (with_reducible refine (refIn_at _ _ _ _).mono ?_); rintro e w3 ⟨rfl, hb3⟩; rw [HF.out]; have HB4 := Aside0.mk hb3; have HB3 := Aside0.mk (bthen HBX.out hb3); clear hb3))
        go_wp2
        go_roundg (gk - 1)
        case measure => have := HJ.out; omega
        case rel => exact ⟨j + 1, by have := HJ.out; omega, by go_num, ⟨idxFrom_succ HI.out HE.out (by rw [HV2.out, HF.out]; rfl)⟩, HB3.out⟩
    · obtain rfl : j = rs.length := by omega
      go_wp2
      go_ret
      refine ⟨?_, HB2.out.trans (hBr.mono HB2.out.size)⟩
      rw [fitB, any_of_all HI.out]
      rfl
end
end Go.Proofs.YtaojkmalpihmbaaGreatDoor.M

namespace Go.Proofs.YtaojkmalpihmbaaGreatDoor.M
open Go.RowKit Go.Proofs.YtaojkmalpihmbaaGreatDoorW.PrintWords Go.Proofs.YtaojkmalpihmbaaGreatDoorW.PrintLast Go.Proofs.YtaojkmalpihmbaaGreatDoorW.PrintMore Go.Proofs.YtaojkmalpihmbaaGreatDoor.Q
set_option linter.unusedVariables false
set_option linter.unusedSimpArgs false

/-! The document's Truths. -/
def stepM (L : List (List Int)) (m : S64) : List (List Int) := L.flatMap fun pl => (upTo m.f0.f0 m.f0.f1).map fun n => pl ++ [n]
def allL (ms : List S64) : List (List Int) := ms.foldl stepM [[]]
theorem stepM_append (L L' : List (List Int)) (m : S64) : stepM (L ++ L') m = stepM L m ++ stepM L' m := by simp [stepM, List.flatMap_append]
theorem foldM_append : ∀ (ms : List S64) (L L' : List (List Int)), ms.foldl stepM (L ++ L') = ms.foldl stepM L ++ ms.foldl stepM L'
  | [], _, _ => rfl
  | m :: ms, L, L' => by simp only [List.foldl_cons, stepM_append, foldM_append ms]
theorem foldM_nil : ∀ (ms : List S64), ms.foldl stepM [] = []
  | [] => rfl
  | m :: ms => by simp only [List.foldl_cons, stepM, List.flatMap_nil]; exact foldM_nil ms
theorem foldM_map (ms : List S64) (pl : List Int) : ∀ N : List Int, ms.foldl stepM (N.map fun n => pl ++ [n]) = N.flatMap fun n => ms.foldl stepM [pl ++ [n]]
  | [] => by simpa using foldM_nil ms
  | n :: N => by
    rw [List.map_cons, show (pl ++ [n]) :: N.map (fun n => pl ++ [n]) = [pl ++ [n]] ++ N.map (fun n => pl ++ [n]) from rfl, foldM_append, foldM_map ms pl N]
    simp
theorem truthsFrom_all (mv : List Int) (rs : List S66) : ∀ (ms : List S64) (pl : List Int), (truthsFrom mv rs ms pl).map (·.f0) = (ms.foldl stepM [pl]).filter fun pl => liveB rs pl mv
  | [], pl => by
    simp only [truthsFrom, List.foldl_nil, List.filter_cons, List.filter_nil]
    split <;> simp
  | m :: ms, pl => by
    simp only [truthsFrom, List.foldl_cons]
    rw [show stepM [pl] m = (upTo m.f0.f0 m.f0.f1).map fun n => pl ++ [n] from by simp [stepM], foldM_map, List.map_flatMap, List.filter_flatMap]
    congr 1
    funext n
    exact truthsFrom_all mv rs ms (pl ++ [n])
theorem okB_snoc : ∀ (l : List Int) (m : List S64) (n : Int) (x : S64), okB l m = true → meshOk n x = true → okB (l ++ [n]) (m ++ [x]) = true
  | [], [], n, x, _, h => by simp [okB, h]
  | [], _ :: _, _, _, h, _ => by simp [okB] at h
  | _ :: _, [], _, _, h, _ => by simp [okB] at h
  | a :: l, b :: m, n, x, h, h' => by
    simp only [okB, Bool.and_eq_true] at h
    simp [okB, h.1, okB_snoc l m n x h.2 h']
theorem all_mem : ∀ (ms : List S64) (L : List (List Int)) (pre : List S64), (∀ pl ∈ L, okB pl pre = true) → ∀ pl ∈ ms.foldl stepM L, okB pl (pre ++ ms) = true
  | [], L, pre, h, pl, hpl => by simpa using h pl hpl
  | m :: ms, L, pre, h, pl, hpl => by
    have := all_mem ms (stepM L m) (pre ++ [m]) (fun q hq => by
      simp only [stepM, List.mem_flatMap, List.mem_map] at hq
      obtain ⟨p0, hp0, n, hn, rfl⟩ := hq
      have h1 := upTo_mem hn
      exact okB_snoc p0 pre n m (h p0 hp0) (by simp [meshOk, inB]; omega)) pl hpl
    simpa using this
theorem okB_length : ∀ {l : List Int} {m : List S64}, okB l m = true → l.length = m.length := by
  intro l m h
  rcases Nat.decEq l.length m.length with h1 | h1
  · rw [okB_len h1] at h
    cases h
  · exact h1
theorem okB_okPl {ms : List S64} {mv : List Int} {rs : List S66} (h : pieceB ms mv rs = true) : ∀ {pl : List Int}, okB pl ms = true → okPl pl := by
  have hm := piece_meshes h
  clear h
  intro pl hb
  induction pl generalizing ms with
  | nil => exact fun n hn => by simp at hn
  | cons a pl ih =>
    cases ms with
    | nil => simp [okB] at hb
    | cons m ms =>
      simp only [okB, Bool.and_eq_true] at hb
      have h1 := hb.1
      simp only [meshOk, inB, Bool.and_eq_true, decide_eq_true_eq] at h1
      have h2 := hm m (List.mem_cons_self ..)
      intro n hn
      rcases List.mem_cons.1 hn with rfl | hn
      · omega
      · exact ih (fun x hx => hm x (List.mem_cons_of_mem _ hx)) hb.2 n hn
end Go.Proofs.YtaojkmalpihmbaaGreatDoor.M

