import Derived.Test.YtaojkmalpihmbaaGreatDoorB12
import Derived.Test.YtaojkmalpihmbaaGreatDoorB16
import Derived.Test.YtaojkmalpihmbaaGreatDoorQR3
namespace Go.Proofs.YtaojkmalpihmbaaGreatDoor.M
open Go.RowKit Go.Proofs.YtaojkmalpihmbaaGreatDoorW.PrintWords Go.Proofs.YtaojkmalpihmbaaGreatDoorW.PrintLast Go.Proofs.YtaojkmalpihmbaaGreatDoorW.PrintMore Go.Proofs.YtaojkmalpihmbaaGreatDoor.Q
set_option linter.unusedVariables false
set_option linter.unusedSimpArgs false

/-! The document's Moved. -/
theorem mn_eq (a b : Int) : mn a b = min a b := by
  unfold mn
  split <;> omega
theorem mx_eq (a b : Int) : mx a b = max a b := by
  unfold mx
  split <;> omega
theorem rd_at {l : List Int} {j : Nat} {x : Int} (h : l[j]? = some x) : rd l (j : Int) = x := by simp [rd, List.getD_eq_getElem?_getD, h]
theorem moved_l {pl pc : List Int} (ho : okPl pl) (hlen : pc.length = pl.length + 1) (hl : pl.length ≤ 100) : ∀ (d j : Nat) (o : List Int) (p : Int), j + d = pl.length → o.length = j + 1 → o[j]? = some p → -1000000 + 100 * (d : Int) ≤ p → p ≤ 1000000 →
    tellurionref03_Moved.l0 (d + 1) pc pl o (j : Int) = some (o ++ movedGo p (pl.drop j) (pc.drop (j + 1)))
  | 0, j, o, p, h, ho', hp, h1, h2 => by
    have h3 : ¬ (j : Int) < (pl.length : Int) := by omega
    rw [tellurionref03_Moved.l0, if_neg h3, List.drop_of_length_le (by omega)]
    simp [movedGo]
  | d + 1, j, o, p, h, ho', hp, h1, h2 => by
    have hj : j < pl.length := by omega
    have hk : j + 1 < pc.length := by omega
    have hn := ho pl[j] (List.getElem_mem hj)
    have e1 : rd pl (j : Int) = pl[j] := rd_nat hj
    have e2 : rd pc ((j + 1 : Nat) : Int) = pc[j + 1] := rd_nat hk
    rw [tellurionref03_Moved.l0, if_pos (by omega), if_pos (by omega), if_pos (by omega), w1_nat (by omega), if_pos (by omega), if_pos (by omega), if_pos (by omega), rd_at hp, e1, e2, mn_eq, mx_eq, wr_in (by omega) (by omega)]
    have ih := moved_l ho hlen hl d (j + 1) (o ++ [min p (max (p - pl[j]) pc[j + 1])]) (min p (max (p - pl[j]) pc[j + 1])) (by omega) (by simp [ho']) (by rw [List.getElem?_append_right (by omega)]; simp [ho']) (by omega) (by omega)
    rw [ih, List.drop_eq_getElem_cons hj, List.drop_eq_getElem_cons hk]
    simp [movedGo]
theorem moved_f {pl pc : List Int} {K m : Int} (ho : okPl pl) (hl : pl.length ≤ 100) (h : Inv pl K pc) (hK : K ≤ 100000) (h1 : -300 ≤ m) (h2 : m ≤ 300) : ∃ k, tellurionref03_Moved.f k pc pl m = some (movedC m pl pc) := by
  have hlen := h.length
  obtain ⟨x, r, rfl, hc, hx1, hx2⟩ := h
  refine ⟨pl.length + 1, ?_⟩
  have e : rd (x :: r) 0 = x := rfl
  have hw : wrap64 (x + m) = x + m := wr_in (by omega) (by omega)
  have := moved_l (pc := x :: r) ho hlen hl pl.length 0 [x + m] (x + m) (by omega) rfl rfl (by omega) (by omega)
  rw [tellurionref03_Moved.f, if_pos (by simp), e, hw]
  rw [show ((0 : Nat) : Int) = 0 from rfl] at this
  rw [this]
  simp [movedC]
theorem Moved_at {w : World} {A B : Option Addr} {c d : Nat} {pl pc : List Int} {K m : Int} (hp : IR w A c pl) (hq : IR w B d pc) (ho : okPl pl) (h : Inv pl K pc) (hl : pl.length ≤ 100) (hK : K ≤ 100000) (h1 : -300 ≤ m) (h2 : m ≤ 300) :
    Calls Tryz.prog 92 #[.slice B pc.length d, .slice A pl.length c, .int .i64 m] w fun e w' => (∃ A' c', e = .returned (.slice A' (movedC m pl pc).length c') ∧ OwnR w' w.heap.size (movedC m pl pc) (.slice A' (movedC m pl pc).length c')) ∧ Below w.heap.size w w' := by
  obtain ⟨k, hk⟩ := moved_f ho hl h hK h1 h2
  refine (tellurionref03_Moved.calls k B d pc A c pl m _ w hq.r hq.c hp.r hp.c hk).mono ?_
  rintro e w' ⟨v, rfl, hr, hb⟩
  obtain ⟨A', c', rfl⟩ := Kd.R_slice hr
  exact ⟨⟨A', c', rfl, hr⟩, hb⟩
theorem movedGo_length : ∀ (pl r : List Int) (p : Int), r.length = pl.length → (movedGo p pl r).length = r.length
  | [], [], _, _ => rfl
  | [], _ :: _, _, h => by simp at h
  | _ :: _, [], _, h => by simp at h
  | n :: pl, q :: r, p, h => by simp [movedGo, movedGo_length pl r _ (by simpa using h)]
end Go.Proofs.YtaojkmalpihmbaaGreatDoor.M
