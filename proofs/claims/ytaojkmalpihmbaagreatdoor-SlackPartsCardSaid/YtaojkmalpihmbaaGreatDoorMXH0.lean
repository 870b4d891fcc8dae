import Derived.Test.YtaojkmalpihmbaaGreatDoorB42
namespace Go.Proofs.YtaojkmalpihmbaaGreatDoor.M
open Go.RowKit Go.Proofs.YtaojkmalpihmbaaGreatDoorW.PrintWords Go.Proofs.YtaojkmalpihmbaaGreatDoorW.PrintLast Go.Proofs.YtaojkmalpihmbaaGreatDoorW.PrintMore Go.Proofs.YtaojkmalpihmbaaGreatDoor.Q
set_option linter.unusedVariables false
set_option linter.unusedSimpArgs false

/-! Same, SameSpans at equal lists. -/
theorem same_l {l : List Int} (hl : l.length ≤ 1000) : ∀ (d j : Nat), j + d = l.length → tellurionref03_Same.l0 (d + 1) l l (j : Int) = some true
  | 0, j, h => by rw [tellurionref03_Same.l0, if_neg (by omega)]
  | d + 1, j, h => by rw [tellurionref03_Same.l0, if_pos (by omega), if_pos (by omega), if_pos (by omega), if_pos rfl, w1_nat (by omega), same_l hl d (j + 1) (by omega)]
theorem Same_eq {w : World} {A B : Option Addr} {c d : Nat} {l : List Int} (h0 : IR w A c l) (h1 : IR w B d l) : Calls Tryz.prog 16 #[.slice A l.length c, .slice B l.length d] w fun e w' => e = .returned (.bool true) ∧ Below w.heap.size w w' := by
  have hf : tellurionref03_Same.f (l.length + 1) l l = some true := by
    rw [tellurionref03_Same.f, if_pos rfl]
    exact same_l h0.l l.length 0 (by omega)
  refine (tellurionref03_Same.calls _ A c l B d l true w h0.r h0.c h1.r h1.c hf).mono ?_
  rintro e w' ⟨rfl, hd⟩
  exact ⟨rfl, hd.below⟩
theorem sameS_l {l : List S44} (hl : l.length ≤ 1000) : ∀ (d j : Nat), j + d = l.length → tellurionref03_SameSpans.l0 (d + 1) l l (j : Int) = some true
  | 0, j, h => by rw [tellurionref03_SameSpans.l0, if_neg (by omega)]
  | d + 1, j, h => by rw [tellurionref03_SameSpans.l0, if_pos (by omega), if_pos (by omega), if_pos (by omega), if_neg (by simp), w1_nat (by omega), sameS_l hl d (j + 1) (by omega)]
theorem SameSpans_eq {w : World} {A B : Option Addr} {c d : Nat} {l : List S44} (hl : l.length ≤ 1000) (h0 : Kd.C k44 w A l.length l) (hc : l.length ≤ c) (h1 : Kd.C k44 w B l.length l) (hd : l.length ≤ d) : Calls Tryz.prog 20 #[.slice A l.length c, .slice B l.length d] w fun e w' => e = .returned (.bool true) ∧ Below w.heap.size w w' := by
  have hf : tellurionref03_SameSpans.f (l.length + 1) l l = some true := by
    rw [tellurionref03_SameSpans.f, if_pos rfl]
    exact sameS_l hl l.length 0 (by omega)
  refine (tellurionref03_SameSpans.calls _ A c l B d l true w h0 hc h1 hd hf).mono ?_
  rintro e w' ⟨rfl, hd⟩
  exact ⟨rfl, hd.below⟩
end Go.Proofs.YtaojkmalpihmbaaGreatDoor.M
