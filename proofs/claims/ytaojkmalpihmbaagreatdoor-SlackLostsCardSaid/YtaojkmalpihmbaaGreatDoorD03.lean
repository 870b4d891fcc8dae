import Derived.Test.YtaojkmalpihmbaaGreatDoorD02
import Derived.Test.YtaojkmalpihmbaaGreatDoorB24
import Derived.Test.YtaojkmalpihmbaaGreatDoorB42
namespace Go.Proofs.YtaojkmalpihmbaaGreatDoor.M
open Go.RowKit Go.Proofs.YtaojkmalpihmbaaGreatDoorW.PrintWords Go.Proofs.YtaojkmalpihmbaaGreatDoorW.PrintLast Go.Proofs.YtaojkmalpihmbaaGreatDoorW.PrintMore Go.Proofs.YtaojkmalpihmbaaGreatDoor.Q
set_option linter.unusedVariables false
set_option linter.unusedSimpArgs false

/-! The document's Known and Proved, over all truths. -/
section
variable {A0 A1 A2 : Option Addr} {c0 c1 c2 : Nat} {ms : List S64} {mv : List Int} {rs : List S66}
theorem rows_ok (h : pieceB ms mv rs = true) : ∀ pl ∈ playRows ms mv rs, okPl pl ∧ pl.length ≤ 100 ∧ pl.length = ms.length := by
  intro pl hpl
  obtain ⟨p1, p2, _⟩ := piece_len h
  obtain ⟨x, hx, rfl⟩ := List.mem_map.1 hpl
  obtain ⟨h1, h2⟩ := truthsL_mem hx
  exact ⟨(truthsL_form h hx h1).1, by omega, h1⟩
theorem ends_eq (h : pieceB ms mv rs = true) : (playRows ms mv rs).map (fun pl => lastC pl mv) = (truthsL ms mv rs).map (·.f1) := by
  unfold playRows
  rw [List.map_map]
  refine List.map_congr_left fun x hx => ?_
  exact (truthsL_form h hx (truthsL_mem hx).1).2.1.symm
theorem rows_length : (playRows ms mv rs).length = (truthsL ms mv rs).length := by simp [playRows]
theorem ask_pos {fine : Bool} (hk : askE ms mv rs fine = 0) : pieceB ms mv rs = true ∧ fine = true ∧ 0 < (truthsL ms mv rs).length := by
  obtain ⟨hp, rfl⟩ := askE_piece hk
  refine ⟨hp, rfl, List.length_pos_iff.2 fun e => ?_⟩
  unfold askE at hk
  rw [hp, e] at hk
  simp at hk
theorem Proved_at {w : World} {A : Option Addr} {c : Nat} (hk : askE ms mv rs true = 0) (hL : Kd.C kLists w A (playRows ms mv rs).length (playRows ms mv rs)) (hc : (playRows ms mv rs).length ≤ c) :
    Calls Tryz.prog 22 #[.slice A (playRows ms mv rs).length c] w fun e w' => (∃ v, e = .returned v ∧ Kd.R k44 44 w' w.heap.size (fun _ => True) v (playsL ms mv rs)) ∧ Below w.heap.size w w' := by
  obtain ⟨hp, -, h0⟩ := ask_pos hk
  have h6 := truthsL_length hp
  have hrl : (playRows ms mv rs).length = (truthsL ms mv rs).length := rows_length
  obtain ⟨p1, p2, _⟩ := piece_len hp
  have HH := Aside0.mk (refHulls_calls hL hc (by omega) (by omega) (fun l hl => (rows_ok hp l hl).2.2) (show ms.length ≤ 1000 by omega))
  have he : (List.range ms.length).map (fun i => hullS i (playRows ms mv rs)) = playsL ms mv rs := by
    rw [playsL, if_pos hk]
    refine List.map_congr_left fun i _ => ?_
    exact hull_over i (·.f0) (truthsL ms mv rs)
  obtain ⟨n, hn⟩ : ∃ n, (playRows ms mv rs).length = n := ⟨_, rfl⟩
  rw [hn] at HH ⊢
  rw [he] at HH
  clear hL hc hn hk hp h0 h6 hrl p1 p2 he
  go_enter Tryz.func22, Tryz.ntmps22
  go_wp2_with (go_at_call 54; (with_reducible refine HH.out.mono ?_); rintro e w1 ⟨⟨v, rfl, hr⟩, hb⟩; have HR := Aside0.mk hr; have HB := Aside0.mk hb; clear hr hb)
  go_ret
  exact ⟨⟨_, rfl, HR.out⟩, HB.out⟩
theorem RefKnown_at {w : World} (h : PR w A0 c0 ms A1 c1 mv A2 c2 rs) {A : Option Addr} {c : Nat} (hk : askE ms mv rs true = 0) (hL : Kd.C kLists w A (playRows ms mv rs).length (playRows ms mv rs)) (hc : (playRows ms mv rs).length ≤ c) :
    Calls Tryz.prog 21 #[.agg #[.slice A0 ms.length c0, .slice A1 mv.length c1, .slice A2 rs.length c2], .slice A (playRows ms mv rs).length c] w fun e w' => (∃ v, e = .returned v ∧ Kd.R k44 44 w' w.heap.size (fun _ => True) v (knownL ms mv rs)) ∧ Below w.heap.size w w' := by
  obtain ⟨hp, -, h0⟩ := ask_pos hk
  have h6 := truthsL_length hp
  have hrl : (playRows ms mv rs).length = (truthsL ms mv rs).length := rows_length
  obtain ⟨p1, p2, p3, _⟩ := piece_len hp
  have HB0 := Aside0.mk (below_alloc (Below.refl w.heap.size w) (.cells #[.slice A0 ms.length c0, .slice A1 mv.length c1, .slice A2 rs.length c2] 26))
  have HE := Aside0.mk (refEnds_calls (h.below HB0.out) (Kd.C_below hL HB0.out) hc (by omega) (fun pl hpl => ⟨(rows_ok hp pl hpl).1, (rows_ok hp pl hpl).2.1⟩) (piece_okMv hp) (by omega))
  have HH : Aside0 (∀ {u : World} {v : Value}, Kd.R kLists 23 u w.heap.size (fun _ => True) v ((truthsL ms mv rs).map (·.f1)) → Calls Tryz.prog 54 #[v] u fun e w' => (∃ v, e = .returned v ∧ Kd.R k44 44 w' u.heap.size (fun _ => True) v (knownL ms mv rs)) ∧ Below u.heap.size u w') := ⟨fun {u} {v} hv => by
    obtain ⟨A', c', rfl⟩ := Kd.R_slice hv
    obtain ⟨_, g1, g2⟩ := Kd.R_reads' hv
    have h1 := refHulls_calls g2 g1 (by rw [List.length_map]; omega) (by rw [List.length_map]; omega) (n := ms.length + 1) (fun l hl => by
      obtain ⟨x, hx, rfl⟩ := List.mem_map.1 hl
      exact (truthsL_mem hx).2) (by omega)
    have he : (List.range (ms.length + 1)).map (fun i => hullS i ((truthsL ms mv rs).map (·.f1))) = knownL ms mv rs := by
      rw [knownL, if_pos hk]
      refine List.map_congr_left fun i _ => ?_
      exact hull_over i (·.f1) (truthsL ms mv rs)
    rw [he] at h1
    exact h1⟩
  rw [ends_eq hp] at HE
  obtain ⟨n, hn⟩ : ∃ n, (playRows ms mv rs).length = n := ⟨_, rfl⟩
  rw [hn] at HE ⊢
  clear hL hc hn hk hp h0 h6 hrl p1 p2 p3 h
  go_enter Tryz.func21, Tryz.ntmps21
  go_wp2_with (first
    | (go_at_call 55; (with_reducible refine HE.out.mono ?_); rintro e w1 ⟨⟨v, rfl, hr⟩, hb⟩; have HR1 := Aside0.mk (Kd.R_lower (base' := w.heap.size) hr HB0.out.size); have HB1 := Aside0.mk (bthen HB0.out hb); clear hr hb)
    | (go_at_call 54; (with_reducible refine (HH.out HR1.out).mono ?_); rintro e w2 ⟨⟨v2, rfl, hr⟩, hb⟩; have HR2 := Aside0.mk (Kd.R_lower (base' := w.heap.size) hr HB1.out.size); have HB2 := Aside0.mk (bthen HB1.out hb); clear hr hb))
  go_ret
  exact ⟨⟨_, rfl, HR2.out⟩, HB2.out⟩
end
end Go.Proofs.YtaojkmalpihmbaaGreatDoor.M

namespace Go.Proofs.YtaojkmalpihmbaaGreatDoor.M
open Go.RowKit Go.Proofs.YtaojkmalpihmbaaGreatDoorW.PrintWords Go.Proofs.YtaojkmalpihmbaaGreatDoorW.PrintLast Go.Proofs.YtaojkmalpihmbaaGreatDoorW.PrintMore Go.Proofs.YtaojkmalpihmbaaGreatDoor.Q
set_option linter.unusedVariables false
set_option linter.unusedSimpArgs false

/-! Same, SameSpans at equal lists. -/
theorem same_l {l : List Int} (hl : l.length ≤ 1000) : ∀ (d j : Nat), j + d = l.length → tellurionref03_Same.l0 (d + 1) l l (j : Int) = some true
  | 0, j, h => by rw [tellurionref03_Same.l0, if_neg (by omega)]
  | d + 1, j, h => by rw [tellurionref03_Same.l0, if_pos (by omega), if_pos (by omega), if_pos (by omega), if_pos rfl, w1_nat (by omega), same_l hl d (j + 1) (by omega)]
theorem Same_eq {w : World} {A B : Option Addr} {c d : Nat} {l : List Int} (h0 : IR w A c l) (h1 : IR w B d l) : Calls Tryz.prog 16 #[.slice A l.length c, .slice B l.length d] w fun e w' => e = .returned (.bool true) ∧ Below w.heap.size w w' := by
  have hf : tellurionref03_Same.f (l.length + 1) l l = some true := by
    rw [tellurionref03_Same.f, if_pos rfl]
    exact same_l h0.l l.length 0 (by omega)
  refine (tellurionref03_Same.calls _ A c l B d l true w h0.r h0.c h1.r h1.c hf).mono ?_
  rintro e w' ⟨rfl, hd⟩
  exact ⟨rfl, hd.below⟩
theorem sameS_l {l : List S44} (hl : l.length ≤ 1000) : ∀ (d j : Nat), j + d = l.length → tellurionref03_SameSpans.l0 (d + 1) l l (j : Int) = some true
  | 0, j, h => by rw [tellurionref03_SameSpans.l0, if_neg (by omega)]
  | d + 1, j, h => by rw [tellurionref03_SameSpans.l0, if_pos (by omega), if_pos (by omega), if_pos (by omega), if_neg (by simp), w1_nat (by omega), sameS_l hl d (j + 1) (by omega)]
theorem SameSpans_eq {w : World} {A B : Option Addr} {c d : Nat} {l : List S44} (hl : l.length ≤ 1000) (h0 : Kd.C k44 w A l.length l) (hc : l.length ≤ c) (h1 : Kd.C k44 w B l.length l) (hd : l.length ≤ d) : Calls Tryz.prog 20 #[.slice A l.length c, .slice B l.length d] w fun e w' => e = .returned (.bool true) ∧ Below w.heap.size w w' := by
  have hf : tellurionref03_SameSpans.f (l.length + 1) l l = some true := by
    rw [tellurionref03_SameSpans.f, if_pos rfl]
    exact sameS_l hl l.length 0 (by omega)
  refine (tellurionref03_SameSpans.calls _ A c l B d l true w h0 hc h1 hd hf).mono ?_
  rintro e w' ⟨rfl, hd⟩
  exact ⟨rfl, hd.below⟩
end Go.Proofs.YtaojkmalpihmbaaGreatDoor.M

