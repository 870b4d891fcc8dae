import Derived.Test.YtaojkmalpihmbaaGreatDoorD03
import Derived.Test.YtaojkmalpihmbaaGreatDoorB42
namespace Go.Proofs.YtaojkmalpihmbaaGreatDoor.M
open Go.RowKit Go.Proofs.YtaojkmalpihmbaaGreatDoorW.PrintWords Go.Proofs.YtaojkmalpihmbaaGreatDoorW.PrintLast Go.Proofs.YtaojkmalpihmbaaGreatDoorW.PrintMore Go.Proofs.YtaojkmalpihmbaaGreatDoor.Q
set_option linter.unusedVariables false
set_option linter.unusedSimpArgs false

/-! SlackKnowns. -/
section
variable {A0 A1 A2 : Option Addr} {c0 c1 c2 : Nat} {ms : List S64} {mv : List Int} {rs : List S66} {pl : List Int} {A : Option Addr} {c : Nat}
set_option maxHeartbeats 60000000 in
set_option maxRecDepth 100000 in
theorem knowns_calls {w : World} (hw : LibW w) (h : PQ w A0 c0 ms A1 c1 mv A2 c2 rs)  :
    Calls Tryz.prog 5 #[.agg #[.slice A0 ms.length c0, .slice A1 mv.length c1, .slice A2 rs.length c2]] w fun e w' => e = .returned (.bool true) ∧ Below w.heap.size w w' := by
  have HL := Aside0.mk hw
  have H := Aside0.mk h
  have hb0 := below_alloc (Below.refl w.heap.size w) (.cells #[.slice A0 ms.length c0, .slice A1 mv.length c1, .slice A2 rs.length c2] 26)
  have hk0 := Blk.new w #[.slice A0 ms.length c0, .slice A1 mv.length c1, .slice A2 rs.length c2] 26
  have HBz := Aside0.mk hb0
  have HK := Aside0.mk hk0
  have HS0 := Aside0.mk (short_at (h.below hb0))
  clear hw h hb0 hk0
  rcases hs : shortB ms mv rs with _ | _
  · have HSS := Aside0.mk hs
    clear hs
    go_enter Tryz.func5, Tryz.ntmps5
    go_wp2_with (first
      | (go_at_call 10; (with_reducible refine (HS0.out).mono ?_); rintro e w1 ⟨rfl, hb⟩; rw [HSS.out]; replace HBz := Aside0.mk (HBz.out.trans (Below.mono hb HBz.out.size)); replace HK := Aside0.mk (HK.out.below hb); have hk0 : World.cell? _ ⟨w.heap.size, 0, none⟩ = some (.slice A0 ms.length c0) := HK.out.cell 0 rfl; have hk1 : World.cell? _ ⟨w.heap.size, 1, none⟩ = some (.slice A1 mv.length c1) := HK.out.cell 1 rfl; have hk2 : World.cell? _ ⟨w.heap.size, 2, none⟩ = some (.slice A2 rs.length c2) := HK.out.cell 2 rfl; clear hb)
      | (go_at_call 14; (with_reducible refine (known_calls (HL.out.below HBz.out)).mono ?_); rintro e wn ⟨rfl, hb⟩; replace HBz := Aside0.mk (HBz.out.trans (Below.mono hb HBz.out.size)); clear hb))
    go_ret
    exact ⟨rfl, HBz.out⟩
  have HSS := Aside0.mk hs
  obtain ⟨hm6, hv10, hr8⟩ := short_len hs
  clear hs
  have HPR : Aside0 (PR w A0 c0 ms A1 c1 mv A2 c2 rs) := ⟨⟨H.out.r0, H.out.r1, H.out.r2, H.out.c0, H.out.c1, H.out.c2, by omega, by omega, by omega⟩⟩
  by_cases hk : askE ms mv rs true = 0
  · obtain ⟨hp, -, h0⟩ := ask_pos hk
    obtain ⟨p1, p2, p3, p4⟩ := piece_len hp
    obtain ⟨KL, hKL⟩ : ∃ KL, KL = knownL ms mv rs := ⟨_, rfl⟩
    obtain ⟨PL, hPL⟩ : ∃ PL, PL = playsL ms mv rs := ⟨_, rfl⟩
    have hkl : KL.length ≤ 1000 := by rw [hKL, knownL, if_pos hk]; simp; omega
    have hpl : PL.length ≤ 1000 := by rw [hPL, playsL, if_pos hk]; simp; omega
    have HKN : Aside0 (∀ {u : World}, Below w.heap.size w u → Calls Tryz.prog 17 #[.agg #[.slice A0 ms.length c0, .slice A1 mv.length c1, .slice A2 rs.length c2]] u fun e w' => (∃ A' c', e = .returned (.tuple #[.slice A' KL.length c', .int .i64 0]) ∧ Kd.C k44 w' A' KL.length KL ∧ KL.length ≤ c') ∧ Below u.heap.size u w') := ⟨fun {u} hu => by
      refine (Known_calls (HPR.out.below hu)).mono ?_
      rintro e w' ⟨⟨v, rfl, hr⟩, hb⟩
      rw [← hKL] at hr
      rw [hk]
      obtain ⟨A', c', rfl⟩ := Kd.R_slice hr
      obtain ⟨_, g1, g2⟩ := Kd.R_reads' hr
      exact ⟨⟨A', c', rfl, g2, g1⟩, hb⟩⟩
    have HPN : Aside0 (∀ {u : World}, Below w.heap.size w u → Calls Tryz.prog 18 #[.agg #[.slice A0 ms.length c0, .slice A1 mv.length c1, .slice A2 rs.length c2]] u fun e w' => (∃ A' c', e = .returned (.tuple #[.slice A' PL.length c', .int .i64 0]) ∧ Kd.C k44 w' A' PL.length PL ∧ PL.length ≤ c') ∧ Below u.heap.size u w') := ⟨fun {u} hu => by
      refine (Plays_calls (HPR.out.below hu)).mono ?_
      rintro e w' ⟨⟨v, rfl, hr⟩, hb⟩
      rw [← hPL] at hr
      rw [hk]
      obtain ⟨A', c', rfl⟩ := Kd.R_slice hr
      obtain ⟨_, g1, g2⟩ := Kd.R_reads' hr
      exact ⟨⟨A', c', rfl, g2, g1⟩, hb⟩⟩
    obtain ⟨RL, hRL⟩ : ∃ RL, RL = playRows ms mv rs := ⟨_, rfl⟩
    have HAS : Aside0 (∀ {u : World}, Below w.heap.size w u → Calls Tryz.prog 19 #[.agg #[.slice A0 ms.length c0, .slice A1 mv.length c1, .slice A2 rs.length c2], .bool true] u fun e w' => (∃ A' c', e = .returned (.tuple #[.slice A' RL.length c', .int .i64 0]) ∧ Kd.C kLists w' A' RL.length RL ∧ RL.length ≤ c') ∧ Below u.heap.size u w') := ⟨fun {u} hu => by
      refine (lawAsked_ok (HPR.out.below hu) true hk).mono ?_
      rintro e w' ⟨⟨v, rfl, hr⟩, hb⟩
      rw [← hRL] at hr
      obtain ⟨A', c', rfl⟩ := Kd.R_slice hr
      obtain ⟨_, g1, g2⟩ := Kd.R_reads' hr
      exact ⟨⟨A', c', rfl, g2, g1⟩, hb⟩⟩
    have HRK : Aside0 (∀ {u : World} {A' : Option Addr} {c' : Nat}, Below w.heap.size w u → Kd.C kLists u A' RL.length RL → RL.length ≤ c' → Calls Tryz.prog 21 #[.agg #[.slice A0 ms.length c0, .slice A1 mv.length c1, .slice A2 rs.length c2], .slice A' RL.length c'] u fun e w' => (∃ A' c', e = .returned (.slice A' KL.length c') ∧ Kd.C k44 w' A' KL.length KL ∧ KL.length ≤ c') ∧ Below u.heap.size u w') := ⟨fun {u} {A'} {c'} hu hc hl => by
      rw [hRL] at hc hl ⊢
      refine (RefKnown_at (HPR.out.below hu) hk hc hl).mono ?_
      rintro e w' ⟨⟨v, rfl, hr⟩, hb⟩
      rw [← hKL] at hr
      obtain ⟨A', c', rfl⟩ := Kd.R_slice hr
      obtain ⟨_, g1, g2⟩ := Kd.R_reads' hr
      exact ⟨⟨A', c', rfl, g2, g1⟩, hb⟩⟩
    have HRP : Aside0 (∀ {u : World} {A' : Option Addr} {c' : Nat}, Kd.C kLists u A' RL.length RL → RL.length ≤ c' → Calls Tryz.prog 22 #[.slice A' RL.length c'] u fun e w' => (∃ A' c', e = .returned (.slice A' PL.length c') ∧ Kd.C k44 w' A' PL.length PL ∧ PL.length ≤ c') ∧ Below u.heap.size u w') := ⟨fun {u} {A'} {c'} hc hl => by
      rw [hRL] at hc hl ⊢
      refine (Proved_at (ms := ms) (mv := mv) (rs := rs) hk hc hl).mono ?_
      rintro e w' ⟨⟨v, rfl, hr⟩, hb⟩
      rw [← hPL] at hr
      obtain ⟨A', c', rfl⟩ := Kd.R_slice hr
      obtain ⟨_, g1, g2⟩ := Kd.R_reads' hr
      exact ⟨⟨A', c', rfl, g2, g1⟩, hb⟩⟩
    have HKL9 := Aside0.mk hkl
    have HPL9 := Aside0.mk hpl
    clear hk hp h0 hKL hPL hRL hkl hpl
    go_enter Tryz.func5, Tryz.ntmps5
    go_wp2_with (first
      | (go_at_call 10; (with_reducible refine (HS0.out).mono ?_); rintro e w1 ⟨rfl, hb⟩; rw [HSS.out]; replace HBz := Aside0.mk (HBz.out.trans (Below.mono hb HBz.out.size)); replace HK := Aside0.mk (HK.out.below hb); have hk0 : World.cell? _ ⟨w.heap.size, 0, none⟩ = some (.slice A0 ms.length c0) := HK.out.cell 0 rfl; have hk1 : World.cell? _ ⟨w.heap.size, 1, none⟩ = some (.slice A1 mv.length c1) := HK.out.cell 1 rfl; have hk2 : World.cell? _ ⟨w.heap.size, 2, none⟩ = some (.slice A2 rs.length c2) := HK.out.cell 2 rfl; clear hb)
      | (go_at_call 17; (with_reducible refine (HKN.out HBz.out).mono ?_); rintro e w2 ⟨⟨Ak, ck, rfl, hrk, hck⟩, hb⟩; have QK := Aside0.mk hrk; have QKc := Aside0.mk hck; replace HBz := Aside0.mk (HBz.out.trans (Below.mono hb HBz.out.size)); replace HK := Aside0.mk (HK.out.below hb); have hk0 : World.cell? _ ⟨w.heap.size, 0, none⟩ = some (.slice A0 ms.length c0) := HK.out.cell 0 rfl; have hk1 : World.cell? _ ⟨w.heap.size, 1, none⟩ = some (.slice A1 mv.length c1) := HK.out.cell 1 rfl; have hk2 : World.cell? _ ⟨w.heap.size, 2, none⟩ = some (.slice A2 rs.length c2) := HK.out.cell 2 rfl; clear hb hrk hck)
      | (go_at_call 18; (with_reducible refine (HPN.out HBz.out).mono ?_); rintro e w3 ⟨⟨Ap, cp, rfl, hrp, hcp⟩, hb⟩; have QP := Aside0.mk hrp; have QPc := Aside0.mk hcp; replace QK := Aside0.mk (Kd.C_below QK.out hb); replace HBz := Aside0.mk (HBz.out.trans (Below.mono hb HBz.out.size)); replace HK := Aside0.mk (HK.out.below hb); have hk0 : World.cell? _ ⟨w.heap.size, 0, none⟩ = some (.slice A0 ms.length c0) := HK.out.cell 0 rfl; have hk1 : World.cell? _ ⟨w.heap.size, 1, none⟩ = some (.slice A1 mv.length c1) := HK.out.cell 1 rfl; have hk2 : World.cell? _ ⟨w.heap.size, 2, none⟩ = some (.slice A2 rs.length c2) := HK.out.cell 2 rfl; clear hb hrp hcp)
      | (go_at_call 19; (with_reducible refine (HAS.out HBz.out).mono ?_); rintro e w4 ⟨⟨Aq, cq, rfl, hrq, hcq⟩, hb⟩; have QQ := Aside0.mk hrq; have QQc := Aside0.mk hcq; replace QK := Aside0.mk (Kd.C_below QK.out hb); replace QP := Aside0.mk (Kd.C_below QP.out hb); replace HBz := Aside0.mk (HBz.out.trans (Below.mono hb HBz.out.size)); replace HK := Aside0.mk (HK.out.below hb); have hk0 : World.cell? _ ⟨w.heap.size, 0, none⟩ = some (.slice A0 ms.length c0) := HK.out.cell 0 rfl; have hk1 : World.cell? _ ⟨w.heap.size, 1, none⟩ = some (.slice A1 mv.length c1) := HK.out.cell 1 rfl; have hk2 : World.cell? _ ⟨w.heap.size, 2, none⟩ = some (.slice A2 rs.length c2) := HK.out.cell 2 rfl; clear hb hrq hcq)
      | (go_at_call 21; (with_reducible refine (HRK.out HBz.out QQ.out QQc.out).mono ?_); rintro e w5 ⟨⟨Ar, cr, rfl, hrr, hcr⟩, hb⟩; have QR := Aside0.mk hrr; have QRc := Aside0.mk hcr; replace QK := Aside0.mk (Kd.C_below QK.out hb); replace QP := Aside0.mk (Kd.C_below QP.out hb); replace QQ := Aside0.mk (Kd.C_below QQ.out hb); replace HBz := Aside0.mk (HBz.out.trans (Below.mono hb HBz.out.size)); replace HK := Aside0.mk (HK.out.below hb); have hk0 : World.cell? _ ⟨w.heap.size, 0, none⟩ = some (.slice A0 ms.length c0) := HK.out.cell 0 rfl; have hk1 : World.cell? _ ⟨w.heap.size, 1, none⟩ = some (.slice A1 mv.length c1) := HK.out.cell 1 rfl; have hk2 : World.cell? _ ⟨w.heap.size, 2, none⟩ = some (.slice A2 rs.length c2) := HK.out.cell 2 rfl; clear hb hrr hcr)
      | (go_at_call 20; (with_reducible refine (SameSpans_eq HKL9.out QK.out QKc.out QR.out QRc.out).mono ?_); rintro e w6 ⟨rfl, hb⟩; replace QP := Aside0.mk (Kd.C_below QP.out hb); replace QQ := Aside0.mk (Kd.C_below QQ.out hb); replace HBz := Aside0.mk (HBz.out.trans (Below.mono hb HBz.out.size)); replace HK := Aside0.mk (HK.out.below hb); have hk0 : World.cell? _ ⟨w.heap.size, 0, none⟩ = some (.slice A0 ms.length c0) := HK.out.cell 0 rfl; have hk1 : World.cell? _ ⟨w.heap.size, 1, none⟩ = some (.slice A1 mv.length c1) := HK.out.cell 1 rfl; have hk2 : World.cell? _ ⟨w.heap.size, 2, none⟩ = some (.slice A2 rs.length c2) := HK.out.cell 2 rfl; clear hb)
      | (go_at_call 22; (with_reducible refine (HRP.out QQ.out QQc.out).mono ?_); rintro e w7 ⟨⟨As, cs, rfl, hrs, hcs⟩, hb⟩; have QS := Aside0.mk hrs; have QSc := Aside0.mk hcs; replace QP := Aside0.mk (Kd.C_below QP.out hb); replace HBz := Aside0.mk (HBz.out.trans (Below.mono hb HBz.out.size)); replace HK := Aside0.mk (HK.out.below hb); have hk0 : World.cell? _ ⟨w.heap.size, 0, none⟩ = some (.slice A0 ms.length c0) := HK.out.cell 0 rfl; have hk1 : World.cell? _ ⟨w.heap.size, 1, none⟩ = some (.slice A1 mv.length c1) := HK.out.cell 1 rfl; have hk2 : World.cell? _ ⟨w.heap.size, 2, none⟩ = some (.slice A2 rs.length c2) := HK.out.cell 2 rfl; clear hb hrs hcs)
      | (go_at_call 20; (with_reducible refine (SameSpans_eq HPL9.out QP.out QPc.out QS.out QSc.out).mono ?_); rintro e w8 ⟨rfl, hb⟩; replace HBz := Aside0.mk (HBz.out.trans (Below.mono hb HBz.out.size)); replace HK := Aside0.mk (HK.out.below hb); have hk0 : World.cell? _ ⟨w.heap.size, 0, none⟩ = some (.slice A0 ms.length c0) := HK.out.cell 0 rfl; have hk1 : World.cell? _ ⟨w.heap.size, 1, none⟩ = some (.slice A1 mv.length c1) := HK.out.cell 1 rfl; have hk2 : World.cell? _ ⟨w.heap.size, 2, none⟩ = some (.slice A2 rs.length c2) := HK.out.cell 2 rfl; clear hb)
      | (go_at_call 14; (with_reducible refine (known_calls (HL.out.below HBz.out)).mono ?_); rintro e wn ⟨rfl, hb⟩; replace HBz := Aside0.mk (HBz.out.trans (Below.mono hb HBz.out.size)); clear hb))
    go_ret
    exact ⟨rfl, HBz.out⟩
  · obtain ⟨er, her⟩ : ∃ er, er = askE ms mv rs true := ⟨_, rfl⟩
    have hz1 : (er == 0) = false := by rw [her]; simpa using hk
    have hz2 : (er != 0) = true := by rw [bne, hz1]; rfl
    have HKN : Aside0 (∀ {u : World}, Below w.heap.size w u → Calls Tryz.prog 17 #[.agg #[.slice A0 ms.length c0, .slice A1 mv.length c1, .slice A2 rs.length c2]] u fun e w' => (∃ A' c', e = .returned (.tuple #[.slice A' 0 c', .int .i64 er])) ∧ Below u.heap.size u w') := ⟨fun {u} hu => by
      refine (Known_calls (HPR.out.below hu)).mono ?_
      rintro e w' ⟨⟨v, rfl, hr⟩, hb⟩
      rw [show knownL ms mv rs = [] from if_neg hk] at hr
      rw [← her]
      obtain ⟨A', c', rfl⟩ := Kd.R_slice hr
      exact ⟨⟨A', c', rfl⟩, hb⟩⟩
    have HPN : Aside0 (∀ {u : World}, Below w.heap.size w u → Calls Tryz.prog 18 #[.agg #[.slice A0 ms.length c0, .slice A1 mv.length c1, .slice A2 rs.length c2]] u fun e w' => (∃ A' c', e = .returned (.tuple #[.slice A' 0 c', .int .i64 er])) ∧ Below u.heap.size u w') := ⟨fun {u} hu => by
      refine (Plays_calls (HPR.out.below hu)).mono ?_
      rintro e w' ⟨⟨v, rfl, hr⟩, hb⟩
      rw [show playsL ms mv rs = [] from if_neg hk] at hr
      rw [← her]
      obtain ⟨A', c', rfl⟩ := Kd.R_slice hr
      exact ⟨⟨A', c', rfl⟩, hb⟩⟩
    have HAS : Aside0 (∀ {u : World}, Below w.heap.size w u → Calls Tryz.prog 19 #[.agg #[.slice A0 ms.length c0, .slice A1 mv.length c1, .slice A2 rs.length c2], .bool true] u fun e w' => e = .returned (.tuple #[.slice none 0 0, .int .i64 er]) ∧ Below u.heap.size u w') := ⟨fun {u} hu => by
      rw [her]
      exact lawAsked_no (HPR.out.below hu) true hk⟩
    clear hk her
    go_enter Tryz.func5, Tryz.ntmps5
    go_wp2_with (first
      | (go_at_call 10; (with_reducible refine (HS0.out).mono ?_); rintro e w1 ⟨rfl, hb⟩; rw [HSS.out]; replace HBz := Aside0.mk (HBz.out.trans (Below.mono hb HBz.out.size)); replace HK := Aside0.mk (HK.out.below hb); have hk0 : World.cell? _ ⟨w.heap.size, 0, none⟩ = some (.slice A0 ms.length c0) := HK.out.cell 0 rfl; have hk1 : World.cell? _ ⟨w.heap.size, 1, none⟩ = some (.slice A1 mv.length c1) := HK.out.cell 1 rfl; have hk2 : World.cell? _ ⟨w.heap.size, 2, none⟩ = some (.slice A2 rs.length c2) := HK.out.cell 2 rfl; clear hb)
      | (go_at_call 17; (with_reducible refine (HKN.out HBz.out).mono ?_); rintro e w2 ⟨⟨Ak, ck, rfl⟩, hb⟩; replace HBz := Aside0.mk (HBz.out.trans (Below.mono hb HBz.out.size)); replace HK := Aside0.mk (HK.out.below hb); have hk0 : World.cell? _ ⟨w.heap.size, 0, none⟩ = some (.slice A0 ms.length c0) := HK.out.cell 0 rfl; have hk1 : World.cell? _ ⟨w.heap.size, 1, none⟩ = some (.slice A1 mv.length c1) := HK.out.cell 1 rfl; have hk2 : World.cell? _ ⟨w.heap.size, 2, none⟩ = some (.slice A2 rs.length c2) := HK.out.cell 2 rfl; clear hb)
      | (go_at_call 18; (with_reducible refine (HPN.out HBz.out).mono ?_); rintro e w3 ⟨⟨Ap, cp, rfl⟩, hb⟩; replace HBz := Aside0.mk (HBz.out.trans (Below.mono hb HBz.out.size)); replace HK := Aside0.mk (HK.out.below hb); have hk0 : World.cell? _ ⟨w.heap.size, 0, none⟩ = some (.slice A0 ms.length c0) := HK.out.cell 0 rfl; have hk1 : World.cell? _ ⟨w.heap.size, 1, none⟩ = some (.slice A1 mv.length c1) := HK.out.cell 1 rfl; have hk2 : World.cell? _ ⟨w.heap.size, 2, none⟩ = some (.slice A2 rs.length c2) := HK.out.cell 2 rfl; clear hb)
      | (go_at_call 19; (with_reducible refine (HAS.out HBz.out).mono ?_); rintro e w4 ⟨rfl, hb⟩; replace HBz := Aside0.mk (HBz.out.trans (Below.mono hb HBz.out.size)); replace HK := Aside0.mk (HK.out.below hb); have hk0 : World.cell? _ ⟨w.heap.size, 0, none⟩ = some (.slice A0 ms.length c0) := HK.out.cell 0 rfl; have hk1 : World.cell? _ ⟨w.heap.size, 1, none⟩ = some (.slice A1 mv.length c1) := HK.out.cell 1 rfl; have hk2 : World.cell? _ ⟨w.heap.size, 2, none⟩ = some (.slice A2 rs.length c2) := HK.out.cell 2 rfl; clear hb)
      | (go_at_call 14; (with_reducible refine (known_calls (HL.out.below HBz.out)).mono ?_); rintro e wn ⟨rfl, hb⟩; replace HBz := Aside0.mk (HBz.out.trans (Below.mono hb HBz.out.size)); clear hb))
    go_ret
    exact ⟨rfl, HBz.out⟩
end
end Go.Proofs.YtaojkmalpihmbaaGreatDoor.M
