import Derived.Test.YtaojkmalpihmbaaGreatDoorB25
import Derived.Test.YtaojkmalpihmbaaGreatDoorB12
import Derived.Deep.RegionHeld3
namespace Go.Proofs.YtaojkmalpihmbaaGreatDoor.M
open Go.RowKit Go.Proofs.YtaojkmalpihmbaaGreatDoorW.PrintWords Go.Proofs.YtaojkmalpihmbaaGreatDoorW.PrintLast Go.Proofs.YtaojkmalpihmbaaGreatDoorW.PrintMore Go.Proofs.YtaojkmalpihmbaaGreatDoor.Q
set_option linter.unusedVariables false
set_option linter.unusedSimpArgs false

/-! isHand, floor, shows. -/
/-- A list of spans is read so. -/
structure ER (w : World) (A : Option Addr) (c : Nat) (l : List S44) : Prop where
  r : Kd.C k44 w A l.length l
  c : l.length ≤ c
  l : l.length ≤ 1000
theorem ER.below {w w1 : World} {A : Option Addr} {c : Nat} {l : List S44} (h : ER w A c l) (hb : Below w.heap.size w w1) : ER w1 A c l := ⟨Kd.C_below h.r hb, h.c, h.l⟩
def handBad (x : S44) : Bool := !spanB x.f0 x.f1 (-30) 30
theorem isHand1_calls (w : World) : AnyFn 94 #[] w (fun x : S44 => .agg #[.int .i64 x.f0, .int .i64 x.f1]) handBad := by
  refine ⟨ent Tryz.func94 (by kernel_rfl) rfl, ?_⟩
  intro x W hB
  go_enter Tryz.func94, Tryz.ntmps94
  go_wp2_with ((with_reducible refine (isSpan_calls _ _ _ _ _).mono ?_); rintro e w1 ⟨rfl, hb1⟩)
  go_ret
  exact ⟨rfl, ((Below.refl _ _).alloc (Nat.le_refl _) _).trans (hb1.mono (by simp))⟩
def handB (n : Nat) (arb num den : Int) (es : List S44) : Bool := inB arb 0 n && (inB num 1 100 && (inB den 1 100 && (inB es.length 1 8 && !anyB handBad es)))
set_option maxHeartbeats 2000000 in
set_option maxRecDepth 100000 in
theorem isHand_calls {w : World} (A0 A1 A2 : Option Addr) (n0 c0 n1 c1 n2 c2 : Nat) (h : n0 ≤ 1000) (arb num den : Int) {AE : Option Addr} {ce : Nat} {es : List S44} (he : ER w AE ce es) :
    Calls Tryz.prog 61 #[.agg #[.slice A0 n0 c0, .slice A1 n1 c1, .slice A2 n2 c2], .agg #[.int .i64 arb, .int .i64 num, .int .i64 den, .slice AE es.length ce]] w fun e w' => e = .returned (.bool (handB n0 arb num den es)) ∧ Below w.heap.size w w' := by
  have HE := Aside0.mk he
  have hl := he.l
  have HB0 := Aside0.mk (below_alloc (below_alloc (Below.refl w.heap.size w) (.cells #[.slice A0 n0 c0, .slice A1 n1 c1, .slice A2 n2 c2] 26)) (.cells #[.int .i64 arb, .int .i64 num, .int .i64 den, .slice AE es.length ce] 52))
  have hk := Blk.new (w.alloc (.cells #[.slice A0 n0 c0, .slice A1 n1 c1, .slice A2 n2 c2] 26)) #[.int .i64 arb, .int .i64 num, .int .i64 den, .slice AE es.length ce] 52
  rw [World.size_alloc] at hk
  have HK := Aside0.mk hk
  clear he hk
  go_enter Tryz.func61, Tryz.ntmps61
  go_wp2_with (first | (go_at_call 56; (with_reducible refine (isArbor_calls A0 A1 A2 n0 c0 n1 c1 n2 c2 arb 0 h).mono ?_); rintro e w1 ⟨rfl, hb1⟩; have HB1 := Aside0.mk (bthen HB0.out hb1); have hk1 := HK.out.below hb1; have hq0 := hk1.cell 0 rfl; have hq1 := hk1.cell 1 rfl; have hq2 := hk1.cell 2 rfl; have hq3 := hk1.cell 3 rfl; have hql := hk1.lt; clear hb1 hk1) | (go_at_call 76; (with_reducible refine (in_calls _ _ _ _).mono ?_); rintro e w2 ⟨rfl, rfl⟩) | (go_at_call 93; (with_reducible refine (containsSpan_calls 94 #[] handBad _ AE ce es (HE.out.below HB1.out).r HE.out.c hl (isHand1_calls _)).mono ?_); rintro e w3 ⟨rfl, hb3⟩; have HB3 := Aside0.mk (bthen HB1.out hb3); clear hb3))
  all_goals go_ret
  all_goals exact ⟨ret_bool (by first | (simp [handB, *]; done) | (simp [handB, *, Bool.and_assoc]; done)), (by first | exact HB3.out | exact HB1.out | exact HB0.out)⟩
theorem tdiv_parts (a b : Int) (hb : 0 < b) : a.tmod b + b * a.tdiv b = a ∧ -b < a.tmod b ∧ a.tmod b < b := by
  have h1 := Int.tmod_add_mul_tdiv a b
  have h2 := Int.tmod_lt_of_pos a hb
  refine ⟨h1, ?_, h2⟩
  have h3 := Int.tmod_lt_of_pos (-a) hb
  rw [Int.neg_tmod] at h3
  omega
theorem floor_neg {a b : Int} (hb : 0 < b) (h : a.tmod b < 0) : a / b = a.tdiv b - 1 ∧ a % b = a.tmod b + b := by
  obtain ⟨h1, h2, h3⟩ := tdiv_parts a b hb
  refine (Int.ediv_emod_unique hb).2 ⟨?_, by omega, by omega⟩
  rw [Int.mul_sub]
  omega
theorem floor_pos {a b : Int} (hb : 0 < b) (h : ¬ a.tmod b < 0) : a / b = a.tdiv b ∧ a % b = a.tmod b := by
  obtain ⟨h1, h2, h3⟩ := tdiv_parts a b hb
  exact (Int.ediv_emod_unique hb).2 ⟨h1, by omega, h3⟩
theorem tdiv_bound {a b M : Int} (hb : 1 ≤ b) (h1 : -M ≤ a) (h2 : a ≤ M) : -M ≤ a.tdiv b ∧ a.tdiv b ≤ M := by
  have h3 := Int.natAbs_tdiv_le_natAbs a b
  omega
theorem floor_calls (a b : Int) (w : World) (ha1 : -1000000000 ≤ a) (ha2 : a ≤ 1000000000) (hb1 : 1 ≤ b) (hb2 : b ≤ 1000000) :
    Calls Tryz.prog 96 #[.int .i64 a, .int .i64 b] w fun e w' => e = .returned (.tuple #[.int .i64 (a / b), .int .i64 (a % b)]) ∧ Below w.heap.size w w' := by
  have h0 : (b == 0) = false := by simp; omega
  have hq := tdiv_bound hb1 ha1 ha2
  have hr := (tdiv_parts a b (by omega)).2
  have HN := Aside0.mk (@floor_neg a b (by omega))
  have HP := Aside0.mk (@floor_pos a b (by omega))
  obtain ⟨hq1, hq2⟩ := hq
  obtain ⟨hr1, hr2⟩ := hr
  by_cases hm : a.tmod b < 0
  all_goals
    have HM := Aside0.mk hm
    have hm' := hm
    clear hm
    go_enter Tryz.func96, Tryz.ntmps96
    go_upto_region 1 with fail
    go_quiet (fail)
    go_wp2
    go_ret2
  · exact ⟨by rw [(HN.out HM.out).1, (HN.out HM.out).2]; rfl, below_drewN (Below.refl _ _) nq⟩
  · exact ⟨by rw [(HP.out HM.out).1, (HP.out HM.out).2]; rfl, below_drewN (Below.refl _ _) nq⟩
/-- What a hand shows if its arbor is at some place. -/
def showsF (num den : Int) (es : List S44) (v : Int) : S44 :=
  ⟨v * num / den + (es.getD (v * num / den % 21600 * (es.length : Int) / 21600).toNat ⟨0, 0⟩).f0, v * num / den + (es.getD (v * num / den % 21600 * (es.length : Int) / 21600).toNat ⟨0, 0⟩).f1⟩
structure HandP (num den : Int) (es : List S44) : Prop where
  n1 : 1 ≤ num
  n2 : num ≤ 100
  d1 : 1 ≤ den
  d2 : den ≤ 100
  l1 : 1 ≤ es.length
  l2 : es.length ≤ 8
  e : ∀ x ∈ es, -30 ≤ x.f0 ∧ x.f0 ≤ x.f1 ∧ x.f1 ≤ 30
theorem handB_P {n : Nat} {arb num den : Int} {es : List S44} (h : handB n arb num den es = true) : (0 ≤ arb ∧ arb ≤ n) ∧ HandP num den es := by
  simp [handB, inB, anyB] at h
  obtain ⟨⟨h1, h2⟩, ⟨h3, h4⟩, ⟨h5, h6⟩, ⟨h7, h8⟩, h9⟩ := h
  refine ⟨⟨h1, h2⟩, h3, h4, h5, h6, by omega, by omega, fun x hx => ?_⟩
  have := h9 x hx
  simp [handBad, spanB] at this
  omega
theorem mul_bound {v num : Int} (h1 : -100000 ≤ v) (h2 : v ≤ 100000) (h3 : 1 ≤ num) (h4 : num ≤ 100) : -10000000 ≤ v * num ∧ v * num ≤ 10000000 := by
  have a1 := Int.mul_le_mul_of_nonneg_right h2 (show 0 ≤ num by omega)
  have a2 := Int.mul_le_mul_of_nonneg_right h1 (show 0 ≤ num by omega)
  omega
theorem div_bound {a b M : Int} (hb : 1 ≤ b) (hM : 0 ≤ M) (h1 : -M ≤ a) (h2 : a ≤ M) : -M ≤ a / b ∧ a / b ≤ M := by
  constructor
  · refine Int.le_ediv_of_mul_le (by omega) ?_
    have := Int.mul_le_mul_of_nonneg_left hb hM
    rw [Int.neg_mul]
    omega
  · rcases Int.lt_or_le a 0 with h | h
    · have := Int.ediv_neg_of_neg_of_pos h (show 0 < b by omega)
      omega
    · have := Int.ediv_le_self b h
      omega
theorem step_idx {R : Int} {n : Nat} (h1 : 0 ≤ R) (h2 : R < 21600) (h3 : 1 ≤ n) (h4 : n ≤ 8) : 0 ≤ R * (n : Int) ∧ R * (n : Int) ≤ 172800 ∧ ∃ i : Nat, R * (n : Int) / 21600 = (i : Int) ∧ i < n := by
  have a1 := Int.mul_nonneg h1 (show (0 : Int) ≤ (n : Int) by omega)
  have a2 := Int.mul_le_mul_of_nonneg_right (show R ≤ 21600 by omega) (show (0 : Int) ≤ (n : Int) by omega)
  have a3 := Int.mul_lt_mul_of_pos_right h2 (show (0 : Int) < (n : Int) by omega)
  refine ⟨a1, by omega, (R * (n : Int) / 21600).toNat, by omega, by omega⟩
set_option maxHeartbeats 2000000 in
set_option maxRecDepth 100000 in
theorem shows_calls {w : World} {A : Option Addr} {c : Nat} {A' : Option Addr} {c' : Nat} {x : S89} (h : TR w A c A' c' x) {AE : Option Addr} {ce : Nat} {es : List S44} (he : ER w AE ce es) {num den : Int} (hp : HandP num den es)
    (i : Nat) {v : Int} (hv : x.f1[i]? = some v) (hv1 : -100000 ≤ v) (hv2 : v ≤ 100000) :
    Calls Tryz.prog 63 #[.agg #[.slice A x.f0.length c, .slice A' x.f1.length c'], .agg #[.int .i64 i, .int .i64 num, .int .i64 den, .slice AE es.length ce]] w fun e w' =>
      e = .returned (.agg #[.int .i64 (showsF num den es v).f0, .int .i64 (showsF num den es v).f1]) ∧ Below w.heap.size w w' := by
  obtain ⟨n1, n2, d1, d2, l1, l2, hes⟩ := hp
  have hi := (List.getElem?_eq_some_iff.1 hv).1
  have hl := h.q.l
  obtain ⟨ad, rfl, hc⟩ := at_int h.q.r hv hi
  obtain ⟨hm1, hm2⟩ := mul_bound hv1 hv2 n1 n2
  obtain ⟨hd1, hd2⟩ := div_bound d1 (by decide) hm1 hm2
  have hr1 := Int.emod_nonneg (v * num / den) (show (21600 : Int) ≠ 0 by decide)
  have hr2 := Int.emod_lt_of_pos (v * num / den) (show (0 : Int) < 21600 by decide)
  obtain ⟨hs1, hs2, k, hk, hkn⟩ := step_idx hr1 hr2 l1 l2
  obtain ⟨s, hs⟩ : ∃ s, es[k]? = some s := ⟨_, List.getElem?_eq_getElem hkn⟩
  obtain ⟨hz1, hz2, hz3⟩ := hes s (List.mem_of_getElem? hs)
  have HF : Aside0 (showsF num den es v = ⟨v * num / den + s.f0, v * num / den + s.f1⟩) := ⟨by simp only [showsF, hk, Int.toNat_natCast, List.getD_eq_getElem?_getD, hs, Option.getD_some]⟩
  obtain ⟨ae, rfl, hd0, hd1'⟩ := at_span he.r hs hkn
  have hcA : ∀ o o' o'' : Obj, (((w.alloc o).alloc o').alloc o'').cell? (ad.add i) = some (.int .i64 v) := fun o o' o'' => pw_cell_below (below_alloc (below_alloc (below_alloc (Below.refl _ _) o) o') o'') hc
  have HD0 := Aside0.mk hd0
  have HD1 := Aside0.mk hd1'
  have hB0 := below_alloc (below_alloc (below_alloc (Below.refl w.heap.size w) (.cells #[.slice A x.f0.length c, .slice (some ad) x.f1.length c'] 89)) (.cells #[.int .i64 i, .int .i64 num, .int .i64 den, .slice (some ae) es.length ce] 52)) (.cells #[.int .i64 0, .int .i64 0] 44)
  have HB0 := Aside0.mk hB0
  have hkt := ((Blk.new w #[.slice A x.f0.length c, .slice (some ad) x.f1.length c'] 89).alloc (.cells #[.int .i64 i, .int .i64 num, .int .i64 den, .slice (some ae) es.length ce] 52)).alloc (.cells #[.int .i64 0, .int .i64 0] 44)
  have hkh := (Blk.new (w.alloc (.cells #[.slice A x.f0.length c, .slice (some ad) x.f1.length c'] 89)) #[.int .i64 i, .int .i64 num, .int .i64 den, .slice (some ae) es.length ce] 52).alloc (.cells #[.int .i64 0, .int .i64 0] 44)
  have hkr := Blk.new ((w.alloc (.cells #[.slice A x.f0.length c, .slice (some ad) x.f1.length c'] 89)).alloc (.cells #[.int .i64 i, .int .i64 num, .int .i64 den, .slice (some ae) es.length ce] 52)) #[.int .i64 0, .int .i64 0] 44
  simp only [World.size_alloc] at hkh hkr
  obtain ⟨AT, hAT⟩ : ∃ AT, AT = v * num / den := ⟨_, rfl⟩
  obtain ⟨R, hR⟩ : ∃ R, R = AT % 21600 := ⟨_, rfl⟩
  rw [← hAT] at hd1 hd2 hr1 hr2 hs1 hs2 hk HF
  rw [← hR] at hr1 hr2 hs1 hs2 hk
  have HF1 : Aside0 (∀ W, Calls Tryz.prog 96 #[.int .i64 (v * num), .int .i64 den] W fun e w' => (∃ z, e = .returned (.tuple #[.int .i64 AT, .int .i64 z])) ∧ Below W.heap.size W w') := ⟨fun W => (floor_calls _ _ W (by omega) (by omega) d1 (by omega)).mono fun e w' h => ⟨⟨_, by rw [hAT]; exact h.1⟩, h.2⟩⟩
  have HF2 : Aside0 (∀ W, Calls Tryz.prog 96 #[.int .i64 AT, .int .i64 21600] W fun e w' => (∃ z, e = .returned (.tuple #[.int .i64 z, .int .i64 R])) ∧ Below W.heap.size W w') := ⟨fun W => (floor_calls _ _ W (by omega) (by omega) (by decide) (by decide)).mono fun e w' h => ⟨⟨_, by rw [hR]; exact h.1⟩, h.2⟩⟩
  have HKT := Aside0.mk hkt
  have HKH := Aside0.mk hkh
  have HKR := Aside0.mk hkr
  clear h he hv hs hes hc hd0 hd1' hB0 hkt hkh hkr hAT hR
  have hi0 : (0 : Int) ≤ (i : Int) := by omega
  have hi1 : (i : Int) < (x.f1.length : Int) := by omega
  go_enter Tryz.func63, Tryz.ntmps63
  go_upto_region 1 with fail
  obtain ⟨W3, hW3⟩ : ∃ W3, ((w.alloc (.cells #[.slice A x.f0.length c, .slice (some ad) x.f1.length c'] 89)).alloc (.cells #[.int .i64 i, .int .i64 num, .int .i64 den, .slice (some ae) es.length ce] 52)).alloc (.cells #[.int .i64 0, .int .i64 0] 44) = W3 := ⟨_, rfl⟩
  have hcW := hcA (.cells #[.slice A x.f0.length c, .slice (some ad) x.f1.length c'] 89) (.cells #[.int .i64 i, .int .i64 num, .int .i64 den, .slice (some ae) es.length ce] 52) (.cells #[.int .i64 0, .int .i64 0] 44)
  rw [hW3] at HB0 HKT HKH HKR hcW ⊢
  have hsz : w.heap.size + 1 + 1 < W3.heap.size := HKR.out.lt
  clear hW3 hcA
  have ht1 := HKT.out.cell 1 rfl
  have hh0 := HKH.out.cell 0 rfl
  have hh1 := HKH.out.cell 1 rfl
  have hh2 := HKH.out.cell 2 rfl
  have hpr : IntKind.i64.wrap (v * num) = v * num := IntWalk.i64_in _ (by omega)
  go_cut [5] (fun s5 wx => s5 = .int .i64 AT ∧ Aside0 (Below W3.heap.size W3 wx))
  case first =>
    go_region_held3 (fun w' => w'.cell? ⟨w.heap.size, 1, none⟩ = some (.slice (some ad) x.f1.length c') ∧ w'.cell? ⟨w.heap.size + 1, 0, none⟩ = some (.int .i64 i) ∧ w'.cell? ⟨w.heap.size + 1, 1, none⟩ = some (.int .i64 num) ∧ w'.cell? ⟨w.heap.size + 1, 2, none⟩ = some (.int .i64 den) ∧ w'.cell? (ad.add i) = some (.int .i64 v)) (go_keep) (first | (go_at_call 96; (with_reducible refine (HF1.out _).mono ?_); rintro e w1 ⟨⟨z, rfl⟩, hb1⟩; have hbx : Below W3.heap.size W3 w1 := bthen (below_drew1 (Below.refl _ _)) hb1; have g0 := (HKT.out.below hbx).cell 1 rfl; have g1 := (HKH.out.below hbx).cell 0 rfl; have g2 := (HKH.out.below hbx).cell 1 rfl; have g3 := (HKH.out.below hbx).cell 2 rfl; have g4 := pw_cell_below hbx hcW; have HB1 := Aside0.mk hbx; clear hb1 hbx))
    all_goals (go_wp2_with fail; go_meet)
    all_goals exact ⟨rfl, HB1⟩
  case rest =>
    obtain ⟨rfl, HX⟩ := hcut
    clear hpr ht1 hh0 hh1 hh2 hcW
    have hkI : (k : Int) < (es.length : Int) := by omega
    go_wp2_with (go_at_call 96; (with_reducible refine (HF2.out _).mono ?_); rintro e w2 ⟨⟨z, rfl⟩, hb2⟩; have hby : Below W3.heap.size W3 w2 := bthen HX.out hb2; have HY := Aside0.mk hby; have hh3 := (HKH.out.below hby).cell 3 rfl; have hhl := (HKH.out.below hby).lt; have hw3 : Below w.heap.size w w2 := HB0.out.trans (hby.mono HB0.out.size); have hd0 := pw_cell_below hw3 HD0.out; have hd1 := pw_cell_below hw3 HD1.out; have hr := HKR.out.below hby; have hr0 := hr.cell 0 rfl; have hr1 := hr.cell 1 rfl; have hrf0 := hr.free 0; have hrf1 := hr.free 1; have hrl := hr.lt; have HR9 := Aside0.mk hr; have HW := Aside0.mk hw3; clear hb2 hby hw3 hr)
    refine bodyPost_ret (results_cell_row rfl _ _ (w.heap.size + 1 + 1) 44 #[.int .i64 (AT + s.f0), .int .i64 (AT + s.f1)] (0,0) _ (by rfl) (((HR9.out.put 0 _ rfl).put 1 _ rfl).alloc _) Tryz.underlying44 rfl (by kernel_rfl)) rfl ?_
    exact ⟨by rw [HF.out], below_alloc (below_set (below_set HW.out (by omega)) (by omega)) _⟩
/-- What a hand shows in a truth. -/
def showsT (a : Nat) (num den : Int) (es : List S44) (x : S89) : S44 := showsF num den es (x.f1.getD a 0)
theorem tr_box {w : World} {A : Option Addr} {c : Nat} {A' : Option Addr} {c' : Nat} {x : S89} (h : TR w A c A' c' x) (o o' : Obj) : TR ((w.alloc o).alloc o') A c A' c' x := h.below (below_alloc (below_alloc (Below.refl _ _) o) o')
/-- A place that is not far. -/
def nearT (a : Nat) (x : S89) : Prop := a < x.f1.length ∧ ∀ v, x.f1[a]? = some v → -100000 ≤ v ∧ v ≤ 100000
set_option maxHeartbeats 2000000 in
set_option maxRecDepth 100000 in
theorem shows1_of {w : World} {b a ce : Nat} {AE : Option Addr} {num den : Int} {es : List S44} (hb : Blk w b #[.int .i64 (a : Int), .int .i64 num, .int .i64 den, .slice AE es.length ce] 52) (he : ER w AE ce es) (hp : HandP num den es) :
    OfFn 64 #[.pointer (some ⟨b, 0, none⟩)] w (nearT a) (showsT a num den es) := by
  refine ⟨ent Tryz.func64 (by kernel_rfl) rfl, ?_⟩
  intro x W A c A' c' hB hlt ht
  obtain ⟨v, hv⟩ : ∃ v, x.f1[a]? = some v := ⟨_, List.getElem?_eq_getElem hlt.1⟩
  have hvb := hlt.2 v hv
  have hbW := hb.below hB
  have hc0 := hbW.cell 0 rfl
  have hc1 := hbW.cell 1 rfl
  have hc2 := hbW.cell 2 rfl
  have hc3 := hbW.cell 3 rfl
  have hlb := hbW.lt
  have hk4 := Blk.new (W.alloc (.cells #[.slice A x.f0.length c, .slice A' x.f1.length c'] 89)) #[.int .i64 0, .int .i64 0] 44
  rw [World.size_alloc] at hk4
  have HK := Aside0.mk hk4
  have HB0 := Aside0.mk (below_alloc (below_alloc (Below.refl W.heap.size W) (.cells #[.slice A x.f0.length c, .slice A' x.f1.length c'] 89)) (.cells #[.int .i64 0, .int .i64 0] 44))
  have HC := Aside0.mk (shows_calls (tr_box ht (.cells #[.slice A x.f0.length c, .slice A' x.f1.length c'] 89) (.cells #[.int .i64 0, .int .i64 0] 44)) (he.below (hB.trans ((below_alloc (below_alloc (Below.refl _ _) (.cells #[.slice A x.f0.length c, .slice A' x.f1.length c'] 89)) (.cells #[.int .i64 0, .int .i64 0] 44)).mono hB.size))) hp a hv hvb.1 hvb.2)
  have HF : Aside0 (showsT a num den es x = showsF num den es v) := ⟨by simp [showsT, List.getD_eq_getElem?_getD, hv]⟩
  clear hb he hp hB ht hlt hv hvb hbW hk4
  simp only [List.push_toArray, List.append_toArray, List.nil_append, List.cons_append]
  go_enter Tryz.func64, Tryz.ntmps64
  go_wp2_with (go_at_call 63; (with_reducible refine HC.out.mono ?_); rintro e w2 ⟨rfl, hb2⟩; have hr := HK.out.below hb2; have hr0 := hr.cell 0 rfl; have hr1 := hr.cell 1 rfl; have hrf0 := hr.free 0; have hrf1 := hr.free 1; have hrl := hr.lt; have HR9 := Aside0.mk hr; have HW := Aside0.mk (bthen HB0.out hb2); clear hb2 hr)
  refine bodyPost_ret (results_cell_row rfl _ _ (W.heap.size + 1) 44 #[.int .i64 (showsF num den es v).f0, .int .i64 (showsF num den es v).f1] (0,0) _ (by rfl) ((HR9.out.put 0 _ rfl).put 1 _ rfl) Tryz.underlying44 rfl (by kernel_rfl)) rfl ?_
  exact ⟨by rw [HF.out], below_set (below_set HW.out (by omega)) (by omega)⟩
end Go.Proofs.YtaojkmalpihmbaaGreatDoor.M

