import Derived.Test.YtaojkmalpihmbaaGreatDoorB11
import Derived.Deep.RegionHeld3
import Derived.Test.YtaojkmalpihmbaaGreatDoorB10
namespace Go.Proofs.YtaojkmalpihmbaaGreatDoor.M
open Go.RowKit Go.Proofs.YtaojkmalpihmbaaGreatDoorW.PrintWords Go.Proofs.YtaojkmalpihmbaaGreatDoorW.PrintLast Go.Proofs.YtaojkmalpihmbaaGreatDoorW.PrintMore Go.Proofs.YtaojkmalpihmbaaGreatDoor.Q
set_option linter.unusedVariables false
set_option linter.unusedSimpArgs false

/-! search: a mesh more. -/
theorem upTo_take (lo hi : Int) (j : Nat) (h : j < (hi - lo + 1).toNat) : (upTo lo hi).take (j + 1) = (upTo lo hi).take j ++ [lo + (j : Int)] := by
  rw [List.take_add_one]
  congr 1
  simp [upTo, h]
theorem flat_take {α : Type} (f : Int → List α) (lo hi : Int) (j : Nat) (h : j < (hi - lo + 1).toNat) : (((upTo lo hi).take j).flatMap f).length + (f (lo + (j : Int))).length ≤ ((upTo lo hi).flatMap f).length := by
  have h1 : (((upTo lo hi).take (j + 1)).flatMap f).length ≤ ((upTo lo hi).flatMap f).length := by
    conv => rhs; rw [← List.take_append_drop (j + 1) (upTo lo hi)]
    rw [List.flatMap_append, List.length_append]
    omega
  rw [upTo_take _ _ _ h, List.flatMap_append, List.length_append] at h1
  simpa using h1
theorem upTo_length (lo hi : Int) : (upTo lo hi).length = (hi - lo + 1).toNat := by simp [upTo]
/-- A clone, and one more. -/
theorem one_int (w : World) (x : Int) : Kd.C (Kd.int .i64) (w.alloc (.cells #[.int .i64 x] 3)) (some ⟨w.heap.size, 0, none⟩) 1 [x] := by
  obtain ⟨A', c', he, _, hr⟩ := Kd.R_reads (one_own w x)
  injection he with e1 _ e3
  subst e1 e3
  exact hr
theorem OwnR.lower {w : World} {base base' : Nat} {l : List Int} {v : Value} (h : OwnR w base l v) (hb : base' ≤ base) : OwnR w base' l v := Kd.R_lower h hb
section
variable {A0 A1 A2 : Option Addr} {c0 c1 c2 : Nat} {ms : List S64} {mv : List Int} {rs : List S66}
set_option maxHeartbeats 4000000 in
set_option maxRecDepth 100000 in
theorem search_step {w0 W : World} {b B0 bp by' bs l : Nat} (J : List TV → World → Prop) (hJ : ∀ s A B, J s A → Below A.heap.size A B → J s B)
    (h : SM w0 A0 c0 ms A1 c1 mv A2 c2 rs b B0 bp by' bs l W) {A : Option Addr} {c : Nat} {pl : List Int} (hp : OwnR W B0 pl (.slice A pl.length c)) (pre : List TV) (h0 : J pre W) {N : Nat}
    (m : S64) (rest : List S64) (hm : ms[pl.length]? = some m) (hN : pre.length + (truthsFrom mv rs (m :: rest) pl).length ≤ N)
    (ih : ∀ (W : World) (A : Option Addr) (c : Nat) (n : Int) (pre : List TV), SM w0 A0 c0 ms A1 c1 mv A2 c2 rs b B0 bp by' bs l W → OwnR W B0 (pl ++ [n]) (.slice A (pl ++ [n]).length c) → J pre W → pre.length + (truthsFrom mv rs rest (pl ++ [n])).length ≤ N →
      Calls Tryz.prog 110 #[.slice A (pl ++ [n]).length c, .pointer (some ⟨bp, 0, none⟩), .pointer (some ⟨by', 0, none⟩), .pointer (some ⟨bs, 0, none⟩)] W fun e W' =>
        e = .returned (.bool true) ∧ (∃ xs, xs.map (·.2) = truthsFrom mv rs rest (pl ++ [n]) ∧ J (pre ++ xs) W') ∧ Keep w0.heap.size b W W') :
    Calls Tryz.prog 110 #[.slice A pl.length c, .pointer (some ⟨bp, 0, none⟩), .pointer (some ⟨by', 0, none⟩), .pointer (some ⟨bs, 0, none⟩)] W fun e W' =>
      e = .returned (.bool true) ∧ (∃ xs, xs.map (·.2) = truthsFrom mv rs (m :: rest) pl ∧ J (pre ++ xs) W') ∧ Keep w0.heap.size b W W' := by
  obtain ⟨hlt, rfl⟩ := List.getElem?_eq_some_iff.1 hm
  have hlen := piece_len h.ok
  have hms4 : ms.length ≤ 4 := hlen.2.1
  have hpl4 : pl.length < ms.length := hlt
  have hmm := piece_meshes h.ok _ (List.getElem_mem hlt)
  obtain ⟨h00, hll, h01⟩ := hmm
  have hk0 := h.kp.cell 0 rfl
  have hkl := h.kp.lt
  have heq : ((pl.length : Int) == (ms.length : Int)) = false := by simp; omega
  obtain ⟨ad, rfl, hca, hcb⟩ := at_mesh h.read.r0 hm hlt
  have H := Aside0.mk h
  have HP := Aside0.mk hp
  have HJ := Aside0.mk @hJ
  have H0 := Aside0.mk h0
  have HI := Aside0.mk @ih
  have HM := Aside0.mk hm
  have HN := Aside0.mk hN
  generalize ms[pl.length] = m at *
  have HT := Aside0.mk hlt
  clear h hp hJ h0 ih hm hN hlen hlt
  obtain ⟨cnt, hcnt⟩ : ∃ cnt : Nat, cnt = (m.f0.f1 - m.f0.f0 + 1).toNat := ⟨_, rfl⟩
  have hcnt' : (cnt : Int) = m.f0.f1 - m.f0.f0 + 1 := by omega
  have HC := Aside0.mk hcnt
  have HC' := Aside0.mk hcnt'
  clear hcnt hcnt'
  go_enter Tryz.func110, Tryz.ntmps110
  go_wp2
  go_loopg [9] cnt (fun k n wr => ∃ (j : Nat) (xs : List TV), j + k = cnt ∧ n = .int .i64 (m.f0.f0 + j) ∧ Aside0 (xs.map (·.2) = ((upTo m.f0.f0 m.f0.f1).take j).flatMap fun n => truthsFrom mv rs rest (pl ++ [n])) ∧ Aside0 (J (pre ++ xs) wr) ∧ Aside0 (Keep w0.heap.size b W wr))
  case atStart => exact ⟨0, [], by omega, by simp, ⟨by simp⟩, ⟨by simpa using H0.out⟩, ⟨Keep.refl _⟩⟩
  case round =>
    obtain ⟨j, xs, hj, rfl, HX, HJx, HK⟩ := hrel
    have hj' : j ≤ cnt := by omega
    have HJJ := Aside0.mk hj
    clear hj
    have HS := Aside0.mk (H.out.keep HK.out)
    have hk1 := HS.out.kp.cell 0 rfl
    have hkl1 := HS.out.kp.lt
    have hs1 := HS.out.ks.cell 0 rfl
    have hsl1 := HS.out.ks.lt
    obtain ⟨ad', e', hca', hcb'⟩ := at_mesh HS.out.read.r0 HM.out HT.out
    cases e'
    by_cases hlt : j < cnt
    · have hcond : m.f0.f0 + (j : Int) ≤ m.f0.f1 := by have := HC'.out; omega
      have HOW := Aside0.mk (OwnR.keep HP.out HK.out H.out.hb)
      have HIR := Aside0.mk (OwnR.ir HOW.out (by omega))
      obtain ⟨q, hq⟩ : ∃ q, q = pl ++ [m.f0.f0 + (j : Int)] := ⟨_, rfl⟩
      have hql : q.length = pl.length + 1 := by rw [hq]; simp
      have HQ := Aside0.mk hq
      have HI2 : Aside0 (∀ (W : World) (A : Option Addr) (c : Nat) (pre : List TV), SM w0 (some ad) c0 ms A1 c1 mv A2 c2 rs b B0 bp by' bs l W → OwnR W B0 q (.slice A q.length c) → J pre W → pre.length + (truthsFrom mv rs rest q).length ≤ N →
          Calls Tryz.prog 110 #[.slice A q.length c, .pointer (some ⟨bp, 0, none⟩), .pointer (some ⟨by', 0, none⟩), .pointer (some ⟨bs, 0, none⟩)] W fun e W' =>
            e = .returned (.bool true) ∧ (∃ xs, xs.map (·.2) = truthsFrom mv rs rest q ∧ J (pre ++ xs) W') ∧ Keep w0.heap.size b W W') := ⟨fun W A c pre => by rw [hq]; exact HI.out W A c _ pre⟩
      have HLE : Aside0 ((pre ++ xs).length + (truthsFrom mv rs rest q).length ≤ N) := ⟨by
        have h1 := congrArg List.length HX.out
        have h2 := HN.out
        have h3 := flat_take (fun n => truthsFrom mv rs rest (pl ++ [n])) m.f0.f0 m.f0.f1 j (by have := HC.out; omega)
        rw [List.length_map] at h1
        rw [List.length_append, h1, hq]
        simp only [truthsFrom] at h2
        omega⟩
      clear hq hql
      go_upto_region 8 with fail
      go_cut [55] (fun s wx => s = .bool false ∧ Aside0 (∃ ys : List TV, ys.map (·.2) = truthsFrom mv rs rest q ∧ J (pre ++ xs ++ ys) wx ∧ Keep w0.heap.size b wr wx))
      case first =>
        go_region_held3 (fun w' => w'.cell? ⟨bs, 0, none⟩ = some (.func (.func 110) #[] #[.pointer (some ⟨bp, 0, none⟩), .pointer (some ⟨by', 0, none⟩), .pointer (some ⟨bs, 0, none⟩)])) (first | go_keep | (refine pw_cell_below HB1.out ?_; go_simp; done) | (refine pw_cell_below HB2.out ?_; refine pw_cell_below HB1.out ?_; go_simp; done) | (trace_state; fail)) (first | (go_at_call 112; (with_reducible refine (clone_calls (HIR.out.below ?_)).mono ?_); (repeat (first | exact Below.refl _ _ | apply below_alloc | apply below_drew1)); rintro e w1 ⟨⟨v, rfl, hr1⟩, hb1⟩; obtain ⟨Av, cv, rfl⟩ := Kd.R_slice hr1; have HR1 := Aside0.mk hr1; have HB1 := Aside0.mk hb1; obtain ⟨hk1, hk2⟩ := bcell hb1; have hz1 := hb1.size; clear hr1 hb1) | (refine Kd.R_append_rows_step (Kd.int .i64) (Rr := fun x cs => cs = [Value.int .i64 x]) (w0 := wr) wr.heap.size (by rfl) (.tmp 50) (.tmp 52) 23 3 (.int .i64 0) 8 (by rfl) Tryz.underlying23 info3 rfl (by decide) (by decide) (.slice Av pl.length cv) pl [m.f0.f0 + (j : Int)] _ 1 1 (fun _ => True) (fun _ => False) (by rfl) (by rfl) ?HO ?HR (fun _ _ h => h) (fun _ h => h.elim) (fun _ _ => trivial) ?HB ?hb ?hl ?_; (case HO => refine Kd.R_lower (Kd.R_below HR1.out ?_) ?_; (repeat (first | exact Below.refl _ _ | apply below_alloc | apply below_drew1)); (simp; done)); (case HR => first | exact one_int _ _ | exact Kd.C_below (one_int _ _) HB1.out | exact Kd.C_below (Kd.C_drew (one_int _ _)) HB1.out); (case HB => first | exact below_alloc (bthen (below_drew1 (Below.refl _ _)) HB1.out) _ | exact bthen (below_alloc (below_drew1 (Below.refl _ _)) _) HB1.out | exact bthen (below_drew1 (below_alloc (Below.refl _ _) _)) HB1.out); (case hb => (have hz9 := HB1.out.size; simp at hz9 ⊢; omega)); (case hl => omega); intro v1 w2 hr2 hb2 hg2 _; rw [← HQ.out] at hr2; obtain ⟨A3, c3, rfl⟩ := Kd.R_slice hr2; have HR2 : Aside0 (OwnR w2 wr.heap.size q (.slice A3 q.length c3)) := ⟨hr2⟩; have HB2 := Aside0.mk hb2; have HS2 := Aside0.mk (HS.out.keep (Keep.of_below HS.out.below.size hb2)); have hs2 := HS2.out.ks.cell 0 rfl; clear hr2 hb2 hg2) | (go_at_call 110; (with_reducible refine (HI2.out w2 A3 c3 (pre ++ xs) HS2.out (OwnR.lower HR2.out HS.out.hB) (HJ.out _ _ _ HJx.out HB2.out) HLE.out).mono ?_); rintro e w3 ⟨rfl, ⟨ys, hy1, hy2⟩, hk3⟩; have HY1 := Aside0.mk hy1; have HY2 := Aside0.mk hy2; have HS3 := Aside0.mk (HS2.out.keep hk3); have hs3 := HS3.out.ks.cell 0 rfl; have HK3 := Aside0.mk hk3; clear hy1 hy2 hk3))
        all_goals (go_wp2_with fail; go_meet)
        all_goals exact ⟨rfl, ⟨ys, HY1.out, HY2.out, (Keep.of_below HS.out.below.size HB2.out).trans HK3.out⟩⟩
      case rest =>
        obtain ⟨rfl, HF⟩ := hcut
        obtain ⟨ys, hy1, hy2, hy3⟩ := HF.out
        have HY1 := Aside0.mk hy1
        have HY2 := Aside0.mk hy2
        have HY3 := Aside0.mk hy3
        clear hy1 hy2 hy3
        go_wp2
        go_roundg (gk - 1)
        case measure => have := HJJ.out; omega
        case rel =>
          refine ⟨j + 1, xs ++ ys, by have := HJJ.out; omega, by go_num, ⟨?_⟩, ⟨by rw [← List.append_assoc]; exact HY2.out⟩, ⟨HK.out.trans HY3.out⟩⟩
          rw [List.map_append, HX.out, HY1.out, HQ.out, upTo_take _ _ _ (by have := HC.out; omega), List.flatMap_append]
          simp
    · obtain rfl : j = cnt := by omega
      have hcond : ¬ (m.f0.f0 + (j : Int) ≤ m.f0.f1) := by have := HC'.out; omega
      go_wp2
      go_ret
      refine ⟨rfl, ⟨xs, ?_, HJx.out⟩, HK.out⟩
      rw [HX.out, List.take_of_length_le (by rw [upTo_length]; have := HC.out; omega)]
      rfl
end
end Go.Proofs.YtaojkmalpihmbaaGreatDoor.M

namespace Go.Proofs.YtaojkmalpihmbaaGreatDoor.M
open Go.RowKit Go.Proofs.YtaojkmalpihmbaaGreatDoorW.PrintWords Go.Proofs.YtaojkmalpihmbaaGreatDoorW.PrintLast Go.Proofs.YtaojkmalpihmbaaGreatDoorW.PrintMore Go.Proofs.YtaojkmalpihmbaaGreatDoor.Q
set_option linter.unusedVariables false
set_option linter.unusedSimpArgs false

/-! truths: the iterator's contract. -/
theorem round_any {F : Fence} (hd : F.depth = none) {m m' : Nat} {P : Program} {l : Nat} {f : FuncId} {tmps : Array Value} {assign body : Code} {w : World} {R : Ending → World → Prop}
    (h : RoundIn F m P l f tmps assign body w R) : RoundIn F m' P l f tmps assign body w R := ⟨h.1, fun c cs _ => h.2 c cs (fun d h => by rw [hd] at h; cases h)⟩
theorem yield_any {F : Fence} (hd : F.depth = none) {m : Nat} (m' : Nat) {P : Program} {l : Nat} {args : Array Value} {W : World} {R : Ending → World → Prop} (h : YieldAt F m P l args W R) : YieldAt F m' P l args W R := by
  obtain ⟨fn, tmps, assign, body, hy, hR⟩ := h
  exact ⟨fn, tmps, assign, body, hy, round_any hd hR⟩
section
variable {A0 A1 A2 : Option Addr} {c0 c1 c2 : Nat} {ms : List S64} {mv : List Int} {rs : List S66}
theorem search_calls {w0 : World} {b B0 bp by' bs l : Nat} (J : List TV → World → Prop) (hJ : ∀ s A B, J s A → Below A.heap.size A B → J s B)
    {N : Nat} (hY : ∀ m pre x W1, J pre W1 → pre.length < N → TOwn B0 x W1 → YieldAt Fence.wide m Tryz.prog l #[x.1] W1 fun e W' => e = .returned (.bool true) ∧ J (pre ++ [x]) W' ∧ Keep w0.heap.size b W1 W') :
    ∀ (rest : List S64) (W : World) (A : Option Addr) (c : Nat) (pl : List Int) (pre : List TV), ms.drop pl.length = rest → pl.length ≤ ms.length → SM w0 A0 c0 ms A1 c1 mv A2 c2 rs b B0 bp by' bs l W → OwnR W B0 pl (.slice A pl.length c) → J pre W → pre.length + (truthsFrom mv rs rest pl).length ≤ N →
      Calls Tryz.prog 110 #[.slice A pl.length c, .pointer (some ⟨bp, 0, none⟩), .pointer (some ⟨by', 0, none⟩), .pointer (some ⟨bs, 0, none⟩)] W fun e W' =>
        e = .returned (.bool true) ∧ (∃ xs, xs.map (·.2) = truthsFrom mv rs rest pl ∧ J (pre ++ xs) W') ∧ Keep w0.heap.size b W W'
  | [], W, A, c, pl, pre, hd, hl, h, hp, h0, hN => by
    have := congrArg List.length hd
    simp at this
    exact search_base J hJ hY h hp (by omega) pre h0 hN
  | m :: rest, W, A, c, pl, pre, hd, hl, h, hp, h0, hN => by
    have hm : ms[pl.length]? = some m := by
      have := congrArg (fun l => l[0]?) hd
      simpa using this
    have hlt := (List.getElem?_eq_some_iff.1 hm).1
    refine search_step J hJ h hp pre h0 m rest hm hN (fun W A c n pre h hp h0 hN => search_calls J hJ hY rest W A c (pl ++ [n]) pre ?_ ?_ h hp h0 hN)
    · have : ms.drop (pl.length + 1) = (ms.drop pl.length).drop 1 := by rw [List.drop_drop]
      simp only [List.length_append, List.length_cons, List.length_nil]
      rw [this, hd]
      rfl
    · simp; omega
set_option maxHeartbeats 4000000 in
set_option maxRecDepth 100000 in
theorem truths_seq {w0 w : World} {b B0 bp n : Nat} (h : PR w0 A0 c0 ms A1 c1 mv A2 c2 rs) (hok : pieceB ms mv rs = true) (hb : Below w0.heap.size w0 w) (hk : Blk w bp #[.slice A0 ms.length c0, .slice A1 mv.length c1, .slice A2 rs.length c2] 26)
    (hbB : b < B0) (hB : B0 ≤ w.heap.size) (hn : bp ≠ b) :
    SeqT Fence.wide n Tryz.prog 109 #[.pointer (some ⟨bp, 0, none⟩)] (fun x : TV => #[x.1]) (Keep w0.heap.size b) (TOwn B0) (fun xs => xs.map (·.2) = truthsL ms mv rs) (truthsL ms mv rs).length w := by
  intro l J W hW hJ hY h0
  refine callsIn_wide.2 ?_
  have hz := hW.size
  have hk1 := (hk.below hW)
  have hB1 : Below w0.heap.size w0 W := hb.trans (hW.mono hb.size)
  have hbp := hk1.lt
  have hk5 : Blk ((W.alloc (.cells #[.func (.yield l) #[] #[]] 143)).alloc (.cells #[.nilFunc] 144)) (W.heap.size + 1) #[.nilFunc] 144 := by
    have h := Blk.new (W.alloc (.cells #[.func (.yield l) #[] #[]] 143)) #[.nilFunc] 144
    rw [World.size_alloc] at h
    exact h
  have hk6 : Blk ((W.alloc (.cells #[.func (.yield l) #[] #[]] 143)).alloc (.cells #[(.func (.func 110) #[] #[.pointer (some ⟨bp, 0, none⟩), .pointer (some ⟨W.heap.size, 0, none⟩), .pointer (some ⟨W.heap.size + 1, 0, none⟩)])] 144)) (W.heap.size + 1) #[(.func (.func 110) #[] #[.pointer (some ⟨bp, 0, none⟩), .pointer (some ⟨W.heap.size, 0, none⟩), .pointer (some ⟨W.heap.size + 1, 0, none⟩)])] 144 := by
    have h := Blk.new (W.alloc (.cells #[.func (.yield l) #[] #[]] 143)) #[(.func (.func 110) #[] #[.pointer (some ⟨bp, 0, none⟩), .pointer (some ⟨W.heap.size, 0, none⟩), .pointer (some ⟨W.heap.size + 1, 0, none⟩)])] 144
    rw [World.size_alloc] at h
    exact h
  have HS : Aside0 (SM w0 A0 c0 ms A1 c1 mv A2 c2 rs b B0 bp W.heap.size (W.heap.size + 1) l ((W.alloc (.cells #[.func (.yield l) #[] #[]] 143)).alloc (.cells #[(.func (.func 110) #[] #[.pointer (some ⟨bp, 0, none⟩), .pointer (some ⟨W.heap.size, 0, none⟩), .pointer (some ⟨W.heap.size + 1, 0, none⟩)])] 144))) :=
    ⟨h, hok, below_alloc (below_alloc hB1 _) _, (hk1.alloc _).alloc _, (Blk.new W _ _).alloc _, hk6, hn, by omega, by omega, hbB, by rw [World.size_alloc, World.size_alloc]; omega⟩
  have HC : Calls Tryz.prog 110 #[.slice none 0 0, .pointer (some ⟨bp, 0, none⟩), .pointer (some ⟨W.heap.size, 0, none⟩), .pointer (some ⟨W.heap.size + 1, 0, none⟩)] ((W.alloc (.cells #[.func (.yield l) #[] #[]] 143)).alloc (.cells #[(.func (.func 110) #[] #[.pointer (some ⟨bp, 0, none⟩), .pointer (some ⟨W.heap.size, 0, none⟩), .pointer (some ⟨W.heap.size + 1, 0, none⟩)])] 144)) fun e W' =>
      e = .returned (.bool true) ∧ (∃ xs, xs.map (·.2) = truthsFrom mv rs ms [] ∧ J ([] ++ xs) W') ∧ Keep w0.heap.size b _ W' := search_calls (A0 := A0) (A1 := A1) (A2 := A2) (c0 := c0) (c1 := c1) (c2 := c2) (ms := ms) (mv := mv) (rs := rs) J hJ (fun m pre x W1 hj hl ht => yield_any rfl m (hY pre x W1 hj hl ht)) ms _ none 0 [] [] rfl (Nat.zero_le _) HS.out (Kd.R_nil _ _ _ _ _) (hJ _ _ _ h0 (below_alloc (below_alloc (Below.refl _ _) _) _)) (by simp [truthsL])
  have H := Aside0.mk HC
  have hJ' := Aside0.mk @hJ
  have hY' := Aside0.mk @hY
  have hk0 := hk1.cell 0 rfl
  have hq0 := hk5.cell 0 rfl
  have hq1 := hk5.free 0
  have hst : (store ⟨W.heap.size + 1, 0, none⟩ (.func (.func 110) #[] #[.pointer (some ⟨bp, 0, none⟩), .pointer (some ⟨W.heap.size, 0, none⟩), .pointer (some ⟨W.heap.size + 1, 0, none⟩)])).run Tryz.prog ((W.alloc (.cells #[.func (.yield l) #[] #[]] 143)).alloc (.cells #[.nilFunc] 144)) = .ok () (((W.alloc (.cells #[.func (.yield l) #[] #[]] 143)).alloc (.cells #[.nilFunc] 144)).setCell ⟨W.heap.size + 1, 0, none⟩ (.func (.func 110) #[] #[.pointer (some ⟨bp, 0, none⟩), .pointer (some ⟨W.heap.size, 0, none⟩), .pointer (some ⟨W.heap.size + 1, 0, none⟩)])) := by
    rw [run_store _ _ _ _ _ rfl, hq0]
    simp [hq1]
  clear HC hJ hY h hok hk hB1 h0 hk5 hk6 hk1
  go_enter Tryz.func109, Tryz.ntmps109
  go_wp2_with (go_at_call 110; go_must (with_reducible refine H.out.mono ?_); rintro e w2 ⟨rfl, ⟨xs, hx, hj⟩, _⟩)
  go_end0
  exact ⟨⟨_, rfl⟩, xs, hx, by simpa using hj⟩
end
end Go.Proofs.YtaojkmalpihmbaaGreatDoor.M

namespace Go.Proofs.YtaojkmalpihmbaaGreatDoor.M
open Go.RowKit Go.Proofs.YtaojkmalpihmbaaGreatDoorW.PrintWords Go.Proofs.YtaojkmalpihmbaaGreatDoorW.PrintLast Go.Proofs.YtaojkmalpihmbaaGreatDoorW.PrintMore Go.Proofs.YtaojkmalpihmbaaGreatDoor.Q
set_option linter.unusedVariables false
set_option linter.unusedSimpArgs false

/-! Plain: what all truths are like. -/
theorem piece_okMv {ms : List S64} {mv : List Int} {rs : List S66} (h : pieceB ms mv rs = true) : okMv mv := by
  intro m hm
  simp [pieceB, anyB] at h
  have := h.2.2.2.2.1 m hm
  simp [moveBad, inB] at this
  omega
theorem upTo_mem {lo hi n : Int} (h : n ∈ upTo lo hi) : lo ≤ n ∧ n ≤ hi := by
  simp only [upTo, List.mem_map, List.mem_range] at h
  obtain ⟨i, h1, h2⟩ := h
  omega
theorem truthsFrom_form (mv : List Int) (rs : List S66) : ∀ (ms : List S64) (pl : List Int), okPl pl → (∀ m ∈ ms, 0 ≤ m.f0.f0 ∧ m.f0.f0 ≤ m.f0.f1 ∧ m.f0.f1 ≤ 100) → ∀ x ∈ truthsFrom mv rs ms pl, okPl x.f0 ∧ x.f1 = lastL x.f0 mv
  | [], pl, ho, _, x, hx => by
    simp only [truthsFrom] at hx
    split at hx
    · simp at hx
      subst hx
      exact ⟨ho, rfl⟩
    · simp at hx
  | m :: ms, pl, ho, hm, x, hx => by
    simp only [truthsFrom, List.mem_flatMap] at hx
    obtain ⟨n, hn, hx⟩ := hx
    have h1 := upTo_mem hn
    have h2 := hm m (List.mem_cons_self ..)
    refine truthsFrom_form mv rs ms (pl ++ [n]) (fun y hy => ?_) (fun y hy => hm y (List.mem_cons_of_mem _ hy)) x hx
    rcases List.mem_append.1 hy with hy | hy
    · exact ho y hy
    · simp at hy
      subst hy
      omega
/-- Whatever is true: its plays are from 0 to 100; its places are where all moves bring them, and not far. -/
theorem truthsL_form {ms : List S64} {mv : List Int} {rs : List S66} (h : pieceB ms mv rs = true) {x : S89} (hx : x ∈ truthsL ms mv rs) (hl : x.f0.length = ms.length) :
    okPl x.f0 ∧ x.f1 = lastC x.f0 mv ∧ Inv x.f0 2400 x.f1 ∧ ∀ v ∈ x.f1, -2800 ≤ v ∧ v ≤ 2400 := by
  obtain ⟨h1, h2⟩ := truthsFrom_form mv rs ms [] (fun _ h => by simp at h) (piece_meshes h) x hx
  obtain ⟨p1, p2, p3, _⟩ := piece_len h
  have hm := piece_okMv h
  have h3 : x.f1 = lastC x.f0 mv := by rw [h2, lastL_eq h1 (by omega) hm (by omega)]
  have h4 : Inv x.f0 2400 x.f1 := by
    rw [h3]
    exact (lastC_inv h1 hm).mono (by omega)
  refine ⟨h1, h3, h4, fun v hv => ?_⟩
  have := h4.bound h1 v hv
  omega
end Go.Proofs.YtaojkmalpihmbaaGreatDoor.M

