import Derived.Test.YtepdnjjfhbjcjaaGreatDoorC2
import Derived.Test.YtepdnjjfhbjcjaaGreatDoorC6
set_option linter.all false
section
namespace Go.Proofs.YtepdnjjfhbjcjaaGreatDoor
open Go.RowKit
def divR (a b : Pt × Nat) : Nm × Int :=
  if wiB a.1.a a.1.b a.1.c a.1.d 4096 = true ∧ wiB b.1.a b.1.b b.1.c b.1.d 4096 = true then
    if b.1 = Pt.zero then (Nm.zero, 6)
    else divO (Pt.quot a.1 b.1) (b.1.whole / 2 ^ twos b.1.whole) ((a.2 : Int) - b.2 + 2 * twos b.1.whole)
  else (Nm.zero, 8)
where divO (o : Pt) (v k : Int) : Nm × Int :=
  if o.a % v = 0 ∧ o.b % v = 0 ∧ o.c % v = 0 ∧ o.d % v = 0 then okN (Pt.lz k ⟨o.a / v, o.b / v, o.c / v, o.d / v⟩) else (Nm.zero, 6)
def sDivide (x z : Nm) : Nm × Int := if chks [x, z] = 0 then divR (Pt.red x.k.toNat x.p) (Pt.red z.k.toNat z.p) else (Nm.zero, chks [x, z])
theorem lstOk_red {x : Nm} (h : x.chk = 0) : lstOk (Pt.red x.k.toNat x.p) = true := by
  obtain ⟨h1, h2, h3⟩ := Nm.chk_ok h
  unfold lstOk
  rw [Bool.and_eq_true]
  refine ⟨(wiB_iff _ _).2 (Pt.red_le _ _ h1), ?_⟩
  have := Pt.red_kle x.k.toNat x.p
  simp; omega
theorem okN_red {x : Nm} (h : x.chk = 0) : okN (Pt.red x.k.toNat x.p) = (⟨(Pt.red x.k.toNat x.p).1, (Pt.red x.k.toNat x.p).2⟩, 0) := by
  unfold okN; rw [if_pos (lstOk_red h)]
theorem red_zk {k : Nat} {p : Pt} (h : (Pt.red k p).1 = Pt.zero) : (Pt.red k p).2 = 0 := by
  have h1 := Pt.red_red k p
  rw [h, Pt.red_zero] at h1
  rw [← h1]
theorem div_facts {c v : Int} (hv : v ≠ 0) (h : c % v = 0) (hc : -18014398509481984 ≤ c ∧ c ≤ 18014398509481984) : c.tmod v = 0 ∧ c.tdiv v = c / v ∧ (-18014398509481984 ≤ c / v ∧ c / v ≤ 18014398509481984) := by
  obtain ⟨q, rfl⟩ : ∃ q, c = v * q := Int.dvd_of_emod_eq_zero h
  refine ⟨Int.mul_tmod_right _ _, Int.tdiv_eq_ediv_of_dvd ⟨q, rfl⟩, ?_⟩
  rw [Int.mul_ediv_cancel_left _ hv]
  have h1 : (v * q).natAbs = v.natAbs * q.natAbs := Int.natAbs_mul _ _
  have h2 : 1 * q.natAbs ≤ v.natAbs * q.natAbs := Nat.mul_le_mul_right _ (by omega)
  omega
theorem mod_facts {c v : Int} (h : c % v ≠ 0) : (c.tmod v != 0) = true := by
  rw [bne_iff_ne]
  intro h0
  exact h (Int.emod_eq_zero_of_dvd (Int.dvd_of_tmod_eq_zero h0))
theorem pow_ge {w v : Int} {i : Nat} (h : w = v * 2 ^ i) : v.natAbs ≤ w.natAbs := by
  have h1 : w.natAbs = v.natAbs * 2 ^ i := by rw [h, Int.natAbs_mul, Int.natAbs_pow]; rfl
  have h2 : v.natAbs * 1 ≤ v.natAbs * 2 ^ i := Nat.mul_le_mul_left _ (Nat.pow_pos (by decide))
  omega
theorem Blk.four {w : World} {g : Nat} {t : TypeId} {a b c d : Value} (h : Blk w g t #[a, b, c, d]) : w.cell? ⟨g, 0, none⟩ = some a ∧ w.cell? ⟨g, 1, none⟩ = some b ∧ w.cell? ⟨g, 2, none⟩ = some c ∧ w.cell? ⟨g, 3, none⟩ = some d :=
  ⟨h.cell 0, h.cell 1, h.cell 2, h.cell 3⟩
theorem five_four_four {w : World} {g g' g'' : Nat} {t t' t'' : TypeId} {a b c d e a' b' c' d' a'' b'' c'' d'' : Value} (h : Blk w g t #[a, b, c, d, e]) (h' : Blk w g' t' #[a', b', c', d']) (h'' : Blk w g'' t'' #[a'', b'', c'', d'']) :
    w.cell? ⟨g, 0, none⟩ = some a ∧ w.cell? ⟨g, 1, none⟩ = some b ∧ w.cell? ⟨g, 2, none⟩ = some c ∧ w.cell? ⟨g, 3, none⟩ = some d ∧ w.cell? ⟨g, 4, none⟩ = some e ∧ w.cell? ⟨g', 0, none⟩ = some a' ∧ w.cell? ⟨g', 1, none⟩ = some b' ∧ w.cell? ⟨g', 2, none⟩ = some c' ∧ w.cell? ⟨g', 3, none⟩ = some d' ∧
      w.cell? ⟨g'', 0, none⟩ = some a'' ∧ w.cell? ⟨g'', 1, none⟩ = some b'' ∧ w.cell? ⟨g'', 2, none⟩ = some c'' ∧ w.cell? ⟨g'', 3, none⟩ = some d'' :=
  ⟨h.cell 0, h.cell 1, h.cell 2, h.cell 3, h.cell 4, h'.cell 0, h'.cell 1, h'.cell 2, h'.cell 3, h''.four⟩
attribute [local go_sem high] eqNum
set_option maxRecDepth 100000 in
set_option maxHeartbeats 4000000 in
theorem Divide_calls (x z : Nm) (w : World) :
    Calls Tryz.prog 23 #[.agg #[.int .i64 x.p.a, .int .i64 x.p.b, .int .i64 x.p.c, .int .i64 x.p.d, .int .i64 x.k], .agg #[.int .i64 z.p.a, .int .i64 z.p.b, .int .i64 z.p.c, .int .i64 z.p.d, .int .i64 z.k]] w fun e w' => ∃ (y : Nm) (er : Int), e = .returned (.tuple #[.agg #[.int .i64 y.p.a, .int .i64 y.p.b, .int .i64 y.p.c, .int .i64 y.p.d, .int .i64 y.k], .int .i64 er]) ∧ sDivide x z = (y, er) ∧ Below w.heap.size w w' := by
  obtain ⟨n, hn⟩ : ∃ n : Int, chks [x, z] = n := ⟨_, rfl⟩
  have Hn := Lib.hid hn
  clear hn
  go_enter Tryz.func23, Tryz.ntmps23
  go_wp2_with fail
  refine (checks_calls [x, z] _ _ (by simp) _ (by simp) (rowAt_two (Blk.at_ (((w.alloc _).alloc _).alloc _) _ _ (by simp)))).mono ?_
  rintro e w1 ⟨rfl, hb1⟩
  rw [Hn.out]
  have hx1 : Blk w1 w.heap.size 23 #[.int .i64 x.p.a, .int .i64 x.p.b, .int .i64 x.p.c, .int .i64 x.p.d, .int .i64 x.k] := Blk.below (Blk.alloc (Blk.alloc (Blk.alloc (Blk.new w _ _) _) _) _) hb1 (by simp <;> omega)
  have hy1 : Blk w1 (w.heap.size + 1) 23 #[.int .i64 z.p.a, .int .i64 z.p.b, .int .i64 z.p.c, .int .i64 z.p.d, .int .i64 z.k] := Blk.below (Blk.alloc (Blk.alloc (Blk.at_ (w.alloc _) _ _ (by simp)) _) _) hb1 (by simp <;> omega)
  have hr1 : Blk w1 (w.heap.size + 2) 23 #[.int .i64 0, .int .i64 0, .int .i64 0, .int .i64 0, .int .i64 0] := Blk.below (Blk.alloc (Blk.at_ ((w.alloc _).alloc _) _ _ (by simp)) _) hb1 (by simp <;> omega)
  have hbw1 : Below w.heap.size w w1 := bt hb1 ((below3 _ _ _ _).alloc (by simp <;> omega) _) (by simp <;> omega)
  clear hb1
  have hz1 := hr1.lt
  have hz0 : w.heap.size < w1.heap.size := by omega
  by_cases h0 : n = 0
  · obtain ⟨hcx, hcz⟩ := chks_two (Hn.out.trans h0)
    obtain ⟨hlx, hkx0, hkx1⟩ := Nm.chk_ok hcx
    obtain ⟨hlz, hkz0, hkz1⟩ := Nm.chk_ok hcz
    clear hcx hcz
    have Hc : Hid (x.chk = 0 ∧ z.chk = 0) := chks_two (Hn.out.trans h0)
    have Hs : Hid (sDivide x z = divR (Pt.red x.k.toNat x.p) (Pt.red z.k.toNat z.p)) := by show _ = _; unfold sDivide; rw [if_pos (Hn.out.trans h0)]
    obtain ⟨k, hk⟩ : ∃ k : Nat, x.k = k := ⟨x.k.toNat, by omega⟩
    obtain ⟨l, hl⟩ : ∃ l : Nat, z.k = l := ⟨z.k.toNat, by omega⟩
    have HL1 := Lib.hid (fun W => least_nm x.p k 70 (Pt.sm_mono (Pt.le_sm hlx) (by omega)) (by omega) W)
    have HL2 := Lib.hid (fun W => least_nm z.p l 70 (Pt.sm_mono (Pt.le_sm hlz) (by omega)) (by omega) W)
    rw [← hk] at HL1
    rw [← hl] at HL2
    have Hk : Hid (x.k = k ∧ z.k = l) := ⟨hk, hl⟩
    have HR1 : Hid (okN (Pt.red k x.p) = (⟨(Pt.red k x.p).1, (Pt.red k x.p).2⟩, 0)) := by have := okN_red Hc.out.1; rw [hk] at this; exact this
    have HR2 : Hid (okN (Pt.red l z.p) = (⟨(Pt.red l z.p).1, (Pt.red l z.p).2⟩, 0)) := by have := okN_red Hc.out.2; rw [hl] at this; exact this
    have Hk2 : Hid ((Pt.red k x.p).2 ≤ 60 ∧ (Pt.red l z.p).2 ≤ 60) := ⟨by have := Pt.red_kle k x.p; omega, by have := Pt.red_kle l z.p; omega⟩
    subst h0
    clear hk hl hlx hlz hkx0 hkx1 hkz0 hkz1 Hn
    obtain ⟨x0, x1, x2, x3, x4, xf⟩ := hx1.cells5
    go_wp2_with fail
    refine (work_calls _ _ _ _ _ _).mono ?_
    rintro e w1 ⟨rfl, hb1⟩
    have hy1 := hy1.below hb1 hy1.lt
    have hr1 := hr1.below hb1 hr1.lt
    have hbw1 := bt hb1 hbw1 hbw1.size
    clear hb1
    clear hx1 x0 x1 x2 x3 x4 xf
    go_wp2_with fail
    refine (HL1.out _).mono ?_
    rintro e w1 ⟨a, ea, rfl, ha, hb1⟩
    have hy1 := hy1.below hb1 hy1.lt
    have hr1 := hr1.below hb1 hr1.lt
    have hbw1 := bt hb1 hbw1 hbw1.size
    clear hb1
    rw [HR1.out] at ha
    injection ha with ha hea; subst hea
    have Ha : Hid (Pt.red k x.p = (a.p, a.k.toNat) ∧ a.k = ((Pt.red k x.p).2 : Int)) := by subst ha; exact ⟨rfl, rfl⟩
    clear ha
    have hz1 := hr1.lt
    obtain ⟨y0, y1, y2, y3, y4, yf⟩ := hy1.cells5
    go_upto_region 5 with fail
    generalize hA0 : w1.heap.size = A at *
    have hA1 := Blk.at_ w1 23 #[.int .i64 a.p.a, .int .i64 a.p.b, .int .i64 a.p.c, .int .i64 a.p.d, .int .i64 a.k] hA0
    have hy1 := hy1.alloc (.cells #[.int .i64 a.p.a, .int .i64 a.p.b, .int .i64 a.p.c, .int .i64 a.p.d, .int .i64 a.k] 23)
    have hr1 := hr1.alloc (.cells #[.int .i64 a.p.a, .int .i64 a.p.b, .int .i64 a.p.c, .int .i64 a.p.d, .int .i64 a.k] 23)
    have hbw1 := hbw1.alloc (by omega) (.cells #[.int .i64 a.p.a, .int .i64 a.p.b, .int .i64 a.p.c, .int .i64 a.p.d, .int .i64 a.k] 23)
    generalize w1.alloc (.cells #[.int .i64 a.p.a, .int .i64 a.p.b, .int .i64 a.p.c, .int .i64 a.p.d, .int .i64 a.k] 23) = w1 at *
    clear y0 y1 y2 y3 y4 yf
    obtain ⟨y0, y1, y2, y3, y4, yf⟩ := hy1.cells5
    go_wp2_with fail
    refine (work_calls _ _ _ _ _ _).mono ?_
    rintro e w1 ⟨rfl, hb1⟩
    have hr1 := hr1.below hb1 hr1.lt
    have hA1 := hA1.below hb1 hA1.lt
    have hbw1 := bt hb1 hbw1 hbw1.size
    clear hb1
    clear hy1 y0 y1 y2 y3 y4 yf
    go_wp2_with fail
    refine (HL2.out _).mono ?_
    rintro e w1 ⟨b, eb, rfl, hb, hb1⟩
    have hr1 := hr1.below hb1 hr1.lt
    have hA1 := hA1.below hb1 hA1.lt
    have hbw1 := bt hb1 hbw1 hbw1.size
    clear hb1
    rw [HR2.out] at hb
    injection hb with hb heb; subst heb
    have Hb : Hid (Pt.red l z.p = (b.p, b.k.toNat) ∧ b.k = ((Pt.red l z.p).2 : Int)) := by subst hb; exact ⟨rfl, rfl⟩
    clear hb
    have hzA := hA1.lt
    go_upto_region 6 with fail
    generalize hB0 : w1.heap.size = B at *
    have hB1 := Blk.at_ w1 23 #[.int .i64 b.p.a, .int .i64 b.p.b, .int .i64 b.p.c, .int .i64 b.p.d, .int .i64 b.k] hB0
    have hA1 := hA1.alloc (.cells #[.int .i64 b.p.a, .int .i64 b.p.b, .int .i64 b.p.c, .int .i64 b.p.d, .int .i64 b.k] 23)
    have hr1 := hr1.alloc (.cells #[.int .i64 b.p.a, .int .i64 b.p.b, .int .i64 b.p.c, .int .i64 b.p.d, .int .i64 b.k] 23)
    have hbw1 := hbw1.alloc (by omega) (.cells #[.int .i64 b.p.a, .int .i64 b.p.b, .int .i64 b.p.c, .int .i64 b.p.d, .int .i64 b.k] 23)
    generalize w1.alloc (.cells #[.int .i64 b.p.a, .int .i64 b.p.b, .int .i64 b.p.c, .int .i64 b.p.d, .int .i64 b.k] 23) = w1 at *
    obtain ⟨p0, p1, p2, p3, p4, pf⟩ := hA1.cells5
    go_wp2_with fail
    refine (work_calls _ _ _ _ _ _).mono ?_
    rintro e w1 ⟨rfl, hb1⟩
    have hr1 := hr1.below hb1 hr1.lt
    have hA1 := hA1.below hb1 hA1.lt
    have hB1 := hB1.below hb1 hB1.lt
    have hbw1 := bt hb1 hbw1 hbw1.size
    clear hb1
    go_wp2_with fail
    refine (parts_calls _ _ _ _ _ _ _).mono ?_
    rintro e w1 ⟨rfl, hb1⟩
    have hr1 := hr1.below hb1 hr1.lt
    have hA1 := hA1.below hb1 hA1.lt
    have hB1 := hB1.below hb1 hB1.lt
    have hbw1 := bt hb1 hbw1 hbw1.size
    clear hb1
    go_wp2_with fail
    refine (within_calls _ _ _ _ _ (by omega) (by omega) _).mono ?_
    rintro e w1 ⟨rfl, hb1⟩
    have hr1 := hr1.below hb1 hr1.lt
    have hA1 := hA1.below hb1 hA1.lt
    have hB1 := hB1.below hb1 hB1.lt
    have hbw1 := bt hb1 hbw1 hbw1.size
    clear hb1
    clear p0 p1 p2 p3 p4 pf
    obtain ⟨q0, q1, q2, q3, q4, qf⟩ := hB1.cells5
    have Hs : Hid (sDivide x z = divR (a.p, a.k.toNat) (b.p, b.k.toNat)) := by show _ = _; rw [Hs.out, Hk.out.1, Hk.out.2]; show divR (Pt.red k x.p) (Pt.red l z.p) = _; rw [Ha.out.1, Hb.out.1]
    have Hk3 : Hid ((0 ≤ a.k ∧ a.k ≤ 60) ∧ (0 ≤ b.k ∧ b.k ≤ 60)) := by
      have h1 := Ha.out.2; have h2 := Hb.out.2; have h3 := Hk2.out
      exact ⟨⟨by omega, by omega⟩, ⟨by omega, by omega⟩⟩
    have Hbz : Hid (b.p = Pt.zero → b.k = 0) := fun h => by rw [Hb.out.2, red_zk (by rw [Hb.out.1]; exact h)]; rfl
    clear HL1 HL2 HR1 HR2 Ha Hb Hk Hk2 Hc
    cases hwa : wiB a.p.a a.p.b a.p.c a.p.d 4096
    · have Hs2 : Hid (sDivide x z = (Nm.zero, 8)) := by
        show _ = _; rw [Hs.out]; unfold divR; rw [if_neg]; rintro ⟨h, _⟩; exact Bool.noConfusion (hwa.symm.trans h)
      obtain ⟨r0, r1, r2, r3, r4, rf⟩ := hr1.cells5
      go_wp2_with fail
      refine bodyPost_ret (v := .tuple #[.agg #[.int .i64 0, .int .i64 0, .int .i64 0, .int .i64 0, .int .i64 0], .int .i64 8]) (by simp [results, Tryz.results23, go_sem, r0, r1, r2, r3, r4]) rfl ⟨Nm.zero, 8, rfl, Hs2.out, ?_⟩
      exact below_put5 hbw1 (by omega) _ _ _ _ _
    · go_wp2_with fail
      refine (work_calls _ _ _ _ _ _).mono ?_
      rintro e w1 ⟨rfl, hb1⟩
      have hr1 := hr1.below hb1 hr1.lt
      have hA1 := hA1.below hb1 hA1.lt
      have hB1 := hB1.below hb1 hB1.lt
      have hbw1 := bt hb1 hbw1 hbw1.size
      clear hb1
      go_wp2_with fail
      refine (parts_calls _ _ _ _ _ _ _).mono ?_
      rintro e w1 ⟨rfl, hb1⟩
      have hr1 := hr1.below hb1 hr1.lt
      have hA1 := hA1.below hb1 hA1.lt
      have hB1 := hB1.below hb1 hB1.lt
      have hbw1 := bt hb1 hbw1 hbw1.size
      clear hb1
      go_wp2_with fail
      refine (within_calls _ _ _ _ _ (by omega) (by omega) _).mono ?_
      rintro e w1 ⟨rfl, hb1⟩
      have hr1 := hr1.below hb1 hr1.lt
      have hA1 := hA1.below hb1 hA1.lt
      have hB1 := hB1.below hb1 hB1.lt
      have hbw1 := bt hb1 hbw1 hbw1.size
      clear hb1
      cases hwb : wiB b.p.a b.p.b b.p.c b.p.d 4096
      · have Hs2 : Hid (sDivide x z = (Nm.zero, 8)) := by
          show _ = _; rw [Hs.out]; unfold divR; rw [if_neg]; rintro ⟨_, h⟩; exact Bool.noConfusion (hwb.symm.trans h)
        obtain ⟨r0, r1, r2, r3, r4, rf⟩ := hr1.cells5
        go_wp2_with fail
        refine bodyPost_ret (v := .tuple #[.agg #[.int .i64 0, .int .i64 0, .int .i64 0, .int .i64 0, .int .i64 0], .int .i64 8]) (by simp [results, Tryz.results23, go_sem, r0, r1, r2, r3, r4]) rfl ⟨Nm.zero, 8, rfl, Hs2.out, ?_⟩
        exact below_put5 hbw1 (by omega) _ _ _ _ _
      · clear q0 q1 q2 q3 q4 qf
        obtain ⟨q0, q1, q2, q3, q4, qf⟩ := hB1.cells5
        by_cases hz : b.p = Pt.zero
        · have Hs2 : Hid (sDivide x z = (Nm.zero, 6)) := by
            show _ = _; rw [Hs.out]; unfold divR; rw [if_pos ⟨hwa, hwb⟩, if_pos hz]
          have z0 : b.p.a = 0 := by rw [hz]; rfl
          have z1 : b.p.b = 0 := by rw [hz]; rfl
          have z2 : b.p.c = 0 := by rw [hz]; rfl
          have z3 : b.p.d = 0 := by rw [hz]; rfl
          have z4 : b.k = 0 := Hbz.out hz
          clear hz
          obtain ⟨r0, r1, r2, r3, r4, rf⟩ := hr1.cells5
          go_wp2_with fail
          refine bodyPost_ret (v := .tuple #[.agg #[.int .i64 0, .int .i64 0, .int .i64 0, .int .i64 0, .int .i64 0], .int .i64 6]) (by simp [results, Tryz.results23, go_sem, r0, r1, r2, r3, r4]) rfl ⟨Nm.zero, 6, rfl, Hs2.out, ?_⟩
          exact below_put5 hbw1 (by omega) _ _ _ _ _
        · have hnz : (b.p.a == 0 && (b.p.b == 0 && (b.p.c == 0 && (b.p.d == 0 && b.k == 0)))) = false := by
            rw [Bool.eq_false_iff]; intro h; simp at h; exact hz (Pt.ext' h.1 h.2.1 h.2.2.1 h.2.2.2.1)
          have Hs : Hid (sDivide x z = divR.divO (Pt.quot a.p b.p) (b.p.whole / 2 ^ twos b.p.whole) (a.k - b.k + 2 * twos b.p.whole)) := by
            show _ = _; rw [Hs.out]; unfold divR; rw [if_pos ⟨hwa, hwb⟩, if_neg hz]
            have h3 := Hk3.out
            congr 1
            show ((a.k.toNat : Int) - (b.k.toNat : Int)) + 2 * (twos b.p.whole : Nat) = _
            omega
          have hA5 : a.p.le 4096 := (wiB_iff _ _).1 hwa
          have hB5 : b.p.le 4096 := (wiB_iff _ _).1 hwb
          have hn5 : b.p.nrm.le 67108864 := Pt.le_mono (Pt.mul_le hB5 (Pt.le_conj hB5)) (by omega)
          have hc5 : (b.p.conj.mul b.p.nrm.dot).le 1099511627776 := Pt.le_mono (Pt.mul_le (Pt.le_conj hB5) (Pt.le_dot hn5)) (by omega)
          have hw5 : (b.p.nrm.mul b.p.nrm.dot).le 18014398509481984 := Pt.le_mono (Pt.mul_le hn5 (Pt.le_dot hn5)) (by omega)
          have hq5 : (Pt.quot a.p b.p).le 18014398509481984 := Pt.le_mono (Pt.mul_le hA5 hc5) (by omega)
          have HT1 : Hid (∀ W, Calls Tryz.prog 56 #[.agg #[.int .i64 b.p.a, .int .i64 b.p.b, .int .i64 b.p.c, .int .i64 b.p.d], .agg #[.int .i64 b.p.a, .int .i64 (-b.p.d), .int .i64 (-b.p.c), .int .i64 (-b.p.b)]] W fun e w' =>
            e = .returned (.agg #[.int .i64 b.p.nrm.a, .int .i64 b.p.nrm.b, .int .i64 b.p.nrm.c, .int .i64 b.p.nrm.d]) ∧ Below W.heap.size W w') := fun W => times_calls b.p b.p.conj 4096 4096 hB5 (Pt.le_conj hB5) (by omega) W
          have HT2 : Hid (∀ W, Calls Tryz.prog 56 #[.agg #[.int .i64 b.p.nrm.a, .int .i64 b.p.nrm.b, .int .i64 b.p.nrm.c, .int .i64 b.p.nrm.d], .agg #[.int .i64 b.p.nrm.a, .int .i64 (-b.p.nrm.b), .int .i64 b.p.nrm.c, .int .i64 (-b.p.nrm.d)]] W fun e w' =>
            e = .returned (.agg #[.int .i64 b.p.whole, .int .i64 (b.p.nrm.mul b.p.nrm.dot).b, .int .i64 (b.p.nrm.mul b.p.nrm.dot).c, .int .i64 (b.p.nrm.mul b.p.nrm.dot).d]) ∧ Below W.heap.size W w') := fun W => times_calls b.p.nrm b.p.nrm.dot 67108864 67108864 hn5 (Pt.le_dot hn5) (by omega) W
          have HT3 : Hid (∀ W, Calls Tryz.prog 56 #[.agg #[.int .i64 b.p.a, .int .i64 (-b.p.d), .int .i64 (-b.p.c), .int .i64 (-b.p.b)], .agg #[.int .i64 b.p.nrm.a, .int .i64 (-b.p.nrm.b), .int .i64 b.p.nrm.c, .int .i64 (-b.p.nrm.d)]] W fun e w' =>
            e = .returned (.agg #[.int .i64 (b.p.conj.mul b.p.nrm.dot).a, .int .i64 (b.p.conj.mul b.p.nrm.dot).b, .int .i64 (b.p.conj.mul b.p.nrm.dot).c, .int .i64 (b.p.conj.mul b.p.nrm.dot).d]) ∧ Below W.heap.size W w') := fun W => times_calls b.p.conj b.p.nrm.dot 4096 67108864 (Pt.le_conj hB5) (Pt.le_dot hn5) (by omega) W
          have HT4 : Hid (∀ W, Calls Tryz.prog 56 #[.agg #[.int .i64 a.p.a, .int .i64 a.p.b, .int .i64 a.p.c, .int .i64 a.p.d], .agg #[.int .i64 (b.p.conj.mul b.p.nrm.dot).a, .int .i64 (b.p.conj.mul b.p.nrm.dot).b, .int .i64 (b.p.conj.mul b.p.nrm.dot).c, .int .i64 (b.p.conj.mul b.p.nrm.dot).d]] W fun e w' =>
            e = .returned (.agg #[.int .i64 (Pt.quot a.p b.p).a, .int .i64 (Pt.quot a.p b.p).b, .int .i64 (Pt.quot a.p b.p).c, .int .i64 (Pt.quot a.p b.p).d]) ∧ Below W.heap.size W w') := fun W => times_calls a.p (b.p.conj.mul b.p.nrm.dot) 4096 1099511627776 hA5 hc5 (by omega) W
          have HC : Hid (∀ W, Calls Tryz.prog 57 #[.agg #[.int .i64 b.p.a, .int .i64 b.p.b, .int .i64 b.p.c, .int .i64 b.p.d]] W fun e w' => e = .returned (.agg #[.int .i64 b.p.a, .int .i64 (-b.p.d), .int .i64 (-b.p.c), .int .i64 (-b.p.b)]) ∧ Below W.heap.size W w') := fun W => by
            obtain ⟨⟨p1, p2⟩, ⟨p3, p4⟩, ⟨p5, p6⟩, ⟨p7, p8⟩⟩ := hB5; exact conj_calls b.p.a b.p.b b.p.c b.p.d (by omega) (by omega) (by omega) W
          have HD : Hid (∀ W, Calls Tryz.prog 49 #[.agg #[.int .i64 b.p.nrm.a, .int .i64 b.p.nrm.b, .int .i64 b.p.nrm.c, .int .i64 b.p.nrm.d]] W fun e w' => e = .returned (.agg #[.int .i64 b.p.nrm.a, .int .i64 (-b.p.nrm.b), .int .i64 b.p.nrm.c, .int .i64 (-b.p.nrm.d)]) ∧ Below W.heap.size W w') := fun W => by
            obtain ⟨⟨p1, p2⟩, ⟨p3, p4⟩, ⟨p5, p6⟩, ⟨p7, p8⟩⟩ := hn5; exact dot_calls b.p.nrm.a b.p.nrm.b b.p.nrm.c b.p.nrm.d (by omega) (by omega) W
          have HQ : Hid ((Pt.quot a.p b.p).le 18014398509481984) := hq5
          have HW : Hid (b.p.whole ≠ 0 ∧ b.p.whole.natAbs < 2 ^ 55) := ⟨Pt.whole_ne hz, by obtain ⟨⟨p1, p2⟩, _⟩ := hw5; show (b.p.nrm.mul b.p.nrm.dot).a.natAbs < 36028797018963968; omega⟩
          clear hz hA5 hB5 hn5 hc5 hw5 hq5 hwa hwb Hbz
          go_wp2_with fail
          refine (work_calls _ _ _ _ _ _).mono ?_
          rintro e w1 ⟨rfl, hb1⟩
          have hr1 := hr1.below hb1 hr1.lt
          have hA1 := hA1.below hb1 hA1.lt
          have hB1 := hB1.below hb1 hB1.lt
          have hbw1 := bt hb1 hbw1 hbw1.size
          clear hb1
          go_wp2_with fail
          refine (parts_calls _ _ _ _ _ _ _).mono ?_
          rintro e w1 ⟨rfl, hb1⟩
          have hr1 := hr1.below hb1 hr1.lt
          have hA1 := hA1.below hb1 hA1.lt
          have hB1 := hB1.below hb1 hB1.lt
          have hbw1 := bt hb1 hbw1 hbw1.size
          clear hb1
          clear q0 q1 q2 q3 q4 qf hnz
          have hzB := hB1.lt
          go_upto_region 11 with fail
          generalize hP0 : w1.heap.size = P at *
          have hP1 := Blk.at_ w1 66 #[.int .i64 b.p.a, .int .i64 b.p.b, .int .i64 b.p.c, .int .i64 b.p.d] hP0
          have hA1 := hA1.alloc (.cells #[.int .i64 b.p.a, .int .i64 b.p.b, .int .i64 b.p.c, .int .i64 b.p.d] 66)
          have hB1 := hB1.alloc (.cells #[.int .i64 b.p.a, .int .i64 b.p.b, .int .i64 b.p.c, .int .i64 b.p.d] 66)
          have hr1 := hr1.alloc (.cells #[.int .i64 b.p.a, .int .i64 b.p.b, .int .i64 b.p.c, .int .i64 b.p.d] 66)
          have hbw1 := hbw1.alloc (by omega) (.cells #[.int .i64 b.p.a, .int .i64 b.p.b, .int .i64 b.p.c, .int .i64 b.p.d] 66)
          generalize w1.alloc (.cells #[.int .i64 b.p.a, .int .i64 b.p.b, .int .i64 b.p.c, .int .i64 b.p.d] 66) = W0 at *
          have hr0 := hr1
          have hA0 := hA1
          have hB0 := hB1
          have hP0 := hP1
          have hbw0 := hbw1
          have hr1 := hr0.drew
          have hA1 := hA0.drew
          have hB1 := hB0.drew
          have hP1 := hP0.drew
          have hbw1 := hbw0.drew
          have hz0 := hP0.lt
          go_cut [12] (fun s12 wx => ∃ B12, s12 = .pointer (some ⟨B12, 0, none⟩) ∧ P < B12 ∧ Blk wx B12 66 #[.int .i64 b.p.nrm.a, .int .i64 b.p.nrm.b, .int .i64 b.p.nrm.c, .int .i64 b.p.nrm.d] ∧ Blk wx P 66 #[.int .i64 b.p.a, .int .i64 b.p.b, .int .i64 b.p.c, .int .i64 b.p.d] ∧ Blk wx A 23 #[.int .i64 a.p.a, .int .i64 a.p.b, .int .i64 a.p.c, .int .i64 a.p.d, .int .i64 a.k] ∧ Blk wx B 23 #[.int .i64 b.p.a, .int .i64 b.p.b, .int .i64 b.p.c, .int .i64 b.p.d, .int .i64 b.k] ∧ Blk wx (w.heap.size + 2) 23 #[.int .i64 0, .int .i64 0, .int .i64 0, .int .i64 0, .int .i64 0] ∧ Below w.heap.size w wx)
          case first =>
            go_region_held3 (fun w' => w'.cell? ⟨P, 0, none⟩ = some (.int .i64 b.p.a) ∧ w'.cell? ⟨P, 1, none⟩ = some (.int .i64 b.p.b) ∧ w'.cell? ⟨P, 2, none⟩ = some (.int .i64 b.p.c) ∧ w'.cell? ⟨P, 3, none⟩ = some (.int .i64 b.p.d)) ((with_reducible refine Blk.four (t := 66) ?_) <;> (repeat (first | (with_reducible exact hP1) | ((with_reducible refine Blk.far' ?_ _ ?_); (focus ((try dsimp only); omega))) | (with_reducible refine Blk.alloc ?_ _) | (with_reducible refine Blk.drew ?_))) <;> (with_reducible exact hP0))
              (first
                | (go_at_call 57; (with_reducible refine (HC.out _).mono ?_); rintro e w1 ⟨rfl, hb1⟩; have hsz := hb1.size; (try simp at hsz); (first | (with_reducible (have hr1 := hr1.below hb1 hr1.lt; have hA1 := hA1.below hb1 hA1.lt; have hB1 := hB1.below hb1 hB1.lt; have hP1 := hP1.below hb1 hP1.lt; have hbw1 := bt hb1 hbw1 hbw1.size; (try have m1 := m1.below hb1 m1.lt); (try have m2 := m2.below hb1 m2.lt))) | ((with_reducible (have hr1 := (hr1.alloc _).below hb1 (hr1.alloc _).lt; have hA1 := (hA1.alloc _).below hb1 (hA1.alloc _).lt; have hB1 := (hB1.alloc _).below hb1 (hB1.alloc _).lt; have hP1 := (hP1.alloc _).below hb1 (hP1.alloc _).lt)); have hbw1 := bt hb1 (hbw1.alloc hbw1.size _) (by have := hbw1.size; simp; omega); (first | (have q1 := Nat.ne_of_lt m1.lt; have q2 := Nat.ne_of_gt m1.lt; have m2 := Blk.below (Blk.new _ _ _) hb1 (by simp); have m1 := (m1.alloc _).below hb1 (m1.alloc _).lt) | (have m1 := Blk.below (Blk.new _ _ _) hb1 (by simp)))) | ((with_reducible (have hr1 := ((hr1.alloc _).alloc _).below hb1 ((hr1.alloc _).alloc _).lt; have hA1 := ((hA1.alloc _).alloc _).below hb1 ((hA1.alloc _).alloc _).lt; have hB1 := ((hB1.alloc _).alloc _).below hb1 ((hB1.alloc _).alloc _).lt; have hP1 := ((hP1.alloc _).alloc _).below hb1 ((hP1.alloc _).alloc _).lt)); have hbw1 := bt hb1 ((hbw1.alloc hbw1.size _).alloc (by have := hbw1.size; simp; omega) _) (by have := hbw1.size; simp; omega); have m1 := Blk.below (Blk.alloc (Blk.new _ _ _) _) hb1 (by simp <;> omega); have m2 := Blk.below (Blk.at_ _ _ _ (World.size_alloc _ _)) hb1 (by simp)) | ((with_reducible (have hr1 := (Blk.drew (hr0.alloc _)).below hb1 (Blk.drew (hr0.alloc _)).lt; have hA1 := (Blk.drew (hA0.alloc _)).below hb1 (Blk.drew (hA0.alloc _)).lt; have hB1 := (Blk.drew (hB0.alloc _)).below hb1 (Blk.drew (hB0.alloc _)).lt; have hP1 := (Blk.drew (hP0.alloc _)).below hb1 (Blk.drew (hP0.alloc _)).lt)); have hbw1 := bt hb1 (Below.drew (hbw0.alloc hbw0.size _)) (by have := hbw0.size; simp; omega); have m1 := Blk.below (Blk.drew (Blk.new _ _ _)) hb1 (by simp)) | ((with_reducible (have hr1 := (Blk.drew ((hr0.alloc _).alloc _)).below hb1 (Blk.drew ((hr0.alloc _).alloc _)).lt; have hA1 := (Blk.drew ((hA0.alloc _).alloc _)).below hb1 (Blk.drew ((hA0.alloc _).alloc _)).lt; have hB1 := (Blk.drew ((hB0.alloc _).alloc _)).below hb1 (Blk.drew ((hB0.alloc _).alloc _)).lt; have hP1 := (Blk.drew ((hP0.alloc _).alloc _)).below hb1 (Blk.drew ((hP0.alloc _).alloc _)).lt)); have hbw1 := bt hb1 (Below.drew ((hbw0.alloc hbw0.size _).alloc (by have := hbw0.size; simp; omega) _)) (by have := hbw0.size; simp; omega); have m1 := Blk.below (Blk.drew (Blk.alloc (Blk.new _ _ _) _)) hb1 (by simp <;> omega); have m2 := Blk.below (Blk.drew (Blk.at_ _ _ _ (World.size_alloc _ _))) hb1 (by simp))); clear hb1; have hz1 := hr1.lt; (try (clear a0 a1 a2 a3 af)); (try (obtain ⟨a0, a1, a2, a3, af⟩ := m1.cells4)); (try (clear b0 b1 b2 b3 bf)); (try (obtain ⟨b0, b1, b2, b3, bf⟩ := m2.cells4)); (try have lm1 := m1.lt); (try have lm2 := m2.lt))
                | (go_at_call 56; (with_reducible refine (HT1.out _).mono ?_); rintro e w1 ⟨rfl, hb1⟩; have hsz := hb1.size; (try simp at hsz); (first | (with_reducible (have hr1 := hr1.below hb1 hr1.lt; have hA1 := hA1.below hb1 hA1.lt; have hB1 := hB1.below hb1 hB1.lt; have hP1 := hP1.below hb1 hP1.lt; have hbw1 := bt hb1 hbw1 hbw1.size; (try have m1 := m1.below hb1 m1.lt); (try have m2 := m2.below hb1 m2.lt))) | ((with_reducible (have hr1 := (hr1.alloc _).below hb1 (hr1.alloc _).lt; have hA1 := (hA1.alloc _).below hb1 (hA1.alloc _).lt; have hB1 := (hB1.alloc _).below hb1 (hB1.alloc _).lt; have hP1 := (hP1.alloc _).below hb1 (hP1.alloc _).lt)); have hbw1 := bt hb1 (hbw1.alloc hbw1.size _) (by have := hbw1.size; simp; omega); (first | (have q1 := Nat.ne_of_lt m1.lt; have q2 := Nat.ne_of_gt m1.lt; have m2 := Blk.below (Blk.new _ _ _) hb1 (by simp); have m1 := (m1.alloc _).below hb1 (m1.alloc _).lt) | (have m1 := Blk.below (Blk.new _ _ _) hb1 (by simp)))) | ((with_reducible (have hr1 := ((hr1.alloc _).alloc _).below hb1 ((hr1.alloc _).alloc _).lt; have hA1 := ((hA1.alloc _).alloc _).below hb1 ((hA1.alloc _).alloc _).lt; have hB1 := ((hB1.alloc _).alloc _).below hb1 ((hB1.alloc _).alloc _).lt; have hP1 := ((hP1.alloc _).alloc _).below hb1 ((hP1.alloc _).alloc _).lt)); have hbw1 := bt hb1 ((hbw1.alloc hbw1.size _).alloc (by have := hbw1.size; simp; omega) _) (by have := hbw1.size; simp; omega); have m1 := Blk.below (Blk.alloc (Blk.new _ _ _) _) hb1 (by simp <;> omega); have m2 := Blk.below (Blk.at_ _ _ _ (World.size_alloc _ _)) hb1 (by simp)) | ((with_reducible (have hr1 := (Blk.drew (hr0.alloc _)).below hb1 (Blk.drew (hr0.alloc _)).lt; have hA1 := (Blk.drew (hA0.alloc _)).below hb1 (Blk.drew (hA0.alloc _)).lt; have hB1 := (Blk.drew (hB0.alloc _)).below hb1 (Blk.drew (hB0.alloc _)).lt; have hP1 := (Blk.drew (hP0.alloc _)).below hb1 (Blk.drew (hP0.alloc _)).lt)); have hbw1 := bt hb1 (Below.drew (hbw0.alloc hbw0.size _)) (by have := hbw0.size; simp; omega); have m1 := Blk.below (Blk.drew (Blk.new _ _ _)) hb1 (by simp)) | ((with_reducible (have hr1 := (Blk.drew ((hr0.alloc _).alloc _)).below hb1 (Blk.drew ((hr0.alloc _).alloc _)).lt; have hA1 := (Blk.drew ((hA0.alloc _).alloc _)).below hb1 (Blk.drew ((hA0.alloc _).alloc _)).lt; have hB1 := (Blk.drew ((hB0.alloc _).alloc _)).below hb1 (Blk.drew ((hB0.alloc _).alloc _)).lt; have hP1 := (Blk.drew ((hP0.alloc _).alloc _)).below hb1 (Blk.drew ((hP0.alloc _).alloc _)).lt)); have hbw1 := bt hb1 (Below.drew ((hbw0.alloc hbw0.size _).alloc (by have := hbw0.size; simp; omega) _)) (by have := hbw0.size; simp; omega); have m1 := Blk.below (Blk.drew (Blk.alloc (Blk.new _ _ _) _)) hb1 (by simp <;> omega); have m2 := Blk.below (Blk.drew (Blk.at_ _ _ _ (World.size_alloc _ _))) hb1 (by simp))); clear hb1; have hz1 := hr1.lt; (try (clear a0 a1 a2 a3 af)); (try (obtain ⟨a0, a1, a2, a3, af⟩ := m1.cells4)); (try (clear b0 b1 b2 b3 bf)); (try (obtain ⟨b0, b1, b2, b3, bf⟩ := m2.cells4)); (try have lm1 := m1.lt); (try have lm2 := m2.lt)))
            all_goals go_wp2_with fail
            all_goals go_meet
            all_goals (with_reducible refine ⟨_, rfl, ?_, ?_, ?_, ?_, ?_, ?_, ?_⟩)
            all_goals first
              | omega
              | ((with_reducible (refine Below.le0 ?_)); have hs0 := hbw1.size; (repeat (first | (with_reducible exact hbw1) | omega | (with_reducible refine Below.alloc ?_ ?_ _) | (with_reducible refine Below.setCell ?_ ?_ _) | (simp; omega))); done)
              | ((repeat (first | (with_reducible exact hP1) | (with_reducible exact hA1) | (with_reducible exact hB1) | (with_reducible exact hr1) | (with_reducible exact m1) | (with_reducible exact Blk.new _ _ _) | ((with_reducible refine Blk.at_ _ _ _ ?_); (focus (simp only [World.size_alloc, World.size_setCell]; done))) | (with_reducible exact Blk.put4 m1) | (with_reducible exact Blk.put4 (Blk.alloc m1 _)) | (with_reducible exact Blk.put4 (Blk.new _ _ _)) | (with_reducible apply Blk.put4) | (with_reducible refine Blk.alloc ?_ _) | ((with_reducible refine Blk.far' ?_ _ ?_); (focus ((try dsimp only); omega))))); done)
          case rest =>
            clear hr0 hA0 hB0 hP0 hbw0 hr1 hA1 hB1 hP1 hbw1 hz0
            obtain ⟨N, rfl, hzN, hN1, hP1, hA1, hB1, hr1, hbw1⟩ := hcut
            go_upto_region 12 with fail
            have hr0 := hr1
            have hA0 := hA1
            have hB0 := hB1
            have hP0 := hP1
            have hN0 := hN1
            have hbw0 := hbw1
            have hr1 := hr0.drew
            have hA1 := hA0.drew
            have hB1 := hB0.drew
            have hP1 := hP0.drew
            have hN1 := hN0.drew
            have hbw1 := hbw0.drew
            have hz0 := hN0.lt
            have hi : ∀ x0 x1 x2 x3 w, (Instr.index 66 (.agg #[x0, x1, x2, x3]) (.int .i64 0)).run Tryz.prog w = .ok x0 w := fun _ _ _ _ _ => by kernel_rfl
            go_region_held3 (fun w' => w'.cell? ⟨N, 0, none⟩ = some (.int .i64 b.p.nrm.a) ∧ w'.cell? ⟨N, 1, none⟩ = some (.int .i64 b.p.nrm.b) ∧ w'.cell? ⟨N, 2, none⟩ = some (.int .i64 b.p.nrm.c) ∧ w'.cell? ⟨N, 3, none⟩ = some (.int .i64 b.p.nrm.d)) ((with_reducible refine Blk.four (t := 66) ?_) <;> (repeat (first | (with_reducible exact hN1) | ((with_reducible refine Blk.far' ?_ _ ?_); (focus ((try dsimp only); omega))) | (with_reducible refine Blk.alloc ?_ _) | (with_reducible refine Blk.drew ?_))) <;> (with_reducible exact hN0))
              (first
                | (go_at_call 49; (with_reducible refine (HD.out _).mono ?_); rintro e w1 ⟨rfl, hb1⟩; have hsz := hb1.size; (try simp at hsz); (first | (with_reducible (have hr1 := hr1.below hb1 hr1.lt; have hA1 := hA1.below hb1 hA1.lt; have hB1 := hB1.below hb1 hB1.lt; have hP1 := hP1.below hb1 hP1.lt; have hN1 := hN1.below hb1 hN1.lt; have hbw1 := bt hb1 hbw1 hbw1.size; (try have m1 := m1.below hb1 m1.lt); (try have m2 := m2.below hb1 m2.lt))) | ((with_reducible (have hr1 := (hr1.alloc _).below hb1 (hr1.alloc _).lt; have hA1 := (hA1.alloc _).below hb1 (hA1.alloc _).lt; have hB1 := (hB1.alloc _).below hb1 (hB1.alloc _).lt; have hP1 := (hP1.alloc _).below hb1 (hP1.alloc _).lt; have hN1 := (hN1.alloc _).below hb1 (hN1.alloc _).lt)); have hbw1 := bt hb1 (hbw1.alloc hbw1.size _) (by have := hbw1.size; simp; omega); (first | (have q1 := Nat.ne_of_lt m1.lt; have q2 := Nat.ne_of_gt m1.lt; have m2 := Blk.below (Blk.new _ _ _) hb1 (by simp); have m1 := (m1.alloc _).below hb1 (m1.alloc _).lt) | (have m1 := Blk.below (Blk.new _ _ _) hb1 (by simp)))) | ((with_reducible (have hr1 := ((hr1.alloc _).alloc _).below hb1 ((hr1.alloc _).alloc _).lt; have hA1 := ((hA1.alloc _).alloc _).below hb1 ((hA1.alloc _).alloc _).lt; have hB1 := ((hB1.alloc _).alloc _).below hb1 ((hB1.alloc _).alloc _).lt; have hP1 := ((hP1.alloc _).alloc _).below hb1 ((hP1.alloc _).alloc _).lt; have hN1 := ((hN1.alloc _).alloc _).below hb1 ((hN1.alloc _).alloc _).lt)); have hbw1 := bt hb1 ((hbw1.alloc hbw1.size _).alloc (by have := hbw1.size; simp; omega) _) (by have := hbw1.size; simp; omega); have m1 := Blk.below (Blk.alloc (Blk.new _ _ _) _) hb1 (by simp <;> omega); have m2 := Blk.below (Blk.at_ _ _ _ (World.size_alloc _ _)) hb1 (by simp)) | ((with_reducible (have hr1 := (Blk.drew (hr0.alloc _)).below hb1 (Blk.drew (hr0.alloc _)).lt; have hA1 := (Blk.drew (hA0.alloc _)).below hb1 (Blk.drew (hA0.alloc _)).lt; have hB1 := (Blk.drew (hB0.alloc _)).below hb1 (Blk.drew (hB0.alloc _)).lt; have hP1 := (Blk.drew (hP0.alloc _)).below hb1 (Blk.drew (hP0.alloc _)).lt; have hN1 := (Blk.drew (hN0.alloc _)).below hb1 (Blk.drew (hN0.alloc _)).lt)); have hbw1 := bt hb1 (Below.drew (hbw0.alloc hbw0.size _)) (by have := hbw0.size; simp; omega); have m1 := Blk.below (Blk.drew (Blk.new _ _ _)) hb1 (by simp)) | ((with_reducible (have hr1 := (Blk.drew ((hr0.alloc _).alloc _)).below hb1 (Blk.drew ((hr0.alloc _).alloc _)).lt; have hA1 := (Blk.drew ((hA0.alloc _).alloc _)).below hb1 (Blk.drew ((hA0.alloc _).alloc _)).lt; have hB1 := (Blk.drew ((hB0.alloc _).alloc _)).below hb1 (Blk.drew ((hB0.alloc _).alloc _)).lt; have hP1 := (Blk.drew ((hP0.alloc _).alloc _)).below hb1 (Blk.drew ((hP0.alloc _).alloc _)).lt; have hN1 := (Blk.drew ((hN0.alloc _).alloc _)).below hb1 (Blk.drew ((hN0.alloc _).alloc _)).lt)); have hbw1 := bt hb1 (Below.drew ((hbw0.alloc hbw0.size _).alloc (by have := hbw0.size; simp; omega) _)) (by have := hbw0.size; simp; omega); have m1 := Blk.below (Blk.drew (Blk.alloc (Blk.new _ _ _) _)) hb1 (by simp <;> omega); have m2 := Blk.below (Blk.drew (Blk.at_ _ _ _ (World.size_alloc _ _))) hb1 (by simp))); clear hb1; have hz1 := hr1.lt; (try (clear a0 a1 a2 a3 af)); (try (obtain ⟨a0, a1, a2, a3, af⟩ := m1.cells4)); (try (clear b0 b1 b2 b3 bf)); (try (obtain ⟨b0, b1, b2, b3, bf⟩ := m2.cells4)); (try have lm1 := m1.lt); (try have lm2 := m2.lt))
                | (go_at_call 56; (with_reducible refine (HT2.out _).mono ?_); rintro e w1 ⟨rfl, hb1⟩; have hsz := hb1.size; (try simp at hsz); (first | (with_reducible (have hr1 := hr1.below hb1 hr1.lt; have hA1 := hA1.below hb1 hA1.lt; have hB1 := hB1.below hb1 hB1.lt; have hP1 := hP1.below hb1 hP1.lt; have hN1 := hN1.below hb1 hN1.lt; have hbw1 := bt hb1 hbw1 hbw1.size; (try have m1 := m1.below hb1 m1.lt); (try have m2 := m2.below hb1 m2.lt))) | ((with_reducible (have hr1 := (hr1.alloc _).below hb1 (hr1.alloc _).lt; have hA1 := (hA1.alloc _).below hb1 (hA1.alloc _).lt; have hB1 := (hB1.alloc _).below hb1 (hB1.alloc _).lt; have hP1 := (hP1.alloc _).below hb1 (hP1.alloc _).lt; have hN1 := (hN1.alloc _).below hb1 (hN1.alloc _).lt)); have hbw1 := bt hb1 (hbw1.alloc hbw1.size _) (by have := hbw1.size; simp; omega); (first | (have q1 := Nat.ne_of_lt m1.lt; have q2 := Nat.ne_of_gt m1.lt; have m2 := Blk.below (Blk.new _ _ _) hb1 (by simp); have m1 := (m1.alloc _).below hb1 (m1.alloc _).lt) | (have m1 := Blk.below (Blk.new _ _ _) hb1 (by simp)))) | ((with_reducible (have hr1 := ((hr1.alloc _).alloc _).below hb1 ((hr1.alloc _).alloc _).lt; have hA1 := ((hA1.alloc _).alloc _).below hb1 ((hA1.alloc _).alloc _).lt; have hB1 := ((hB1.alloc _).alloc _).below hb1 ((hB1.alloc _).alloc _).lt; have hP1 := ((hP1.alloc _).alloc _).below hb1 ((hP1.alloc _).alloc _).lt; have hN1 := ((hN1.alloc _).alloc _).below hb1 ((hN1.alloc _).alloc _).lt)); have hbw1 := bt hb1 ((hbw1.alloc hbw1.size _).alloc (by have := hbw1.size; simp; omega) _) (by have := hbw1.size; simp; omega); have m1 := Blk.below (Blk.alloc (Blk.new _ _ _) _) hb1 (by simp <;> omega); have m2 := Blk.below (Blk.at_ _ _ _ (World.size_alloc _ _)) hb1 (by simp)) | ((with_reducible (have hr1 := (Blk.drew (hr0.alloc _)).below hb1 (Blk.drew (hr0.alloc _)).lt; have hA1 := (Blk.drew (hA0.alloc _)).below hb1 (Blk.drew (hA0.alloc _)).lt; have hB1 := (Blk.drew (hB0.alloc _)).below hb1 (Blk.drew (hB0.alloc _)).lt; have hP1 := (Blk.drew (hP0.alloc _)).below hb1 (Blk.drew (hP0.alloc _)).lt; have hN1 := (Blk.drew (hN0.alloc _)).below hb1 (Blk.drew (hN0.alloc _)).lt)); have hbw1 := bt hb1 (Below.drew (hbw0.alloc hbw0.size _)) (by have := hbw0.size; simp; omega); have m1 := Blk.below (Blk.drew (Blk.new _ _ _)) hb1 (by simp)) | ((with_reducible (have hr1 := (Blk.drew ((hr0.alloc _).alloc _)).below hb1 (Blk.drew ((hr0.alloc _).alloc _)).lt; have hA1 := (Blk.drew ((hA0.alloc _).alloc _)).below hb1 (Blk.drew ((hA0.alloc _).alloc _)).lt; have hB1 := (Blk.drew ((hB0.alloc _).alloc _)).below hb1 (Blk.drew ((hB0.alloc _).alloc _)).lt; have hP1 := (Blk.drew ((hP0.alloc _).alloc _)).below hb1 (Blk.drew ((hP0.alloc _).alloc _)).lt; have hN1 := (Blk.drew ((hN0.alloc _).alloc _)).below hb1 (Blk.drew ((hN0.alloc _).alloc _)).lt)); have hbw1 := bt hb1 (Below.drew ((hbw0.alloc hbw0.size _).alloc (by have := hbw0.size; simp; omega) _)) (by have := hbw0.size; simp; omega); have m1 := Blk.below (Blk.drew (Blk.alloc (Blk.new _ _ _) _)) hb1 (by simp <;> omega); have m2 := Blk.below (Blk.drew (Blk.at_ _ _ _ (World.size_alloc _ _))) hb1 (by simp))); clear hb1; have hz1 := hr1.lt; (try (clear a0 a1 a2 a3 af)); (try (obtain ⟨a0, a1, a2, a3, af⟩ := m1.cells4)); (try (clear b0 b1 b2 b3 bf)); (try (obtain ⟨b0, b1, b2, b3, bf⟩ := m2.cells4)); (try have lm1 := m1.lt); (try have lm2 := m2.lt)))
            clear hr0 hA0 hB0 hP0 hN0 hbw0
            go_upto_region 13 with fail
            have hr0 := hr1
            have hA0 := hA1
            have hB0 := hB1
            have hP0 := hP1
            have hN0 := hN1
            have hbw0 := hbw1
            have hr1 := hr0.drew
            have hA1 := hA0.drew
            have hB1 := hB0.drew
            have hP1 := hP0.drew
            have hN1 := hN0.drew
            have hbw1 := hbw0.drew
            have hz0 := hN0.lt
            go_cut [14] (fun s14 wx => ∃ B14, s14 = .pointer (some ⟨B14, 0, none⟩) ∧ N < B14 ∧ Blk wx B14 66 #[.int .i64 (Pt.quot a.p b.p).a, .int .i64 (Pt.quot a.p b.p).b, .int .i64 (Pt.quot a.p b.p).c, .int .i64 (Pt.quot a.p b.p).d] ∧ Blk wx A 23 #[.int .i64 a.p.a, .int .i64 a.p.b, .int .i64 a.p.c, .int .i64 a.p.d, .int .i64 a.k] ∧ Blk wx B 23 #[.int .i64 b.p.a, .int .i64 b.p.b, .int .i64 b.p.c, .int .i64 b.p.d, .int .i64 b.k] ∧ Blk wx (w.heap.size + 2) 23 #[.int .i64 0, .int .i64 0, .int .i64 0, .int .i64 0, .int .i64 0] ∧ Below w.heap.size w wx)
            case first =>
              go_region_held3 (fun w' => w'.cell? ⟨A, 0, none⟩ = some (.int .i64 a.p.a) ∧ w'.cell? ⟨A, 1, none⟩ = some (.int .i64 a.p.b) ∧ w'.cell? ⟨A, 2, none⟩ = some (.int .i64 a.p.c) ∧ w'.cell? ⟨A, 3, none⟩ = some (.int .i64 a.p.d) ∧ w'.cell? ⟨A, 4, none⟩ = some (.int .i64 a.k) ∧ w'.cell? ⟨P, 0, none⟩ = some (.int .i64 b.p.a) ∧ w'.cell? ⟨P, 1, none⟩ = some (.int .i64 b.p.b) ∧ w'.cell? ⟨P, 2, none⟩ = some (.int .i64 b.p.c) ∧ w'.cell? ⟨P, 3, none⟩ = some (.int .i64 b.p.d) ∧ w'.cell? ⟨N, 0, none⟩ = some (.int .i64 b.p.nrm.a) ∧ w'.cell? ⟨N, 1, none⟩ = some (.int .i64 b.p.nrm.b) ∧ w'.cell? ⟨N, 2, none⟩ = some (.int .i64 b.p.nrm.c) ∧ w'.cell? ⟨N, 3, none⟩ = some (.int .i64 b.p.nrm.d)) ((with_reducible refine five_four_four (t := 23) (t' := 66) (t'' := 66) ?_ ?_ ?_) <;> (repeat (first | (with_reducible exact hA1) | (with_reducible exact hP1) | (with_reducible exact hN1) | ((with_reducible refine Blk.far' ?_ _ ?_); (focus ((try dsimp only); omega))) | (with_reducible refine Blk.alloc ?_ _) | (with_reducible refine Blk.drew ?_))) <;> (first | (with_reducible exact hA0) | (with_reducible exact hP0) | (with_reducible exact hN0)))
                (first
                  | (go_at_call 33; (with_reducible refine (work_calls _ _ _ _ _ _).mono ?_); rintro e w1 ⟨rfl, hb1⟩; have hsz := hb1.size; (try simp at hsz); (first | (with_reducible (have hr1 := hr1.below hb1 hr1.lt; have hA1 := hA1.below hb1 hA1.lt; have hB1 := hB1.below hb1 hB1.lt; have hP1 := hP1.below hb1 hP1.lt; have hN1 := hN1.below hb1 hN1.lt; have hbw1 := bt hb1 hbw1 hbw1.size; (try have m1 := m1.below hb1 m1.lt); (try have m2 := m2.below hb1 m2.lt))) | ((with_reducible (have hr1 := (hr1.alloc _).below hb1 (hr1.alloc _).lt; have hA1 := (hA1.alloc _).below hb1 (hA1.alloc _).lt; have hB1 := (hB1.alloc _).below hb1 (hB1.alloc _).lt; have hP1 := (hP1.alloc _).below hb1 (hP1.alloc _).lt; have hN1 := (hN1.alloc _).below hb1 (hN1.alloc _).lt)); have hbw1 := bt hb1 (hbw1.alloc hbw1.size _) (by have := hbw1.size; simp; omega); (first | (have q1 := Nat.ne_of_lt m1.lt; have q2 := Nat.ne_of_gt m1.lt; have m2 := Blk.below (Blk.new _ _ _) hb1 (by simp); have m1 := (m1.alloc _).below hb1 (m1.alloc _).lt) | (have m1 := Blk.below (Blk.new _ _ _) hb1 (by simp)))) | ((with_reducible (have hr1 := ((hr1.alloc _).alloc _).below hb1 ((hr1.alloc _).alloc _).lt; have hA1 := ((hA1.alloc _).alloc _).below hb1 ((hA1.alloc _).alloc _).lt; have hB1 := ((hB1.alloc _).alloc _).below hb1 ((hB1.alloc _).alloc _).lt; have hP1 := ((hP1.alloc _).alloc _).below hb1 ((hP1.alloc _).alloc _).lt; have hN1 := ((hN1.alloc _).alloc _).below hb1 ((hN1.alloc _).alloc _).lt)); have hbw1 := bt hb1 ((hbw1.alloc hbw1.size _).alloc (by have := hbw1.size; simp; omega) _) (by have := hbw1.size; simp; omega); have m1 := Blk.below (Blk.alloc (Blk.new _ _ _) _) hb1 (by simp <;> omega); have m2 := Blk.below (Blk.at_ _ _ _ (World.size_alloc _ _)) hb1 (by simp)) | ((with_reducible (have hr1 := (Blk.drew (hr0.alloc _)).below hb1 (Blk.drew (hr0.alloc _)).lt; have hA1 := (Blk.drew (hA0.alloc _)).below hb1 (Blk.drew (hA0.alloc _)).lt; have hB1 := (Blk.drew (hB0.alloc _)).below hb1 (Blk.drew (hB0.alloc _)).lt; have hP1 := (Blk.drew (hP0.alloc _)).below hb1 (Blk.drew (hP0.alloc _)).lt; have hN1 := (Blk.drew (hN0.alloc _)).below hb1 (Blk.drew (hN0.alloc _)).lt)); have hbw1 := bt hb1 (Below.drew (hbw0.alloc hbw0.size _)) (by have := hbw0.size; simp; omega); have m1 := Blk.below (Blk.drew (Blk.new _ _ _)) hb1 (by simp)) | ((with_reducible (have hr1 := (Blk.drew ((hr0.alloc _).alloc _)).below hb1 (Blk.drew ((hr0.alloc _).alloc _)).lt; have hA1 := (Blk.drew ((hA0.alloc _).alloc _)).below hb1 (Blk.drew ((hA0.alloc _).alloc _)).lt; have hB1 := (Blk.drew ((hB0.alloc _).alloc _)).below hb1 (Blk.drew ((hB0.alloc _).alloc _)).lt; have hP1 := (Blk.drew ((hP0.alloc _).alloc _)).below hb1 (Blk.drew ((hP0.alloc _).alloc _)).lt; have hN1 := (Blk.drew ((hN0.alloc _).alloc _)).below hb1 (Blk.drew ((hN0.alloc _).alloc _)).lt)); have hbw1 := bt hb1 (Below.drew ((hbw0.alloc hbw0.size _).alloc (by have := hbw0.size; simp; omega) _)) (by have := hbw0.size; simp; omega); have m1 := Blk.below (Blk.drew (Blk.alloc (Blk.new _ _ _) _)) hb1 (by simp <;> omega); have m2 := Blk.below (Blk.drew (Blk.at_ _ _ _ (World.size_alloc _ _))) hb1 (by simp))); clear hb1; have hz1 := hr1.lt; (try (clear a0 a1 a2 a3 af)); (try (obtain ⟨a0, a1, a2, a3, af⟩ := m1.cells4)); (try (clear b0 b1 b2 b3 bf)); (try (obtain ⟨b0, b1, b2, b3, bf⟩ := m2.cells4)); (try have lm1 := m1.lt); (try have lm2 := m2.lt))
                  | (go_at_call 48; (with_reducible refine (parts_calls _ _ _ _ _ _ _).mono ?_); rintro e w1 ⟨rfl, hb1⟩; have hsz := hb1.size; (try simp at hsz); (first | (with_reducible (have hr1 := hr1.below hb1 hr1.lt; have hA1 := hA1.below hb1 hA1.lt; have hB1 := hB1.below hb1 hB1.lt; have hP1 := hP1.below hb1 hP1.lt; have hN1 := hN1.below hb1 hN1.lt; have hbw1 := bt hb1 hbw1 hbw1.size; (try have m1 := m1.below hb1 m1.lt); (try have m2 := m2.below hb1 m2.lt))) | ((with_reducible (have hr1 := (hr1.alloc _).below hb1 (hr1.alloc _).lt; have hA1 := (hA1.alloc _).below hb1 (hA1.alloc _).lt; have hB1 := (hB1.alloc _).below hb1 (hB1.alloc _).lt; have hP1 := (hP1.alloc _).below hb1 (hP1.alloc _).lt; have hN1 := (hN1.alloc _).below hb1 (hN1.alloc _).lt)); have hbw1 := bt hb1 (hbw1.alloc hbw1.size _) (by have := hbw1.size; simp; omega); (first | (have q1 := Nat.ne_of_lt m1.lt; have q2 := Nat.ne_of_gt m1.lt; have m2 := Blk.below (Blk.new _ _ _) hb1 (by simp); have m1 := (m1.alloc _).below hb1 (m1.alloc _).lt) | (have m1 := Blk.below (Blk.new _ _ _) hb1 (by simp)))) | ((with_reducible (have hr1 := ((hr1.alloc _).alloc _).below hb1 ((hr1.alloc _).alloc _).lt; have hA1 := ((hA1.alloc _).alloc _).below hb1 ((hA1.alloc _).alloc _).lt; have hB1 := ((hB1.alloc _).alloc _).below hb1 ((hB1.alloc _).alloc _).lt; have hP1 := ((hP1.alloc _).alloc _).below hb1 ((hP1.alloc _).alloc _).lt; have hN1 := ((hN1.alloc _).alloc _).below hb1 ((hN1.alloc _).alloc _).lt)); have hbw1 := bt hb1 ((hbw1.alloc hbw1.size _).alloc (by have := hbw1.size; simp; omega) _) (by have := hbw1.size; simp; omega); have m1 := Blk.below (Blk.alloc (Blk.new _ _ _) _) hb1 (by simp <;> omega); have m2 := Blk.below (Blk.at_ _ _ _ (World.size_alloc _ _)) hb1 (by simp)) | ((with_reducible (have hr1 := (Blk.drew (hr0.alloc _)).below hb1 (Blk.drew (hr0.alloc _)).lt; have hA1 := (Blk.drew (hA0.alloc _)).below hb1 (Blk.drew (hA0.alloc _)).lt; have hB1 := (Blk.drew (hB0.alloc _)).below hb1 (Blk.drew (hB0.alloc _)).lt; have hP1 := (Blk.drew (hP0.alloc _)).below hb1 (Blk.drew (hP0.alloc _)).lt; have hN1 := (Blk.drew (hN0.alloc _)).below hb1 (Blk.drew (hN0.alloc _)).lt)); have hbw1 := bt hb1 (Below.drew (hbw0.alloc hbw0.size _)) (by have := hbw0.size; simp; omega); have m1 := Blk.below (Blk.drew (Blk.new _ _ _)) hb1 (by simp)) | ((with_reducible (have hr1 := (Blk.drew ((hr0.alloc _).alloc _)).below hb1 (Blk.drew ((hr0.alloc _).alloc _)).lt; have hA1 := (Blk.drew ((hA0.alloc _).alloc _)).below hb1 (Blk.drew ((hA0.alloc _).alloc _)).lt; have hB1 := (Blk.drew ((hB0.alloc _).alloc _)).below hb1 (Blk.drew ((hB0.alloc _).alloc _)).lt; have hP1 := (Blk.drew ((hP0.alloc _).alloc _)).below hb1 (Blk.drew ((hP0.alloc _).alloc _)).lt; have hN1 := (Blk.drew ((hN0.alloc _).alloc _)).below hb1 (Blk.drew ((hN0.alloc _).alloc _)).lt)); have hbw1 := bt hb1 (Below.drew ((hbw0.alloc hbw0.size _).alloc (by have := hbw0.size; simp; omega) _)) (by have := hbw0.size; simp; omega); have m1 := Blk.below (Blk.drew (Blk.alloc (Blk.new _ _ _) _)) hb1 (by simp <;> omega); have m2 := Blk.below (Blk.drew (Blk.at_ _ _ _ (World.size_alloc _ _))) hb1 (by simp))); clear hb1; have hz1 := hr1.lt; (try (clear a0 a1 a2 a3 af)); (try (obtain ⟨a0, a1, a2, a3, af⟩ := m1.cells4)); (try (clear b0 b1 b2 b3 bf)); (try (obtain ⟨b0, b1, b2, b3, bf⟩ := m2.cells4)); (try have lm1 := m1.lt); (try have lm2 := m2.lt))
                  | (go_at_call 57; (with_reducible refine (HC.out _).mono ?_); rintro e w1 ⟨rfl, hb1⟩; have hsz := hb1.size; (try simp at hsz); (first | (with_reducible (have hr1 := hr1.below hb1 hr1.lt; have hA1 := hA1.below hb1 hA1.lt; have hB1 := hB1.below hb1 hB1.lt; have hP1 := hP1.below hb1 hP1.lt; have hN1 := hN1.below hb1 hN1.lt; have hbw1 := bt hb1 hbw1 hbw1.size; (try have m1 := m1.below hb1 m1.lt); (try have m2 := m2.below hb1 m2.lt))) | ((with_reducible (have hr1 := (hr1.alloc _).below hb1 (hr1.alloc _).lt; have hA1 := (hA1.alloc _).below hb1 (hA1.alloc _).lt; have hB1 := (hB1.alloc _).below hb1 (hB1.alloc _).lt; have hP1 := (hP1.alloc _).below hb1 (hP1.alloc _).lt; have hN1 := (hN1.alloc _).below hb1 (hN1.alloc _).lt)); have hbw1 := bt hb1 (hbw1.alloc hbw1.size _) (by have := hbw1.size; simp; omega); (first | (have q1 := Nat.ne_of_lt m1.lt; have q2 := Nat.ne_of_gt m1.lt; have m2 := Blk.below (Blk.new _ _ _) hb1 (by simp); have m1 := (m1.alloc _).below hb1 (m1.alloc _).lt) | (have m1 := Blk.below (Blk.new _ _ _) hb1 (by simp)))) | ((with_reducible (have hr1 := ((hr1.alloc _).alloc _).below hb1 ((hr1.alloc _).alloc _).lt; have hA1 := ((hA1.alloc _).alloc _).below hb1 ((hA1.alloc _).alloc _).lt; have hB1 := ((hB1.alloc _).alloc _).below hb1 ((hB1.alloc _).alloc _).lt; have hP1 := ((hP1.alloc _).alloc _).below hb1 ((hP1.alloc _).alloc _).lt; have hN1 := ((hN1.alloc _).alloc _).below hb1 ((hN1.alloc _).alloc _).lt)); have hbw1 := bt hb1 ((hbw1.alloc hbw1.size _).alloc (by have := hbw1.size; simp; omega) _) (by have := hbw1.size; simp; omega); have m1 := Blk.below (Blk.alloc (Blk.new _ _ _) _) hb1 (by simp <;> omega); have m2 := Blk.below (Blk.at_ _ _ _ (World.size_alloc _ _)) hb1 (by simp)) | ((with_reducible (have hr1 := (Blk.drew (hr0.alloc _)).below hb1 (Blk.drew (hr0.alloc _)).lt; have hA1 := (Blk.drew (hA0.alloc _)).below hb1 (Blk.drew (hA0.alloc _)).lt; have hB1 := (Blk.drew (hB0.alloc _)).below hb1 (Blk.drew (hB0.alloc _)).lt; have hP1 := (Blk.drew (hP0.alloc _)).below hb1 (Blk.drew (hP0.alloc _)).lt; have hN1 := (Blk.drew (hN0.alloc _)).below hb1 (Blk.drew (hN0.alloc _)).lt)); have hbw1 := bt hb1 (Below.drew (hbw0.alloc hbw0.size _)) (by have := hbw0.size; simp; omega); have m1 := Blk.below (Blk.drew (Blk.new _ _ _)) hb1 (by simp)) | ((with_reducible (have hr1 := (Blk.drew ((hr0.alloc _).alloc _)).below hb1 (Blk.drew ((hr0.alloc _).alloc _)).lt; have hA1 := (Blk.drew ((hA0.alloc _).alloc _)).below hb1 (Blk.drew ((hA0.alloc _).alloc _)).lt; have hB1 := (Blk.drew ((hB0.alloc _).alloc _)).below hb1 (Blk.drew ((hB0.alloc _).alloc _)).lt; have hP1 := (Blk.drew ((hP0.alloc _).alloc _)).below hb1 (Blk.drew ((hP0.alloc _).alloc _)).lt; have hN1 := (Blk.drew ((hN0.alloc _).alloc _)).below hb1 (Blk.drew ((hN0.alloc _).alloc _)).lt)); have hbw1 := bt hb1 (Below.drew ((hbw0.alloc hbw0.size _).alloc (by have := hbw0.size; simp; omega) _)) (by have := hbw0.size; simp; omega); have m1 := Blk.below (Blk.drew (Blk.alloc (Blk.new _ _ _) _)) hb1 (by simp <;> omega); have m2 := Blk.below (Blk.drew (Blk.at_ _ _ _ (World.size_alloc _ _))) hb1 (by simp))); clear hb1; have hz1 := hr1.lt; (try (clear a0 a1 a2 a3 af)); (try (obtain ⟨a0, a1, a2, a3, af⟩ := m1.cells4)); (try (clear b0 b1 b2 b3 bf)); (try (obtain ⟨b0, b1, b2, b3, bf⟩ := m2.cells4)); (try have lm1 := m1.lt); (try have lm2 := m2.lt))
                  | (go_at_call 49; (with_reducible refine (HD.out _).mono ?_); rintro e w1 ⟨rfl, hb1⟩; have hsz := hb1.size; (try simp at hsz); (first | (with_reducible (have hr1 := hr1.below hb1 hr1.lt; have hA1 := hA1.below hb1 hA1.lt; have hB1 := hB1.below hb1 hB1.lt; have hP1 := hP1.below hb1 hP1.lt; have hN1 := hN1.below hb1 hN1.lt; have hbw1 := bt hb1 hbw1 hbw1.size; (try have m1 := m1.below hb1 m1.lt); (try have m2 := m2.below hb1 m2.lt))) | ((with_reducible (have hr1 := (hr1.alloc _).below hb1 (hr1.alloc _).lt; have hA1 := (hA1.alloc _).below hb1 (hA1.alloc _).lt; have hB1 := (hB1.alloc _).below hb1 (hB1.alloc _).lt; have hP1 := (hP1.alloc _).below hb1 (hP1.alloc _).lt; have hN1 := (hN1.alloc _).below hb1 (hN1.alloc _).lt)); have hbw1 := bt hb1 (hbw1.alloc hbw1.size _) (by have := hbw1.size; simp; omega); (first | (have q1 := Nat.ne_of_lt m1.lt; have q2 := Nat.ne_of_gt m1.lt; have m2 := Blk.below (Blk.new _ _ _) hb1 (by simp); have m1 := (m1.alloc _).below hb1 (m1.alloc _).lt) | (have m1 := Blk.below (Blk.new _ _ _) hb1 (by simp)))) | ((with_reducible (have hr1 := ((hr1.alloc _).alloc _).below hb1 ((hr1.alloc _).alloc _).lt; have hA1 := ((hA1.alloc _).alloc _).below hb1 ((hA1.alloc _).alloc _).lt; have hB1 := ((hB1.alloc _).alloc _).below hb1 ((hB1.alloc _).alloc _).lt; have hP1 := ((hP1.alloc _).alloc _).below hb1 ((hP1.alloc _).alloc _).lt; have hN1 := ((hN1.alloc _).alloc _).below hb1 ((hN1.alloc _).alloc _).lt)); have hbw1 := bt hb1 ((hbw1.alloc hbw1.size _).alloc (by have := hbw1.size; simp; omega) _) (by have := hbw1.size; simp; omega); have m1 := Blk.below (Blk.alloc (Blk.new _ _ _) _) hb1 (by simp <;> omega); have m2 := Blk.below (Blk.at_ _ _ _ (World.size_alloc _ _)) hb1 (by simp)) | ((with_reducible (have hr1 := (Blk.drew (hr0.alloc _)).below hb1 (Blk.drew (hr0.alloc _)).lt; have hA1 := (Blk.drew (hA0.alloc _)).below hb1 (Blk.drew (hA0.alloc _)).lt; have hB1 := (Blk.drew (hB0.alloc _)).below hb1 (Blk.drew (hB0.alloc _)).lt; have hP1 := (Blk.drew (hP0.alloc _)).below hb1 (Blk.drew (hP0.alloc _)).lt; have hN1 := (Blk.drew (hN0.alloc _)).below hb1 (Blk.drew (hN0.alloc _)).lt)); have hbw1 := bt hb1 (Below.drew (hbw0.alloc hbw0.size _)) (by have := hbw0.size; simp; omega); have m1 := Blk.below (Blk.drew (Blk.new _ _ _)) hb1 (by simp)) | ((with_reducible (have hr1 := (Blk.drew ((hr0.alloc _).alloc _)).below hb1 (Blk.drew ((hr0.alloc _).alloc _)).lt; have hA1 := (Blk.drew ((hA0.alloc _).alloc _)).below hb1 (Blk.drew ((hA0.alloc _).alloc _)).lt; have hB1 := (Blk.drew ((hB0.alloc _).alloc _)).below hb1 (Blk.drew ((hB0.alloc _).alloc _)).lt; have hP1 := (Blk.drew ((hP0.alloc _).alloc _)).below hb1 (Blk.drew ((hP0.alloc _).alloc _)).lt; have hN1 := (Blk.drew ((hN0.alloc _).alloc _)).below hb1 (Blk.drew ((hN0.alloc _).alloc _)).lt)); have hbw1 := bt hb1 (Below.drew ((hbw0.alloc hbw0.size _).alloc (by have := hbw0.size; simp; omega) _)) (by have := hbw0.size; simp; omega); have m1 := Blk.below (Blk.drew (Blk.alloc (Blk.new _ _ _) _)) hb1 (by simp <;> omega); have m2 := Blk.below (Blk.drew (Blk.at_ _ _ _ (World.size_alloc _ _))) hb1 (by simp))); clear hb1; have hz1 := hr1.lt; (try (clear a0 a1 a2 a3 af)); (try (obtain ⟨a0, a1, a2, a3, af⟩ := m1.cells4)); (try (clear b0 b1 b2 b3 bf)); (try (obtain ⟨b0, b1, b2, b3, bf⟩ := m2.cells4)); (try have lm1 := m1.lt); (try have lm2 := m2.lt))
                  | (go_at_call 56; (with_reducible refine (HT3.out _).mono ?_); rintro e w1 ⟨rfl, hb1⟩; have hsz := hb1.size; (try simp at hsz); (first | (with_reducible (have hr1 := hr1.below hb1 hr1.lt; have hA1 := hA1.below hb1 hA1.lt; have hB1 := hB1.below hb1 hB1.lt; have hP1 := hP1.below hb1 hP1.lt; have hN1 := hN1.below hb1 hN1.lt; have hbw1 := bt hb1 hbw1 hbw1.size; (try have m1 := m1.below hb1 m1.lt); (try have m2 := m2.below hb1 m2.lt))) | ((with_reducible (have hr1 := (hr1.alloc _).below hb1 (hr1.alloc _).lt; have hA1 := (hA1.alloc _).below hb1 (hA1.alloc _).lt; have hB1 := (hB1.alloc _).below hb1 (hB1.alloc _).lt; have hP1 := (hP1.alloc _).below hb1 (hP1.alloc _).lt; have hN1 := (hN1.alloc _).below hb1 (hN1.alloc _).lt)); have hbw1 := bt hb1 (hbw1.alloc hbw1.size _) (by have := hbw1.size; simp; omega); (first | (have q1 := Nat.ne_of_lt m1.lt; have q2 := Nat.ne_of_gt m1.lt; have m2 := Blk.below (Blk.new _ _ _) hb1 (by simp); have m1 := (m1.alloc _).below hb1 (m1.alloc _).lt) | (have m1 := Blk.below (Blk.new _ _ _) hb1 (by simp)))) | ((with_reducible (have hr1 := ((hr1.alloc _).alloc _).below hb1 ((hr1.alloc _).alloc _).lt; have hA1 := ((hA1.alloc _).alloc _).below hb1 ((hA1.alloc _).alloc _).lt; have hB1 := ((hB1.alloc _).alloc _).below hb1 ((hB1.alloc _).alloc _).lt; have hP1 := ((hP1.alloc _).alloc _).below hb1 ((hP1.alloc _).alloc _).lt; have hN1 := ((hN1.alloc _).alloc _).below hb1 ((hN1.alloc _).alloc _).lt)); have hbw1 := bt hb1 ((hbw1.alloc hbw1.size _).alloc (by have := hbw1.size; simp; omega) _) (by have := hbw1.size; simp; omega); have m1 := Blk.below (Blk.alloc (Blk.new _ _ _) _) hb1 (by simp <;> omega); have m2 := Blk.below (Blk.at_ _ _ _ (World.size_alloc _ _)) hb1 (by simp)) | ((with_reducible (have hr1 := (Blk.drew (hr0.alloc _)).below hb1 (Blk.drew (hr0.alloc _)).lt; have hA1 := (Blk.drew (hA0.alloc _)).below hb1 (Blk.drew (hA0.alloc _)).lt; have hB1 := (Blk.drew (hB0.alloc _)).below hb1 (Blk.drew (hB0.alloc _)).lt; have hP1 := (Blk.drew (hP0.alloc _)).below hb1 (Blk.drew (hP0.alloc _)).lt; have hN1 := (Blk.drew (hN0.alloc _)).below hb1 (Blk.drew (hN0.alloc _)).lt)); have hbw1 := bt hb1 (Below.drew (hbw0.alloc hbw0.size _)) (by have := hbw0.size; simp; omega); have m1 := Blk.below (Blk.drew (Blk.new _ _ _)) hb1 (by simp)) | ((with_reducible (have hr1 := (Blk.drew ((hr0.alloc _).alloc _)).below hb1 (Blk.drew ((hr0.alloc _).alloc _)).lt; have hA1 := (Blk.drew ((hA0.alloc _).alloc _)).below hb1 (Blk.drew ((hA0.alloc _).alloc _)).lt; have hB1 := (Blk.drew ((hB0.alloc _).alloc _)).below hb1 (Blk.drew ((hB0.alloc _).alloc _)).lt; have hP1 := (Blk.drew ((hP0.alloc _).alloc _)).below hb1 (Blk.drew ((hP0.alloc _).alloc _)).lt; have hN1 := (Blk.drew ((hN0.alloc _).alloc _)).below hb1 (Blk.drew ((hN0.alloc _).alloc _)).lt)); have hbw1 := bt hb1 (Below.drew ((hbw0.alloc hbw0.size _).alloc (by have := hbw0.size; simp; omega) _)) (by have := hbw0.size; simp; omega); have m1 := Blk.below (Blk.drew (Blk.alloc (Blk.new _ _ _) _)) hb1 (by simp <;> omega); have m2 := Blk.below (Blk.drew (Blk.at_ _ _ _ (World.size_alloc _ _))) hb1 (by simp))); clear hb1; have hz1 := hr1.lt; (try (clear a0 a1 a2 a3 af)); (try (obtain ⟨a0, a1, a2, a3, af⟩ := m1.cells4)); (try (clear b0 b1 b2 b3 bf)); (try (obtain ⟨b0, b1, b2, b3, bf⟩ := m2.cells4)); (try have lm1 := m1.lt); (try have lm2 := m2.lt))
                  | (go_at_call 56; (with_reducible refine (HT4.out _).mono ?_); rintro e w1 ⟨rfl, hb1⟩; have hsz := hb1.size; (try simp at hsz); (first | (with_reducible (have hr1 := hr1.below hb1 hr1.lt; have hA1 := hA1.below hb1 hA1.lt; have hB1 := hB1.below hb1 hB1.lt; have hP1 := hP1.below hb1 hP1.lt; have hN1 := hN1.below hb1 hN1.lt; have hbw1 := bt hb1 hbw1 hbw1.size; (try have m1 := m1.below hb1 m1.lt); (try have m2 := m2.below hb1 m2.lt))) | ((with_reducible (have hr1 := (hr1.alloc _).below hb1 (hr1.alloc _).lt; have hA1 := (hA1.alloc _).below hb1 (hA1.alloc _).lt; have hB1 := (hB1.alloc _).below hb1 (hB1.alloc _).lt; have hP1 := (hP1.alloc _).below hb1 (hP1.alloc _).lt; have hN1 := (hN1.alloc _).below hb1 (hN1.alloc _).lt)); have hbw1 := bt hb1 (hbw1.alloc hbw1.size _) (by have := hbw1.size; simp; omega); (first | (have q1 := Nat.ne_of_lt m1.lt; have q2 := Nat.ne_of_gt m1.lt; have m2 := Blk.below (Blk.new _ _ _) hb1 (by simp); have m1 := (m1.alloc _).below hb1 (m1.alloc _).lt) | (have m1 := Blk.below (Blk.new _ _ _) hb1 (by simp)))) | ((with_reducible (have hr1 := ((hr1.alloc _).alloc _).below hb1 ((hr1.alloc _).alloc _).lt; have hA1 := ((hA1.alloc _).alloc _).below hb1 ((hA1.alloc _).alloc _).lt; have hB1 := ((hB1.alloc _).alloc _).below hb1 ((hB1.alloc _).alloc _).lt; have hP1 := ((hP1.alloc _).alloc _).below hb1 ((hP1.alloc _).alloc _).lt; have hN1 := ((hN1.alloc _).alloc _).below hb1 ((hN1.alloc _).alloc _).lt)); have hbw1 := bt hb1 ((hbw1.alloc hbw1.size _).alloc (by have := hbw1.size; simp; omega) _) (by have := hbw1.size; simp; omega); have m1 := Blk.below (Blk.alloc (Blk.new _ _ _) _) hb1 (by simp <;> omega); have m2 := Blk.below (Blk.at_ _ _ _ (World.size_alloc _ _)) hb1 (by simp)) | ((with_reducible (have hr1 := (Blk.drew (hr0.alloc _)).below hb1 (Blk.drew (hr0.alloc _)).lt; have hA1 := (Blk.drew (hA0.alloc _)).below hb1 (Blk.drew (hA0.alloc _)).lt; have hB1 := (Blk.drew (hB0.alloc _)).below hb1 (Blk.drew (hB0.alloc _)).lt; have hP1 := (Blk.drew (hP0.alloc _)).below hb1 (Blk.drew (hP0.alloc _)).lt; have hN1 := (Blk.drew (hN0.alloc _)).below hb1 (Blk.drew (hN0.alloc _)).lt)); have hbw1 := bt hb1 (Below.drew (hbw0.alloc hbw0.size _)) (by have := hbw0.size; simp; omega); have m1 := Blk.below (Blk.drew (Blk.new _ _ _)) hb1 (by simp)) | ((with_reducible (have hr1 := (Blk.drew ((hr0.alloc _).alloc _)).below hb1 (Blk.drew ((hr0.alloc _).alloc _)).lt; have hA1 := (Blk.drew ((hA0.alloc _).alloc _)).below hb1 (Blk.drew ((hA0.alloc _).alloc _)).lt; have hB1 := (Blk.drew ((hB0.alloc _).alloc _)).below hb1 (Blk.drew ((hB0.alloc _).alloc _)).lt; have hP1 := (Blk.drew ((hP0.alloc _).alloc _)).below hb1 (Blk.drew ((hP0.alloc _).alloc _)).lt; have hN1 := (Blk.drew ((hN0.alloc _).alloc _)).below hb1 (Blk.drew ((hN0.alloc _).alloc _)).lt)); have hbw1 := bt hb1 (Below.drew ((hbw0.alloc hbw0.size _).alloc (by have := hbw0.size; simp; omega) _)) (by have := hbw0.size; simp; omega); have m1 := Blk.below (Blk.drew (Blk.alloc (Blk.new _ _ _) _)) hb1 (by simp <;> omega); have m2 := Blk.below (Blk.drew (Blk.at_ _ _ _ (World.size_alloc _ _))) hb1 (by simp))); clear hb1; have hz1 := hr1.lt; (try (clear a0 a1 a2 a3 af)); (try (obtain ⟨a0, a1, a2, a3, af⟩ := m1.cells4)); (try (clear b0 b1 b2 b3 bf)); (try (obtain ⟨b0, b1, b2, b3, bf⟩ := m2.cells4)); (try have lm1 := m1.lt); (try have lm2 := m2.lt)))
              all_goals go_wp2_with fail
              all_goals go_meet
              all_goals (with_reducible refine ⟨_, rfl, ?_, ?_, ?_, ?_, ?_, ?_⟩)
              all_goals first
                | omega
                | ((with_reducible (refine Below.le0 ?_)); have hs0 := hbw1.size; (repeat (first | (with_reducible exact hbw1) | omega | (with_reducible refine Below.alloc ?_ ?_ _) | (with_reducible refine Below.setCell ?_ ?_ _) | (simp; omega))); done)
                | ((repeat (first | (with_reducible exact hA1) | (with_reducible exact hB1) | (with_reducible exact hr1) | (with_reducible exact m1) | (with_reducible exact Blk.new _ _ _) | ((with_reducible refine Blk.at_ _ _ _ ?_); (focus (simp only [World.size_alloc, World.size_setCell]; done))) | (with_reducible exact Blk.put4 m1) | (with_reducible exact Blk.put4 (Blk.alloc m1 _)) | (with_reducible exact Blk.put4 (Blk.new _ _ _)) | (with_reducible apply Blk.put4) | (with_reducible refine Blk.alloc ?_ _) | ((with_reducible refine Blk.far' ?_ _ ?_); (focus ((try dsimp only); omega))))); done)
            case rest =>
              clear hr0 hA0 hB0 hP0 hN0 hbw0 hr1 hA1 hB1 hP1 hN1 hbw1 hz0
              obtain ⟨O, rfl, hzO, hO1, hA1, hB1, hr1, hbw1⟩ := hcut
              obtain ⟨a0, a1, a2, a3, a4, af⟩ := hA1.cells5
              obtain ⟨b0, b1, b2, b3, b4, bf⟩ := hB1.cells5
              have Ho : Hid ((Pt.quot a.p b.p).le 18014398509481984) := HQ
              clear HQ HT1 HT2 HT3 HT4 HC HD hi
              generalize Pt.quot a.p b.p = o at *
              generalize b.p.whole = W at *
              obtain ⟨⟨k1, k2⟩, ⟨k3, k4⟩⟩ := Hk3.out
              clear Hk3
              go_wp2_with fail
              go_loopg [13, 15] W.natAbs (fun g s13 s15 wr => ∃ (v : Int) (i : Nat), g = v.natAbs ∧ s13 = .int .i64 v ∧ s15 = .int .i64 (a.k - b.k + 2 * i) ∧ W = v * 2 ^ i ∧ v ≠ 0 ∧ wc = wr)
              case atStart => exact ⟨W, 0, rfl, rfl, congrArg (Value.int .i64) (by omega), by rw [Int.pow_zero, Int.mul_one], HW.out.1, rfl⟩
              case round =>
                obtain ⟨v, i, hg, rfl, rfl, hW, hv, rfl⟩ := hrel
                have hil := pow_lim hv hW HW.out.2
                have hvl : v.natAbs < 36028797018963968 := Nat.lt_of_le_of_lt (pow_ge hW) HW.out.2
                have HWi : Hid (W = v * 2 ^ i) := hW
                clear hW
                by_cases he : v % 2 = 0
                · have hm : v.tmod 2 = 0 := tmod_two.2 he
                  have hd : v.tdiv 2 = v / 2 := tdiv_even he
                  have Hn : Hid (W = (v / 2) * 2 ^ (i + 1)) := by
                    show _ = _; rw [HWi.out, Int.pow_succ, Int.mul_comm (2 ^ i) 2, ← Int.mul_assoc]; congr 1; omega
                  go_wp2_with fail
                  go_roundg (v / 2).natAbs
                  case measure => omega
                  case rel => exact ⟨v / 2, i + 1, rfl, rfl, congrArg (Value.int .i64) (by omega), Hn.out, by omega, rfl⟩
                · have hm : (v.tmod 2 == 0) = false := by rw [beq_eq_false_iff_ne]; intro h; exact he (tmod_two.1 h)
                  have Hs : Hid (sDivide x z = divR.divO o v (a.k - b.k + 2 * i)) := by
                    obtain ⟨t1, t2⟩ := twos_eq (by omega) HWi.out
                    show _ = _; rw [Hs.out, t2, t1]
                  clear HWi HW he hg
                  obtain ⟨o0, o1, o2, o3, of⟩ := hO1.cells4
                  have i0 : ∀ x0 x1 x2 x3 w, (Instr.index 66 (.agg #[x0, x1, x2, x3]) (.int .i64 0)).run Tryz.prog w = .ok x0 w := fun _ _ _ _ _ => by kernel_rfl
                  have i1 : ∀ x0 x1 x2 x3 w, (Instr.index 66 (.agg #[x0, x1, x2, x3]) (.int .i64 1)).run Tryz.prog w = .ok x1 w := fun _ _ _ _ _ => by kernel_rfl
                  have i2 : ∀ x0 x1 x2 x3 w, (Instr.index 66 (.agg #[x0, x1, x2, x3]) (.int .i64 2)).run Tryz.prog w = .ok x2 w := fun _ _ _ _ _ => by kernel_rfl
                  have i3 : ∀ x0 x1 x2 x3 w, (Instr.index 66 (.agg #[x0, x1, x2, x3]) (.int .i64 3)).run Tryz.prog w = .ok x3 w := fun _ _ _ _ _ => by kernel_rfl
                  go_wp2_with fail
                  refine wp_loop_rounds 5 ?_
                  rw [rounds_succ]
                  by_cases ha : o.a % v = 0
                  · obtain ⟨ma, da, ba⟩ := div_facts hv ha Ho.out.1
                    go_wp2_with fail
                    have hO1 : Blk (wc.setCell ⟨O, 0, none⟩ (.int .i64 (o.a / v))) O 66 #[.int .i64 (o.a / v), .int .i64 o.b, .int .i64 o.c, .int .i64 o.d] := hO1.set_ 0 _
                    have hr1 := hr1.far (p := ⟨O, 0, none⟩) (by (try dsimp only); omega) (.int .i64 (o.a / v))
                    have hbw1 := hbw1.setCell (p := ⟨O, 0, none⟩) (by (try dsimp only); omega) (.int .i64 (o.a / v))
                    clear ma da o0 o1 o2 o3 of
                    generalize wc.setCell ⟨O, 0, none⟩ (.int .i64 (o.a / v)) = wc at *
                    obtain ⟨o0, o1, o2, o3, of⟩ := hO1.cells4
                    rw [rounds_succ]
                    by_cases hb : o.b % v = 0
                    · obtain ⟨mb, db, bb⟩ := div_facts hv hb Ho.out.2.1
                      go_wp2_with fail
                      have hO1 : Blk (wc.setCell ⟨O, 1, none⟩ (.int .i64 (o.b / v))) O 66 #[.int .i64 (o.a / v), .int .i64 (o.b / v), .int .i64 o.c, .int .i64 o.d] := hO1.set_ 1 _
                      have hr1 := hr1.far (p := ⟨O, 1, none⟩) (by (try dsimp only); omega) (.int .i64 (o.b / v))
                      have hbw1 := hbw1.setCell (p := ⟨O, 1, none⟩) (by (try dsimp only); omega) (.int .i64 (o.b / v))
                      clear mb db o0 o1 o2 o3 of
                      generalize wc.setCell ⟨O, 1, none⟩ (.int .i64 (o.b / v)) = wc at *
                      obtain ⟨o0, o1, o2, o3, of⟩ := hO1.cells4
                      rw [rounds_succ]
                      by_cases hc : o.c % v = 0
                      · obtain ⟨mc, dc, bc⟩ := div_facts hv hc Ho.out.2.2.1
                        go_wp2_with fail
                        have hO1 : Blk (wc.setCell ⟨O, 2, none⟩ (.int .i64 (o.c / v))) O 66 #[.int .i64 (o.a / v), .int .i64 (o.b / v), .int .i64 (o.c / v), .int .i64 o.d] := hO1.set_ 2 _
                        have hr1 := hr1.far (p := ⟨O, 2, none⟩) (by (try dsimp only); omega) (.int .i64 (o.c / v))
                        have hbw1 := hbw1.setCell (p := ⟨O, 2, none⟩) (by (try dsimp only); omega) (.int .i64 (o.c / v))
                        clear mc dc o0 o1 o2 o3 of
                        generalize wc.setCell ⟨O, 2, none⟩ (.int .i64 (o.c / v)) = wc at *
                        obtain ⟨o0, o1, o2, o3, of⟩ := hO1.cells4
                        rw [rounds_succ]
                        by_cases hd : o.d % v = 0
                        · obtain ⟨md, dd, bd⟩ := div_facts hv hd Ho.out.2.2.2
                          go_wp2_with fail
                          have hO1 : Blk (wc.setCell ⟨O, 3, none⟩ (.int .i64 (o.d / v))) O 66 #[.int .i64 (o.a / v), .int .i64 (o.b / v), .int .i64 (o.c / v), .int .i64 (o.d / v)] := hO1.set_ 3 _
                          have hr1 := hr1.far (p := ⟨O, 3, none⟩) (by (try dsimp only); omega) (.int .i64 (o.d / v))
                          have hbw1 := hbw1.setCell (p := ⟨O, 3, none⟩) (by (try dsimp only); omega) (.int .i64 (o.d / v))
                          clear md dd o0 o1 o2 o3 of
                          generalize wc.setCell ⟨O, 3, none⟩ (.int .i64 (o.d / v)) = wc at *
                          obtain ⟨o0, o1, o2, o3, of⟩ := hO1.cells4
                          rw [rounds_succ]
                          have Hs2 : Hid (sDivide x z = okN (Pt.lz (a.k - b.k + 2 * i) ⟨o.a / v, o.b / v, o.c / v, o.d / v⟩)) := by
                            show _ = _; rw [Hs.out]; unfold divR.divO; rw [if_pos ⟨ha, hb, hc, hd⟩]
                          have HL := Lib.hid (fun W => least_z ⟨o.a / v, o.b / v, o.c / v, o.d / v⟩ (a.k - b.k + 2 * i) 70 (by simp only [Pt.sm]; omega) (by omega) W)
                          dsimp only at HL
                          clear ha hb hc hd ba bb bc bd Hs
                          go_wp2_with fail
                          refine (of_calls _ _ _ _ _ _).mono ?_
                          rintro e w2 ⟨rfl, hb1⟩
                          have hr1 := hr1.below hb1 hr1.lt
                          have hbw1 := bt hb1 hbw1 hbw1.size
                          clear hb1 o0 o1 o2 o3 of hO1
                          go_wp2_with fail
                          refine (work_calls _ _ _ _ _ _).mono ?_
                          rintro e w3 ⟨rfl, hb1⟩
                          have hr1 := hr1.below hb1 hr1.lt
                          have hbw1 := bt hb1 hbw1 hbw1.size
                          clear hb1
                          go_wp2_with fail
                          refine (HL.out _).mono ?_
                          rintro e w4 ⟨y, er, rfl, hy, hb1⟩
                          have Hy := Lib.hid hy
                          have hr1 := hr1.below hb1 hr1.lt
                          have hbw1 := bt hb1 hbw1 hbw1.size
                          clear hb1 hy
                          obtain ⟨r0, r1, r2, r3, r4, rf⟩ := hr1.cells5
                          go_wp2_with fail
                          refine bodyPost_ret (v := .tuple #[.agg #[.int .i64 y.p.a, .int .i64 y.p.b, .int .i64 y.p.c, .int .i64 y.p.d, .int .i64 y.k], .int .i64 er]) (by simp [results, Tryz.results23, go_sem, r0, r1, r2, r3, r4]) rfl ⟨y, er, rfl, ?_, ?_⟩
                          · rw [Hs2.out]; exact Hy.out
                          · exact below_put5 hbw1 (by omega) _ _ _ _ _
                        · have Hs2 : Hid (sDivide x z = (Nm.zero, 6)) := by
                            show _ = _; rw [Hs.out]; unfold divR.divO; rw [if_neg]; rintro ⟨h1, h2, h3, h4⟩; exact hd h4
                          have md := mod_facts hd
                          clear hd
                          obtain ⟨r0, r1, r2, r3, r4, rf⟩ := hr1.cells5
                          go_wp2_with fail
                          refine bodyPost_ret (v := .tuple #[.agg #[.int .i64 0, .int .i64 0, .int .i64 0, .int .i64 0, .int .i64 0], .int .i64 6]) (by simp [results, Tryz.results23, go_sem, r0, r1, r2, r3, r4]) rfl ⟨Nm.zero, 6, rfl, Hs2.out, ?_⟩
                          exact below_put5 hbw1 (by omega) _ _ _ _ _
                      · have Hs2 : Hid (sDivide x z = (Nm.zero, 6)) := by
                          show _ = _; rw [Hs.out]; unfold divR.divO; rw [if_neg]; rintro ⟨h1, h2, h3, h4⟩; exact hc h3
                        have mc := mod_facts hc
                        clear hc
                        obtain ⟨r0, r1, r2, r3, r4, rf⟩ := hr1.cells5
                        go_wp2_with fail
                        refine bodyPost_ret (v := .tuple #[.agg #[.int .i64 0, .int .i64 0, .int .i64 0, .int .i64 0, .int .i64 0], .int .i64 6]) (by simp [results, Tryz.results23, go_sem, r0, r1, r2, r3, r4]) rfl ⟨Nm.zero, 6, rfl, Hs2.out, ?_⟩
                        exact below_put5 hbw1 (by omega) _ _ _ _ _
                    · have Hs2 : Hid (sDivide x z = (Nm.zero, 6)) := by
                        show _ = _; rw [Hs.out]; unfold divR.divO; rw [if_neg]; rintro ⟨h1, h2, h3, h4⟩; exact hb h2
                      have mb := mod_facts hb
                      clear hb
                      obtain ⟨r0, r1, r2, r3, r4, rf⟩ := hr1.cells5
                      go_wp2_with fail
                      refine bodyPost_ret (v := .tuple #[.agg #[.int .i64 0, .int .i64 0, .int .i64 0, .int .i64 0, .int .i64 0], .int .i64 6]) (by simp [results, Tryz.results23, go_sem, r0, r1, r2, r3, r4]) rfl ⟨Nm.zero, 6, rfl, Hs2.out, ?_⟩
                      exact below_put5 hbw1 (by omega) _ _ _ _ _
                  · have Hs2 : Hid (sDivide x z = (Nm.zero, 6)) := by
                      show _ = _; rw [Hs.out]; unfold divR.divO; rw [if_neg]; rintro ⟨h1, h2, h3, h4⟩; exact ha h1
                    have ma := mod_facts ha
                    clear ha
                    obtain ⟨r0, r1, r2, r3, r4, rf⟩ := hr1.cells5
                    go_wp2_with fail
                    refine bodyPost_ret (v := .tuple #[.agg #[.int .i64 0, .int .i64 0, .int .i64 0, .int .i64 0, .int .i64 0], .int .i64 6]) (by simp [results, Tryz.results23, go_sem, r0, r1, r2, r3, r4]) rfl ⟨Nm.zero, 6, rfl, Hs2.out, ?_⟩
                    exact below_put5 hbw1 (by omega) _ _ _ _ _
  · have Hs : Hid (sDivide x z = (Nm.zero, n)) := by show _ = _; unfold sDivide; rw [Hn.out, if_neg h0]
    have h0b : (n != 0) = true := by simpa using h0
    obtain ⟨r0, r1, r2, r3, r4, rf⟩ := hr1.cells5
    clear h0 Hn
    go_wp2_with fail
    refine bodyPost_ret (v := .tuple #[.agg #[.int .i64 0, .int .i64 0, .int .i64 0, .int .i64 0, .int .i64 0], .int .i64 n]) (by simp [results, Tryz.results23, go_sem, r0, r1, r2, r3, r4]) rfl ⟨Nm.zero, n, rfl, Hs.out, ?_⟩
    exact below_put5 hbw1 (by omega) _ _ _ _ _
end Go.Proofs.YtepdnjjfhbjcjaaGreatDoor
end
