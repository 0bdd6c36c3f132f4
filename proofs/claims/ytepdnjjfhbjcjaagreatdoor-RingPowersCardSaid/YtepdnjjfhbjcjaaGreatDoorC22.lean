import Derived.Test.YtepdnjjfhbjcjaaGreatDoorC6
set_option linter.all false
section
namespace Go.Proofs.YtepdnjjfhbjcjaaGreatDoor
open Go.RowKit
def powN (x : Nm) : Nat → Nm × Int
  | 0 => (x, 0)
  | m + 1 => if (powN x m).2 = 0 then sMul (powN x m).1 x else (Nm.zero, (powN x m).2)
theorem Blk.one {w : World} {g : Nat} {t : TypeId} {a : Value} (h : Blk w g t #[a]) : w.cell? ⟨g, 0, none⟩ = some a := h.cell 0
set_option maxRecDepth 100000 in
set_option maxHeartbeats 4000000 in
theorem power1_zero (x : Nm) (b1 b2 : Nat) (n : Int) (hn : n ≤ 1) (w : World)
    (hx : Blk w b1 23 #[.int .i64 x.p.a, .int .i64 x.p.b, .int .i64 x.p.c, .int .i64 x.p.d, .int .i64 x.k]) :
    Calls Tryz.prog 31 #[.int .i64 n, .pointer (some ⟨b1, 0, none⟩), .pointer (some ⟨b2, 0, none⟩)] w fun e w' =>
      e = .returned (.tuple #[.agg #[.int .i64 x.p.a, .int .i64 x.p.b, .int .i64 x.p.c, .int .i64 x.p.d, .int .i64 x.k], .int .i64 0]) ∧ Below w.heap.size w w' := by
  have hl := hx.lt
  have hne : w.heap.size ≠ b1 := by omega
  have hne2 : b1 ≠ w.heap.size := by omega
  obtain ⟨x0, x1, x2, x3, x4, xf⟩ := (hx.alloc (.cells #[.int .i64 0, .int .i64 0, .int .i64 0, .int .i64 0, .int .i64 0] 23)).cells5
  go_enter Tryz.func31, Tryz.ntmps31
  go_wp2_with fail
  refine bodyPost_ret (v := .tuple #[.agg #[.int .i64 x.p.a, .int .i64 x.p.b, .int .i64 x.p.c, .int .i64 x.p.d, .int .i64 x.k], .int .i64 0]) (by simp [results, Tryz.results31, go_sem]) rfl ⟨rfl, ?_⟩
  exact below1 _ _
set_option maxRecDepth 100000 in
set_option maxHeartbeats 8000000 in
theorem power1_calls (x : Nm) (b1 b2 : Nat) : ∀ (m : Nat) (n : Int), (n - 1).toNat = m → n ≤ 1000 → ∀ (w : World),
    Blk w b1 23 #[.int .i64 x.p.a, .int .i64 x.p.b, .int .i64 x.p.c, .int .i64 x.p.d, .int .i64 x.k] →
    Blk w b2 28 #[.func (.func 31) #[] #[.pointer (some ⟨b1, 0, none⟩), .pointer (some ⟨b2, 0, none⟩)]] →
    Calls Tryz.prog 31 #[.int .i64 n, .pointer (some ⟨b1, 0, none⟩), .pointer (some ⟨b2, 0, none⟩)] w fun e w' => ∃ (y : Nm) (er : Int),
      e = .returned (.tuple #[.agg #[.int .i64 y.p.a, .int .i64 y.p.b, .int .i64 y.p.c, .int .i64 y.p.d, .int .i64 y.k], .int .i64 er]) ∧ powN x m = (y, er) ∧ Below w.heap.size w w' := by
  intro m
  induction m with
  | zero =>
    intro n hn hn2 w hx _
    exact (power1_zero x b1 b2 n (by omega) w hx).mono fun e w' ⟨he, hb⟩ => ⟨x, 0, he, rfl, hb⟩
  | succ m ih =>
    intro n hn hn2 w hx hf
    have hn1 : ¬ n ≤ 1 := by omega
    have hn1b : 1 < n := by omega
    have hw : wrap64 (n - 1) = n - 1 := IntWalk.wrap64_in _ (by omega)
    have IH := Lib.hid (ih (n - 1) (by omega) (by omega))
    have Hn := Lib.hid hn
    clear ih hn hn2
    have hxl := hx.lt
    have hfl := hf.lt
    have hx0 := hx.alloc (.cells #[.int .i64 0, .int .i64 0, .int .i64 0, .int .i64 0, .int .i64 0] 23)
    have hf0 := hf.alloc (.cells #[.int .i64 0, .int .i64 0, .int .i64 0, .int .i64 0, .int .i64 0] 23)
    have f0 := hf0.one
    have ff := hf0.frozen
    go_enter Tryz.func31, Tryz.ntmps31
    go_wp2_with fail
    refine (IH.out _ hx0 hf0).mono ?_
    rintro e w1 ⟨y, er, rfl, hy, hb1⟩
    have Hy := Lib.hid hy
    have hx1 := hx0.below hb1 hx0.lt
    have hr1 : Blk w1 w.heap.size 23 #[.int .i64 0, .int .i64 0, .int .i64 0, .int .i64 0, .int .i64 0] := Blk.below (Blk.new w _ _) hb1 (by simp)
    have hbw1 : Below w.heap.size w w1 := bt hb1 (below1 _ _) (by simp <;> omega)
    clear hy hb1 hx0 hf0 f0 ff hx hf IH
    have hz1 := hr1.lt
    by_cases h0 : er = 0
    · subst h0
      have Hs : Hid (powN x (m + 1) = sMul y x) := by show _ = _; rw [powN, Hy.out, if_pos rfl]
      have hx2 := hx1.alloc (.cells #[.int .i64 y.p.a, .int .i64 y.p.b, .int .i64 y.p.c, .int .i64 y.p.d, .int .i64 y.k] 23)
      obtain ⟨x0, x1, x2, x3, x4, xf⟩ := hx2.cells5
      go_wp2_with fail
      refine (Mul_calls y x _).mono ?_
      rintro e w2 ⟨z, er, rfl, hz, hb2⟩
      have Hz := Lib.hid hz
      have hr2 := (hr1.alloc (.cells #[.int .i64 y.p.a, .int .i64 y.p.b, .int .i64 y.p.c, .int .i64 y.p.d, .int .i64 y.k] 23)).below hb2 (hr1.alloc _).lt
      have hbw2 : Below w.heap.size w w2 := bt hb2 (hbw1.alloc hbw1.size _) (by have := hbw1.size; simp; omega)
      clear hz hb2 x0 x1 x2 x3 x4 xf hx2 hx1 hr1 hbw1
      obtain ⟨r0, r1, r2, r3, r4, rf⟩ := hr2.cells5
      go_wp2_with fail
      refine bodyPost_ret (v := .tuple #[.agg #[.int .i64 z.p.a, .int .i64 z.p.b, .int .i64 z.p.c, .int .i64 z.p.d, .int .i64 z.k], .int .i64 er]) (by simp [results, Tryz.results31, go_sem, r0, r1, r2, r3, r4]) rfl ⟨z, er, rfl, Hs.out.trans Hz.out, ?_⟩
      exact below_put5 hbw2 (by omega) _ _ _ _ _
    · have Hs : Hid (powN x (m + 1) = (Nm.zero, er)) := by show _ = _; rw [powN, Hy.out, if_neg h0]
      have h0b : (er != 0) = true := by simpa using h0
      have q1 : w.heap.size ≠ w1.heap.size := by omega
      have q2 : w1.heap.size ≠ w.heap.size := by omega
      obtain ⟨s0, s1, s2, s3, s4, sf⟩ := hr1.cells5
      obtain ⟨t0, t1, t2, t3, t4, tf⟩ := ((hr1.put5 (a' := .int .i64 0) (b' := .int .i64 0) (c' := .int .i64 0) (d' := .int .i64 0) (e' := .int .i64 0)).alloc (.cells #[.int .i64 y.p.a, .int .i64 y.p.b, .int .i64 y.p.c, .int .i64 y.p.d, .int .i64 y.k] 23)).cells5
      clear h0 hx1
      go_wp2_with fail
      refine bodyPost_ret (v := .tuple #[.agg #[.int .i64 0, .int .i64 0, .int .i64 0, .int .i64 0, .int .i64 0], .int .i64 er]) (by simp [results, Tryz.results31, go_sem, t0, t1, t2, t3, t4]) rfl ⟨Nm.zero, er, rfl, Hs.out, ?_⟩
      have hb5 := below_put5 hbw1 (Nat.le_refl w.heap.size) (.int .i64 0) (.int .i64 0) (.int .i64 0) (.int .i64 0) (.int .i64 0)
      exact hb5.alloc hb5.size _
def sPower (x : Nm) (n : Int) : Nm × Int :=
  if (sLeast x).2 = 0 then (if n < 0 ∨ 64 < n then (Nm.zero, 3) else if n = 0 then (⟨Pt.one, 0⟩, 0) else powN (sLeast x).1 (n - 1).toNat) else (Nm.zero, (sLeast x).2)
set_option maxRecDepth 100000 in
set_option maxHeartbeats 8000000 in
theorem Power_calls (x : Nm) (n : Int) (w : World) :
    Calls Tryz.prog 10 #[.agg #[.int .i64 x.p.a, .int .i64 x.p.b, .int .i64 x.p.c, .int .i64 x.p.d, .int .i64 x.k], .int .i64 n] w fun e w' => ∃ (y : Nm) (er : Int), e = .returned (.tuple #[.agg #[.int .i64 y.p.a, .int .i64 y.p.b, .int .i64 y.p.c, .int .i64 y.p.d, .int .i64 y.k], .int .i64 er]) ∧ sPower x n = (y, er) ∧ Below w.heap.size w w' := by
  go_enter Tryz.func10, Tryz.ntmps10
  go_wp2_with fail
  refine (Least_calls x _).mono ?_
  rintro e w1 ⟨y, er, rfl, hy, hb1⟩
  have Hy := Lib.hid hy
  have hr1 : Blk w1 (w.heap.size + 1) 23 #[.int .i64 0, .int .i64 0, .int .i64 0, .int .i64 0, .int .i64 0] := Blk.below (Blk.at_ (w.alloc _) _ _ (by simp)) hb1 (by simp)
  have hbw1 : Below w.heap.size w w1 := bt hb1 (below2 _ _ _) (by simp <;> omega)
  clear hy hb1
  have hz1 := hr1.lt
  have q1 : w.heap.size + 1 ≠ w1.heap.size := by omega
  have q2 : w1.heap.size ≠ w.heap.size + 1 := by omega
  have q3 : w.heap.size ≠ w1.heap.size := by omega
  have q4 : w1.heap.size ≠ w.heap.size := by omega
  obtain ⟨s0, s1, s2, s3, s4, sf⟩ := hr1.cells5
  by_cases h0 : er = 0
  · subst h0
    have hbz := below_put5 hbw1 (show w.heap.size ≤ w.heap.size + 1 by omega) (.int .i64 0) (.int .i64 0) (.int .i64 0) (.int .i64 0) (.int .i64 0)
    by_cases h1 : n < 0
    · have Hs : Hid (sPower x n = (Nm.zero, 3)) := by show _ = _; unfold sPower; rw [Hy.out, if_pos rfl, if_pos (.inl h1)]
      obtain ⟨t0, t1, t2, t3, t4, tf⟩ := ((hr1.put5 (a' := .int .i64 0) (b' := .int .i64 0) (c' := .int .i64 0) (d' := .int .i64 0) (e' := .int .i64 0)).alloc (.cells #[.int .i64 y.p.a, .int .i64 y.p.b, .int .i64 y.p.c, .int .i64 y.p.d, .int .i64 y.k] 23)).cells5
      go_wp2_with fail
      refine bodyPost_ret (v := .tuple #[.agg #[.int .i64 0, .int .i64 0, .int .i64 0, .int .i64 0, .int .i64 0], .int .i64 3]) (by simp [results, Tryz.results10, go_sem, t0, t1, t2, t3, t4]) rfl ⟨Nm.zero, 3, rfl, Hs.out, ?_⟩
      exact hbz.alloc hbz.size _
    · by_cases h2 : 64 < n
      · have Hs : Hid (sPower x n = (Nm.zero, 3)) := by show _ = _; unfold sPower; rw [Hy.out, if_pos rfl, if_pos (.inr h2)]
        obtain ⟨t0, t1, t2, t3, t4, tf⟩ := ((hr1.put5 (a' := .int .i64 0) (b' := .int .i64 0) (c' := .int .i64 0) (d' := .int .i64 0) (e' := .int .i64 0)).alloc (.cells #[.int .i64 y.p.a, .int .i64 y.p.b, .int .i64 y.p.c, .int .i64 y.p.d, .int .i64 y.k] 23)).cells5
        go_wp2_with fail
        refine bodyPost_ret (v := .tuple #[.agg #[.int .i64 0, .int .i64 0, .int .i64 0, .int .i64 0, .int .i64 0], .int .i64 3]) (by simp [results, Tryz.results10, go_sem, t0, t1, t2, t3, t4]) rfl ⟨Nm.zero, 3, rfl, Hs.out, ?_⟩
        exact hbz.alloc hbz.size _
      · have hr2 := (hr1.alloc (.cells #[.int .i64 y.p.a, .int .i64 y.p.b, .int .i64 y.p.c, .int .i64 y.p.d, .int .i64 y.k] 23)).alloc (.cells #[.func (.func 31) #[] #[.pointer (some ⟨w1.heap.size, 0, none⟩), .pointer (some ⟨w1.heap.size + 1, 0, none⟩)]] 28)
        obtain ⟨u0, u1, u2, u3, u4, uf⟩ := hr2.cells5
        by_cases h3 : n = 0
        · have Hs : Hid (sPower x n = (⟨Pt.one, 0⟩, 0)) := by show _ = _; unfold sPower; rw [Hy.out, if_pos rfl, if_neg (by omega), if_pos h3]
          subst h3
          obtain ⟨t0, t1, t2, t3, t4, tf⟩ := (hr2.put5 (a' := .int .i64 1) (b' := .int .i64 0) (c' := .int .i64 0) (d' := .int .i64 0) (e' := .int .i64 0)).cells5
          go_wp2_with fail
          refine bodyPost_ret (v := .tuple #[.agg #[.int .i64 1, .int .i64 0, .int .i64 0, .int .i64 0, .int .i64 0], .int .i64 0]) (by simp [results, Tryz.results10, go_sem, t0, t1, t2, t3, t4]) rfl ⟨⟨Pt.one, 0⟩, 0, rfl, Hs.out, ?_⟩
          have hb2 := hbw1.alloc hbw1.size (.cells #[.int .i64 y.p.a, .int .i64 y.p.b, .int .i64 y.p.c, .int .i64 y.p.d, .int .i64 y.k] 23)
          exact below_put5 (hb2.alloc hb2.size _) (by omega) _ _ _ _ _
        · have Hs : Hid (sPower x n = powN y (n - 1).toNat) := by show _ = _; unfold sPower; rw [Hy.out, if_pos rfl, if_neg (by omega), if_neg h3]
          have h3b : (n == 0) = false := by simpa using h3
          have h3c : 0 < n := by omega
          go_wp2_with fail
          refine (power1_calls y w1.heap.size (w1.heap.size + 1) (n - 1).toNat n rfl (by omega) _ ((Blk.new w1 _ _).alloc _) (Blk.at_ _ _ _ (World.size_alloc _ _))).mono ?_
          rintro e w2 ⟨y2, er2, rfl, hy2, hb2⟩
          have Hy2 := Lib.hid hy2
          have hr3 := hr2.below hb2 hr2.lt
          have hbA := hbw1.alloc hbw1.size (.cells #[.int .i64 y.p.a, .int .i64 y.p.b, .int .i64 y.p.c, .int .i64 y.p.d, .int .i64 y.k] 23)
          have hbw2 : Below w.heap.size w w2 := bt hb2 (hbA.alloc hbA.size _) (by have := hbw1.size; simp; omega)
          clear hy2 hb2 hbA u0 u1 u2 u3 u4 uf hr2 s0 s1 s2 s3 s4 sf hr1 hbw1 hbz
          obtain ⟨r0, r1, r2, r3, r4, rf⟩ := hr3.cells5
          go_wp2_with fail
          refine bodyPost_ret (v := .tuple #[.agg #[.int .i64 y2.p.a, .int .i64 y2.p.b, .int .i64 y2.p.c, .int .i64 y2.p.d, .int .i64 y2.k], .int .i64 er2]) (by simp [results, Tryz.results10, go_sem, r0, r1, r2, r3, r4]) rfl ⟨y2, er2, rfl, Hs.out.trans Hy2.out, ?_⟩
          exact below_put5 hbw2 (by omega) _ _ _ _ _
  · have Hs : Hid (sPower x n = (Nm.zero, er)) := by show _ = _; unfold sPower; rw [Hy.out, if_neg h0]
    have h0b : (er != 0) = true := by simpa using h0
    obtain ⟨t0, t1, t2, t3, t4, tf⟩ := ((hr1.put5 (a' := .int .i64 0) (b' := .int .i64 0) (c' := .int .i64 0) (d' := .int .i64 0) (e' := .int .i64 0)).alloc (.cells #[.int .i64 y.p.a, .int .i64 y.p.b, .int .i64 y.p.c, .int .i64 y.p.d, .int .i64 y.k] 23)).cells5
    clear h0
    go_wp2_with fail
    refine bodyPost_ret (v := .tuple #[.agg #[.int .i64 0, .int .i64 0, .int .i64 0, .int .i64 0, .int .i64 0], .int .i64 er]) (by simp [results, Tryz.results10, go_sem, t0, t1, t2, t3, t4]) rfl ⟨Nm.zero, er, rfl, Hs.out, ?_⟩
    have hb5 := below_put5 hbw1 (show w.heap.size ≤ w.heap.size + 1 by omega) (.int .i64 0) (.int .i64 0) (.int .i64 0) (.int .i64 0) (.int .i64 0)
    exact hb5.alloc hb5.size _
end Go.Proofs.YtepdnjjfhbjcjaaGreatDoor
end
