import Derived.Deep.RegionHeld3
import Derived.StillTailTactics
import Derived.Test.YtepdnjjfhbjcjaaGreatDoorC2
import Derived.Test.YtepdnjjfhbjcjaaGreatDoorC5
set_option linter.all false
section
namespace Go.Proofs.YtepdnjjfhbjcjaaGreatDoor
open Go.RowKit
theorem Below.le0 {B : Nat} {w w' : World} (h : Below B w w') : Below B w w' := h
theorem still_tail {P : Program} {id : Nat} {Q : Exit → Act → World → Prop} {a : Act} {w : World} {l : List Oper} (n : Nat) (hm : P.follows .mixedOrders = true) (hB : Region.lexTailB .any l.toArray n = true)
    (wd : World) (hwd : wd = w.drew) (h : wpStill P l.toArray wd (fun a' => wpList P l.toArray Q (l.drop n) a' wd) (l.take n) a) : (Code.region id l.toArray true).wp P Q a w := by
  subst hwd
  exact wp_region_still_tail n hm hB h
set_option maxHeartbeats 400000 in
theorem plus_calls (a b : Int) (h : -9000000000000000000 ≤ a + b ∧ a + b ≤ 9000000000000000000) (w : World) :
    Calls Tryz.prog 70 #[.int .i64 a, .int .i64 b] w fun e w' => e = .returned (.int .i64 (a + b)) ∧ w = w' := by
  go_enter Tryz.func70, Tryz.ntmps70
  go_wp2
  go_ret
  exact ⟨rfl, rfl⟩
set_option maxHeartbeats 400000 in
theorem minus_calls (a b : Int) (h : -9000000000000000000 ≤ a - b ∧ a - b ≤ 9000000000000000000) (w : World) :
    Calls Tryz.prog 94 #[.int .i64 a, .int .i64 b] w fun e w' => e = .returned (.int .i64 (a - b)) ∧ w = w' := by
  go_enter Tryz.func94, Tryz.ntmps94
  go_wp2
  go_ret
  exact ⟨rfl, rfl⟩
set_option maxRecDepth 100000 in
set_option maxHeartbeats 8000000 in
theorem add_gen (f : FuncId) (hent : ∀ args w, (callFunc f args).run Tryz.prog w = .ok (.enter f args) w) (op : Int → Int → Int) (hop : ∀ a b : Int, -1152921504606846976 ≤ a ∧ a ≤ 1152921504606846976 → -1152921504606846976 ≤ b ∧ b ≤ 1152921504606846976 → ∀ w, (-2305843009213693952 ≤ op a b ∧ op a b ≤ 2305843009213693952) ∧ Calls Tryz.prog f #[.int .i64 a, .int .i64 b] w fun e w' => e = .returned (.int .i64 (op a b)) ∧ w' = w)
    (p q : Pt) (k l M : Nat) (hp : p.le 1073741824) (hq : q.le 1073741824) (hk : k ≤ M) (hl : l ≤ M) (hM : M = k ∨ M = l) (hM2 : M ≤ 60) (w : World) :
    Calls Tryz.prog 34 #[.agg #[.int .i64 p.a, .int .i64 p.b, .int .i64 p.c, .int .i64 p.d, .int .i64 k, .func (.func f) #[] #[]], .agg #[.int .i64 q.a, .int .i64 q.b, .int .i64 q.c, .int .i64 q.d, .int .i64 l]] w fun e w' =>
      ∃ (y : Nm) (er : Int), e = .returned (.tuple #[.agg #[.int .i64 y.p.a, .int .i64 y.p.b, .int .i64 y.p.c, .int .i64 y.p.d, .int .i64 y.k], .int .i64 er]) ∧ okN (Pt.red M ⟨op (Pt.tw (M - k) p).a (Pt.tw (M - l) q).a, op (Pt.tw (M - k) p).b (Pt.tw (M - l) q).b, op (Pt.tw (M - k) p).c (Pt.tw (M - l) q).c, op (Pt.tw (M - k) p).d (Pt.tw (M - l) q).d⟩) = (y, er) ∧ Below w.heap.size w w' := by
  have hmax : (if k < l then (l : Int) else (k : Int)) = M := by split <;> omega
  have Hpq : Hid (p.le 1073741824 ∧ q.le 1073741824) := ⟨hp, hq⟩
  clear hp hq
  have hk2 : (k : Int) + ((M - k : Nat) : Int) = M := by omega
  have hl2 : (l : Int) + ((M - l : Nat) : Int) = M := by omega
  have R1 := fun W => raised_calls p k (M - k) f Hpq.out.1 (by omega) W
  have R2 := fun W => raised_calls q l (M - l) 70 Hpq.out.2 (by omega) W
  rw [hk2] at R1
  rw [hl2] at R2
  have HR1 := Lib.hid R1
  have HR2 := Lib.hid R2
  clear R1 R2 hk2 hl2 hM
  have H1 : Hid ((Pt.tw (M - k) p).le 1152921504606846976 ∧ (Pt.tw (M - l) q).le 1152921504606846976) := ⟨Pt.tw_le Hpq.out.1 (by omega), Pt.tw_le Hpq.out.2 (by omega)⟩
  have Hop := Lib.hid hop
  have Hent := Lib.hid hent
  have HM2 := Lib.hid hM2
  clear hop hM2 hent
  generalize Pt.tw (M - k) p = p' at *
  generalize Pt.tw (M - l) q = q' at *
  go_enter Tryz.func34, Tryz.ntmps34
  go_upto_region 2 with fail
  clear hmax hk hl
  have hx0 := Blk.alloc (Blk.alloc (Blk.new w 55 #[.int .i64 p.a, .int .i64 p.b, .int .i64 p.c, .int .i64 p.d, .int .i64 k, .func (.func f) #[] #[]]) (.cells #[.int .i64 q.a, .int .i64 q.b, .int .i64 q.c, .int .i64 q.d, .int .i64 l] 23)) (.cells #[.int .i64 0, .int .i64 0, .int .i64 0, .int .i64 0, .int .i64 0] 23)
  have hy0 := Blk.alloc (Blk.at_ (w.alloc (.cells #[.int .i64 p.a, .int .i64 p.b, .int .i64 p.c, .int .i64 p.d, .int .i64 k, .func (.func f) #[] #[]] 55)) 23 #[.int .i64 q.a, .int .i64 q.b, .int .i64 q.c, .int .i64 q.d, .int .i64 l] (n := w.heap.size + 1) (by simp)) (.cells #[.int .i64 0, .int .i64 0, .int .i64 0, .int .i64 0, .int .i64 0] 23)
  have hr0 := Blk.at_ ((w.alloc (.cells #[.int .i64 p.a, .int .i64 p.b, .int .i64 p.c, .int .i64 p.d, .int .i64 k, .func (.func f) #[] #[]] 55)).alloc (.cells #[.int .i64 q.a, .int .i64 q.b, .int .i64 q.c, .int .i64 q.d, .int .i64 l] 23)) 23 #[.int .i64 0, .int .i64 0, .int .i64 0, .int .i64 0, .int .i64 0] (n := w.heap.size + 2) (by simp)
  have hbw0 := below3 w (.cells #[.int .i64 p.a, .int .i64 p.b, .int .i64 p.c, .int .i64 p.d, .int .i64 k, .func (.func f) #[] #[]] 55) (.cells #[.int .i64 q.a, .int .i64 q.b, .int .i64 q.c, .int .i64 q.d, .int .i64 l] 23) (.cells #[.int .i64 0, .int .i64 0, .int .i64 0, .int .i64 0, .int .i64 0] 23)
  generalize ((w.alloc (.cells #[.int .i64 p.a, .int .i64 p.b, .int .i64 p.c, .int .i64 p.d, .int .i64 k, .func (.func f) #[] #[]] 55)).alloc (.cells #[.int .i64 q.a, .int .i64 q.b, .int .i64 q.c, .int .i64 q.d, .int .i64 l] 23)).alloc (.cells #[.int .i64 0, .int .i64 0, .int .i64 0, .int .i64 0, .int .i64 0] 23) = W0 at *
  have hz0 := hr0.lt
  have hx1 := hx0.drew
  have hy1 := hy0.drew
  have hr1 := hr0.drew
  have hbw1 := hbw0.drew
  go_cut [7, 8] (fun s7 s8 wx => ∃ B7 B8, s7 = .pointer (some ⟨B7, 0, none⟩) ∧ s8 = .pointer (some ⟨B8, 0, none⟩) ∧ B7 ≠ B8 ∧ w.heap.size + 2 < B7 ∧ w.heap.size + 2 < B8 ∧
     Blk wx B7 66 #[.int .i64 p'.a, .int .i64 p'.b, .int .i64 p'.c, .int .i64 p'.d] ∧ Blk wx B8 66 #[.int .i64 q'.a, .int .i64 q'.b, .int .i64 q'.c, .int .i64 q'.d] ∧ Blk wx w.heap.size 55 #[.int .i64 p.a, .int .i64 p.b, .int .i64 p.c, .int .i64 p.d, .int .i64 k, .func (.func f) #[] #[]] ∧ Blk wx (w.heap.size + 2) 23 #[.int .i64 0, .int .i64 0, .int .i64 0, .int .i64 0, .int .i64 0] ∧ Below w.heap.size w wx)
  case first =>
    go_region_held3 (fun w' => w'.cell? ⟨w.heap.size, 0, none⟩ = some (.int .i64 p.a) ∧ w'.cell? ⟨w.heap.size, 1, none⟩ = some (.int .i64 p.b) ∧ w'.cell? ⟨w.heap.size, 2, none⟩ = some (.int .i64 p.c) ∧ w'.cell? ⟨w.heap.size, 3, none⟩ = some (.int .i64 p.d) ∧ w'.cell? ⟨w.heap.size, 4, none⟩ = some (.int .i64 k) ∧ w'.cell? ⟨w.heap.size, 5, none⟩ = some (.func (.func f) #[] #[]) ∧ w'.cell? ⟨w.heap.size + 1, 0, none⟩ = some (.int .i64 q.a) ∧ w'.cell? ⟨w.heap.size + 1, 1, none⟩ = some (.int .i64 q.b) ∧ w'.cell? ⟨w.heap.size + 1, 2, none⟩ = some (.int .i64 q.c) ∧ w'.cell? ⟨w.heap.size + 1, 3, none⟩ = some (.int .i64 q.d) ∧ w'.cell? ⟨w.heap.size + 1, 4, none⟩ = some (.int .i64 l)) ((with_reducible refine six_five (t := 55) (t' := 23) ?_ ?_) <;> (repeat (first | (with_reducible exact hx1) | (with_reducible exact hy1) | ((with_reducible refine Blk.far' ?_ _ ?_); (focus ((try dsimp only); omega))) | (with_reducible refine Blk.alloc ?_ _) | (with_reducible refine Blk.drew ?_))) <;> (first | (with_reducible exact hx0) | (with_reducible exact hy0)))
      (first
        | (go_at_call 71; (with_reducible refine (HR1.out _).mono ?_); rintro e w1 ⟨rfl, hb1⟩; have hsz := hb1.size; (try simp at hsz); (first | (with_reducible (have hx1 := hx1.below hb1 hx1.lt; have hy1 := hy1.below hb1 hy1.lt; have hr1 := hr1.below hb1 hr1.lt; have hbw1 := bt hb1 hbw1 hbw1.size; (try have m1 := m1.below hb1 m1.lt); (try have m2 := m2.below hb1 m2.lt))) | ((with_reducible (have hx1 := (hx1.alloc _).below hb1 (hx1.alloc _).lt; have hy1 := (hy1.alloc _).below hb1 (hy1.alloc _).lt; have hr1 := (hr1.alloc _).below hb1 (hr1.alloc _).lt)); have hbw1 := bt hb1 (hbw1.alloc hbw1.size _) (by have := hbw1.size; simp; omega); (first | (have q1 := Nat.ne_of_lt m1.lt; have q2 := Nat.ne_of_gt m1.lt; have m2 := Blk.below (Blk.new _ _ _) hb1 (by simp); have m1 := (m1.alloc _).below hb1 (m1.alloc _).lt) | (have m1 := Blk.below (Blk.new _ _ _) hb1 (by simp)))) | ((with_reducible (have hx1 := ((hx1.alloc _).alloc _).below hb1 ((hx1.alloc _).alloc _).lt; have hy1 := ((hy1.alloc _).alloc _).below hb1 ((hy1.alloc _).alloc _).lt; have hr1 := ((hr1.alloc _).alloc _).below hb1 ((hr1.alloc _).alloc _).lt)); have hbw1 := bt hb1 ((hbw1.alloc hbw1.size _).alloc (by have := hbw1.size; simp; omega) _) (by have := hbw1.size; simp; omega); have m1 := Blk.below (Blk.alloc (Blk.new _ _ _) _) hb1 (by simp <;> omega); have m2 := Blk.below (Blk.at_ _ _ _ (World.size_alloc _ _)) hb1 (by simp)) | ((with_reducible (have hx1 := (Blk.drew (hx0.alloc _)).below hb1 (Blk.drew (hx0.alloc _)).lt; have hy1 := (Blk.drew (hy0.alloc _)).below hb1 (Blk.drew (hy0.alloc _)).lt; have hr1 := (Blk.drew (hr0.alloc _)).below hb1 (Blk.drew (hr0.alloc _)).lt)); have hbw1 := bt hb1 (Below.drew (hbw0.alloc hbw0.size _)) (by have := hbw0.size; simp; omega); have m1 := Blk.below (Blk.drew (Blk.new _ _ _)) hb1 (by simp)) | ((with_reducible (have hx1 := (Blk.drew ((hx0.alloc _).alloc _)).below hb1 (Blk.drew ((hx0.alloc _).alloc _)).lt; have hy1 := (Blk.drew ((hy0.alloc _).alloc _)).below hb1 (Blk.drew ((hy0.alloc _).alloc _)).lt; have hr1 := (Blk.drew ((hr0.alloc _).alloc _)).below hb1 (Blk.drew ((hr0.alloc _).alloc _)).lt)); have hbw1 := bt hb1 (Below.drew ((hbw0.alloc hbw0.size _).alloc (by have := hbw0.size; simp; omega) _)) (by have := hbw0.size; simp; omega); have m1 := Blk.below (Blk.drew (Blk.alloc (Blk.new _ _ _) _)) hb1 (by simp <;> omega); have m2 := Blk.below (Blk.drew (Blk.at_ _ _ _ (World.size_alloc _ _))) hb1 (by simp))); clear hb1; have hz1 := hr1.lt; (try (clear a0 a1 a2 a3 af)); (try (obtain ⟨a0, a1, a2, a3, af⟩ := m1.cells4)); (try (clear b0 b1 b2 b3 bf)); (try (obtain ⟨b0, b1, b2, b3, bf⟩ := m2.cells4)); (try have lm1 := m1.lt); (try have lm2 := m2.lt))
        | (go_at_call 71; (with_reducible refine (HR2.out _).mono ?_); rintro e w1 ⟨rfl, hb1⟩; have hsz := hb1.size; (try simp at hsz); (first | (with_reducible (have hx1 := hx1.below hb1 hx1.lt; have hy1 := hy1.below hb1 hy1.lt; have hr1 := hr1.below hb1 hr1.lt; have hbw1 := bt hb1 hbw1 hbw1.size; (try have m1 := m1.below hb1 m1.lt); (try have m2 := m2.below hb1 m2.lt))) | ((with_reducible (have hx1 := (hx1.alloc _).below hb1 (hx1.alloc _).lt; have hy1 := (hy1.alloc _).below hb1 (hy1.alloc _).lt; have hr1 := (hr1.alloc _).below hb1 (hr1.alloc _).lt)); have hbw1 := bt hb1 (hbw1.alloc hbw1.size _) (by have := hbw1.size; simp; omega); (first | (have q1 := Nat.ne_of_lt m1.lt; have q2 := Nat.ne_of_gt m1.lt; have m2 := Blk.below (Blk.new _ _ _) hb1 (by simp); have m1 := (m1.alloc _).below hb1 (m1.alloc _).lt) | (have m1 := Blk.below (Blk.new _ _ _) hb1 (by simp)))) | ((with_reducible (have hx1 := ((hx1.alloc _).alloc _).below hb1 ((hx1.alloc _).alloc _).lt; have hy1 := ((hy1.alloc _).alloc _).below hb1 ((hy1.alloc _).alloc _).lt; have hr1 := ((hr1.alloc _).alloc _).below hb1 ((hr1.alloc _).alloc _).lt)); have hbw1 := bt hb1 ((hbw1.alloc hbw1.size _).alloc (by have := hbw1.size; simp; omega) _) (by have := hbw1.size; simp; omega); have m1 := Blk.below (Blk.alloc (Blk.new _ _ _) _) hb1 (by simp <;> omega); have m2 := Blk.below (Blk.at_ _ _ _ (World.size_alloc _ _)) hb1 (by simp)) | ((with_reducible (have hx1 := (Blk.drew (hx0.alloc _)).below hb1 (Blk.drew (hx0.alloc _)).lt; have hy1 := (Blk.drew (hy0.alloc _)).below hb1 (Blk.drew (hy0.alloc _)).lt; have hr1 := (Blk.drew (hr0.alloc _)).below hb1 (Blk.drew (hr0.alloc _)).lt)); have hbw1 := bt hb1 (Below.drew (hbw0.alloc hbw0.size _)) (by have := hbw0.size; simp; omega); have m1 := Blk.below (Blk.drew (Blk.new _ _ _)) hb1 (by simp)) | ((with_reducible (have hx1 := (Blk.drew ((hx0.alloc _).alloc _)).below hb1 (Blk.drew ((hx0.alloc _).alloc _)).lt; have hy1 := (Blk.drew ((hy0.alloc _).alloc _)).below hb1 (Blk.drew ((hy0.alloc _).alloc _)).lt; have hr1 := (Blk.drew ((hr0.alloc _).alloc _)).below hb1 (Blk.drew ((hr0.alloc _).alloc _)).lt)); have hbw1 := bt hb1 (Below.drew ((hbw0.alloc hbw0.size _).alloc (by have := hbw0.size; simp; omega) _)) (by have := hbw0.size; simp; omega); have m1 := Blk.below (Blk.drew (Blk.alloc (Blk.new _ _ _) _)) hb1 (by simp <;> omega); have m2 := Blk.below (Blk.drew (Blk.at_ _ _ _ (World.size_alloc _ _))) hb1 (by simp))); clear hb1; have hz1 := hr1.lt; (try (clear a0 a1 a2 a3 af)); (try (obtain ⟨a0, a1, a2, a3, af⟩ := m1.cells4)); (try (clear b0 b1 b2 b3 bf)); (try (obtain ⟨b0, b1, b2, b3, bf⟩ := m2.cells4)); (try have lm1 := m1.lt); (try have lm2 := m2.lt))
        | (go_at_call 33; (with_reducible refine (work_calls _ _ _ _ _ _).mono ?_); rintro e w1 ⟨rfl, hb1⟩; have hsz := hb1.size; (try simp at hsz); (first | (with_reducible (have hx1 := hx1.below hb1 hx1.lt; have hy1 := hy1.below hb1 hy1.lt; have hr1 := hr1.below hb1 hr1.lt; have hbw1 := bt hb1 hbw1 hbw1.size; (try have m1 := m1.below hb1 m1.lt); (try have m2 := m2.below hb1 m2.lt))) | ((with_reducible (have hx1 := (hx1.alloc _).below hb1 (hx1.alloc _).lt; have hy1 := (hy1.alloc _).below hb1 (hy1.alloc _).lt; have hr1 := (hr1.alloc _).below hb1 (hr1.alloc _).lt)); have hbw1 := bt hb1 (hbw1.alloc hbw1.size _) (by have := hbw1.size; simp; omega); (first | (have q1 := Nat.ne_of_lt m1.lt; have q2 := Nat.ne_of_gt m1.lt; have m2 := Blk.below (Blk.new _ _ _) hb1 (by simp); have m1 := (m1.alloc _).below hb1 (m1.alloc _).lt) | (have m1 := Blk.below (Blk.new _ _ _) hb1 (by simp)))) | ((with_reducible (have hx1 := ((hx1.alloc _).alloc _).below hb1 ((hx1.alloc _).alloc _).lt; have hy1 := ((hy1.alloc _).alloc _).below hb1 ((hy1.alloc _).alloc _).lt; have hr1 := ((hr1.alloc _).alloc _).below hb1 ((hr1.alloc _).alloc _).lt)); have hbw1 := bt hb1 ((hbw1.alloc hbw1.size _).alloc (by have := hbw1.size; simp; omega) _) (by have := hbw1.size; simp; omega); have m1 := Blk.below (Blk.alloc (Blk.new _ _ _) _) hb1 (by simp <;> omega); have m2 := Blk.below (Blk.at_ _ _ _ (World.size_alloc _ _)) hb1 (by simp)) | ((with_reducible (have hx1 := (Blk.drew (hx0.alloc _)).below hb1 (Blk.drew (hx0.alloc _)).lt; have hy1 := (Blk.drew (hy0.alloc _)).below hb1 (Blk.drew (hy0.alloc _)).lt; have hr1 := (Blk.drew (hr0.alloc _)).below hb1 (Blk.drew (hr0.alloc _)).lt)); have hbw1 := bt hb1 (Below.drew (hbw0.alloc hbw0.size _)) (by have := hbw0.size; simp; omega); have m1 := Blk.below (Blk.drew (Blk.new _ _ _)) hb1 (by simp)) | ((with_reducible (have hx1 := (Blk.drew ((hx0.alloc _).alloc _)).below hb1 (Blk.drew ((hx0.alloc _).alloc _)).lt; have hy1 := (Blk.drew ((hy0.alloc _).alloc _)).below hb1 (Blk.drew ((hy0.alloc _).alloc _)).lt; have hr1 := (Blk.drew ((hr0.alloc _).alloc _)).below hb1 (Blk.drew ((hr0.alloc _).alloc _)).lt)); have hbw1 := bt hb1 (Below.drew ((hbw0.alloc hbw0.size _).alloc (by have := hbw0.size; simp; omega) _)) (by have := hbw0.size; simp; omega); have m1 := Blk.below (Blk.drew (Blk.alloc (Blk.new _ _ _) _)) hb1 (by simp <;> omega); have m2 := Blk.below (Blk.drew (Blk.at_ _ _ _ (World.size_alloc _ _))) hb1 (by simp))); clear hb1; have hz1 := hr1.lt; (try (clear a0 a1 a2 a3 af)); (try (obtain ⟨a0, a1, a2, a3, af⟩ := m1.cells4)); (try (clear b0 b1 b2 b3 bf)); (try (obtain ⟨b0, b1, b2, b3, bf⟩ := m2.cells4)); (try have lm1 := m1.lt); (try have lm2 := m2.lt)))
    all_goals go_wp2_with fail
    all_goals go_meet
    all_goals (with_reducible refine ⟨_, _, rfl, rfl, ?_, ?_, ?_, ?_, ?_, ?_, ?_, ?_⟩)
    all_goals first
      | omega
      | (with_reducible exact hr1)
      | ((with_reducible (refine Below.le0 ?_)); have hs0 := hbw1.size; (repeat (first | (with_reducible exact hbw1) | omega | (with_reducible refine Below.alloc ?_ ?_ _) | (with_reducible refine Below.setCell ?_ ?_ _) | (simp only [World.size_alloc, World.size_setCell]; omega))); done)
      | (repeat (first | (with_reducible exact hx1) | (with_reducible exact hr1) | (with_reducible exact m1) | (with_reducible exact m2) | (with_reducible exact Blk.new _ _ _) | ((with_reducible refine Blk.at_ _ _ _ ?_); (focus (simp only [World.size_alloc, World.size_setCell]; done))) | (with_reducible exact Blk.put4 m1) | (with_reducible exact Blk.put4 m2) | (with_reducible exact Blk.put4 (Blk.alloc m1 _)) | (with_reducible exact Blk.put4 (Blk.new _ _ _)) | (with_reducible apply Blk.put4) | (with_reducible refine Blk.alloc ?_ _) | ((with_reducible refine Blk.far' ?_ _ ?_); (focus ((try dsimp only); omega))))
         done)
    all_goals go_goals
  case rest =>
    clear hx0 hy0 hr0 hbw0 hx1 hy1 hr1 hbw1 hz0
    obtain ⟨B7, B8, rfl, rfl, hne, h7, h8, m1, m2, hx, hr, hb⟩ := hcut
    obtain ⟨x0, x1, x2, x3, x4, x5, xf⟩ := hx.cells6
    obtain ⟨a0, a1, a2, a3, af⟩ := m1.cells4
    obtain ⟨b0, b1, b2, b3, bf⟩ := m2.cells4
    go_wp2_with fail
    refine wp_loop_rounds 5 ?_
    rw [rounds_succ]
    go_upto_region 6 with fail
    obtain ⟨wd, hwd⟩ : ∃ wd, wd = wc.drew := ⟨_, rfl⟩
    refine still_tail 11 (by kernel_rfl) (by kernel_rfl) wd hwd ?_
    simp only [List.take_succ_cons, List.take_zero, List.drop_succ_cons, List.drop_zero]
    have m1 := m1.drew
    have m2 := m2.drew
    have hx := hx.drew
    have hr := hr.drew
    have hb := hb.drew
    rw [← hwd] at m1 m2 hx hr hb
    clear x0 x1 x2 x3 x4 x5 xf a0 a1 a2 a3 af b0 b1 b2 b3 bf hwd
    obtain ⟨x0, x1, x2, x3, x4, x5, xf⟩ := hx.cells6
    obtain ⟨a0, a1, a2, a3, af⟩ := m1.cells4
    obtain ⟨b0, b1, b2, b3, bf⟩ := m2.cells4
    repeat still_step
    refine wpStill_step (fun K hK => ?_)
    go_simp
    rw [Hent.out]
    refine ⟨rfl, _, (Hop.out _ _ H1.out.1.1 H1.out.2.1 _).2, hK _ ?_⟩
    clear hK K
    repeat still_step
    refine wpStill_nil ?_
    go_wp2_with fail
    have m1 : Blk (wd.setCell ⟨B7, 0, none⟩ (.int .i64 (op p'.a q'.a))) B7 66 #[.int .i64 (op p'.a q'.a), .int .i64 p'.b, .int .i64 p'.c, .int .i64 p'.d] := m1.set_ 0 _
    have m2 := m2.far (p := ⟨B7, 0, none⟩) (Ne.symm hne) (.int .i64 (op p'.a q'.a))
    have hx := hx.far (p := ⟨B7, 0, none⟩) (by (try dsimp only); omega) (.int .i64 (op p'.a q'.a))
    have hr := hr.far (p := ⟨B7, 0, none⟩) (by (try dsimp only); omega) (.int .i64 (op p'.a q'.a))
    have hb := hb.setCell (p := ⟨B7, 0, none⟩) (by (try dsimp only); omega) (.int .i64 (op p'.a q'.a))
    clear x0 x1 x2 x3 x4 x5 xf a0 a1 a2 a3 af b0 b1 b2 b3 bf
    generalize wd.setCell ⟨B7, 0, none⟩ (.int .i64 (op p'.a q'.a)) = wc at *
    obtain ⟨x0, x1, x2, x3, x4, x5, xf⟩ := hx.cells6
    obtain ⟨a0, a1, a2, a3, af⟩ := m1.cells4
    obtain ⟨b0, b1, b2, b3, bf⟩ := m2.cells4
    rw [rounds_succ]
    go_upto_region 6 with fail
    obtain ⟨wd, hwd⟩ : ∃ wd, wd = wc.drew := ⟨_, rfl⟩
    refine still_tail 11 (by kernel_rfl) (by kernel_rfl) wd hwd ?_
    simp only [List.take_succ_cons, List.take_zero, List.drop_succ_cons, List.drop_zero]
    have m1 := m1.drew
    have m2 := m2.drew
    have hx := hx.drew
    have hr := hr.drew
    have hb := hb.drew
    rw [← hwd] at m1 m2 hx hr hb
    clear x0 x1 x2 x3 x4 x5 xf a0 a1 a2 a3 af b0 b1 b2 b3 bf hwd
    obtain ⟨x0, x1, x2, x3, x4, x5, xf⟩ := hx.cells6
    obtain ⟨a0, a1, a2, a3, af⟩ := m1.cells4
    obtain ⟨b0, b1, b2, b3, bf⟩ := m2.cells4
    repeat still_step
    refine wpStill_step (fun K hK => ?_)
    go_simp
    rw [Hent.out]
    refine ⟨rfl, _, (Hop.out _ _ H1.out.1.2.1 H1.out.2.2.1 _).2, hK _ ?_⟩
    clear hK K
    repeat still_step
    refine wpStill_nil ?_
    go_wp2_with fail
    have m1 : Blk (wd.setCell ⟨B7, 1, none⟩ (.int .i64 (op p'.b q'.b))) B7 66 #[.int .i64 (op p'.a q'.a), .int .i64 (op p'.b q'.b), .int .i64 p'.c, .int .i64 p'.d] := m1.set_ 1 _
    have m2 := m2.far (p := ⟨B7, 1, none⟩) (Ne.symm hne) (.int .i64 (op p'.b q'.b))
    have hx := hx.far (p := ⟨B7, 1, none⟩) (by (try dsimp only); omega) (.int .i64 (op p'.b q'.b))
    have hr := hr.far (p := ⟨B7, 1, none⟩) (by (try dsimp only); omega) (.int .i64 (op p'.b q'.b))
    have hb := hb.setCell (p := ⟨B7, 1, none⟩) (by (try dsimp only); omega) (.int .i64 (op p'.b q'.b))
    clear x0 x1 x2 x3 x4 x5 xf a0 a1 a2 a3 af b0 b1 b2 b3 bf
    generalize wd.setCell ⟨B7, 1, none⟩ (.int .i64 (op p'.b q'.b)) = wc at *
    obtain ⟨x0, x1, x2, x3, x4, x5, xf⟩ := hx.cells6
    obtain ⟨a0, a1, a2, a3, af⟩ := m1.cells4
    obtain ⟨b0, b1, b2, b3, bf⟩ := m2.cells4
    rw [rounds_succ]
    go_upto_region 6 with fail
    obtain ⟨wd, hwd⟩ : ∃ wd, wd = wc.drew := ⟨_, rfl⟩
    refine still_tail 11 (by kernel_rfl) (by kernel_rfl) wd hwd ?_
    simp only [List.take_succ_cons, List.take_zero, List.drop_succ_cons, List.drop_zero]
    have m1 := m1.drew
    have m2 := m2.drew
    have hx := hx.drew
    have hr := hr.drew
    have hb := hb.drew
    rw [← hwd] at m1 m2 hx hr hb
    clear x0 x1 x2 x3 x4 x5 xf a0 a1 a2 a3 af b0 b1 b2 b3 bf hwd
    obtain ⟨x0, x1, x2, x3, x4, x5, xf⟩ := hx.cells6
    obtain ⟨a0, a1, a2, a3, af⟩ := m1.cells4
    obtain ⟨b0, b1, b2, b3, bf⟩ := m2.cells4
    repeat still_step
    refine wpStill_step (fun K hK => ?_)
    go_simp
    rw [Hent.out]
    refine ⟨rfl, _, (Hop.out _ _ H1.out.1.2.2.1 H1.out.2.2.2.1 _).2, hK _ ?_⟩
    clear hK K
    repeat still_step
    refine wpStill_nil ?_
    go_wp2_with fail
    have m1 : Blk (wd.setCell ⟨B7, 2, none⟩ (.int .i64 (op p'.c q'.c))) B7 66 #[.int .i64 (op p'.a q'.a), .int .i64 (op p'.b q'.b), .int .i64 (op p'.c q'.c), .int .i64 p'.d] := m1.set_ 2 _
    have m2 := m2.far (p := ⟨B7, 2, none⟩) (Ne.symm hne) (.int .i64 (op p'.c q'.c))
    have hx := hx.far (p := ⟨B7, 2, none⟩) (by (try dsimp only); omega) (.int .i64 (op p'.c q'.c))
    have hr := hr.far (p := ⟨B7, 2, none⟩) (by (try dsimp only); omega) (.int .i64 (op p'.c q'.c))
    have hb := hb.setCell (p := ⟨B7, 2, none⟩) (by (try dsimp only); omega) (.int .i64 (op p'.c q'.c))
    clear x0 x1 x2 x3 x4 x5 xf a0 a1 a2 a3 af b0 b1 b2 b3 bf
    generalize wd.setCell ⟨B7, 2, none⟩ (.int .i64 (op p'.c q'.c)) = wc at *
    obtain ⟨x0, x1, x2, x3, x4, x5, xf⟩ := hx.cells6
    obtain ⟨a0, a1, a2, a3, af⟩ := m1.cells4
    obtain ⟨b0, b1, b2, b3, bf⟩ := m2.cells4
    rw [rounds_succ]
    go_upto_region 6 with fail
    obtain ⟨wd, hwd⟩ : ∃ wd, wd = wc.drew := ⟨_, rfl⟩
    refine still_tail 11 (by kernel_rfl) (by kernel_rfl) wd hwd ?_
    simp only [List.take_succ_cons, List.take_zero, List.drop_succ_cons, List.drop_zero]
    have m1 := m1.drew
    have m2 := m2.drew
    have hx := hx.drew
    have hr := hr.drew
    have hb := hb.drew
    rw [← hwd] at m1 m2 hx hr hb
    clear x0 x1 x2 x3 x4 x5 xf a0 a1 a2 a3 af b0 b1 b2 b3 bf hwd
    obtain ⟨x0, x1, x2, x3, x4, x5, xf⟩ := hx.cells6
    obtain ⟨a0, a1, a2, a3, af⟩ := m1.cells4
    obtain ⟨b0, b1, b2, b3, bf⟩ := m2.cells4
    repeat still_step
    refine wpStill_step (fun K hK => ?_)
    go_simp
    rw [Hent.out]
    refine ⟨rfl, _, (Hop.out _ _ H1.out.1.2.2.2 H1.out.2.2.2.2 _).2, hK _ ?_⟩
    clear hK K
    repeat still_step
    refine wpStill_nil ?_
    go_wp2_with fail
    have m1 : Blk (wd.setCell ⟨B7, 3, none⟩ (.int .i64 (op p'.d q'.d))) B7 66 #[.int .i64 (op p'.a q'.a), .int .i64 (op p'.b q'.b), .int .i64 (op p'.c q'.c), .int .i64 (op p'.d q'.d)] := m1.set_ 3 _
    have m2 := m2.far (p := ⟨B7, 3, none⟩) (Ne.symm hne) (.int .i64 (op p'.d q'.d))
    have hx := hx.far (p := ⟨B7, 3, none⟩) (by (try dsimp only); omega) (.int .i64 (op p'.d q'.d))
    have hr := hr.far (p := ⟨B7, 3, none⟩) (by (try dsimp only); omega) (.int .i64 (op p'.d q'.d))
    have hb := hb.setCell (p := ⟨B7, 3, none⟩) (by (try dsimp only); omega) (.int .i64 (op p'.d q'.d))
    clear x0 x1 x2 x3 x4 x5 xf a0 a1 a2 a3 af b0 b1 b2 b3 bf
    generalize wd.setCell ⟨B7, 3, none⟩ (.int .i64 (op p'.d q'.d)) = wc at *
    obtain ⟨x0, x1, x2, x3, x4, x5, xf⟩ := hx.cells6
    obtain ⟨a0, a1, a2, a3, af⟩ := m1.cells4
    obtain ⟨b0, b1, b2, b3, bf⟩ := m2.cells4
    have HL := Lib.hid (fun W => least_nm ⟨op p'.a q'.a, op p'.b q'.b, op p'.c q'.c, op p'.d q'.d⟩ M 70 (by
      have e1 := (Hop.out _ _ H1.out.1.1 H1.out.2.1 w).1
      have e2 := (Hop.out _ _ H1.out.1.2.1 H1.out.2.2.1 w).1
      have e3 := (Hop.out _ _ H1.out.1.2.2.1 H1.out.2.2.2.1 w).1
      have e4 := (Hop.out _ _ H1.out.1.2.2.2 H1.out.2.2.2.2 w).1
      simp only [Pt.sm]; omega) (by have := HM2.out; omega) W)
    dsimp only at HL
    rw [rounds_succ]
    go_wp2_with fail
    refine (of_calls _ _ _ _ _ _).mono ?_
    rintro e w1 ⟨rfl, hb1⟩
    have hr := hr.below hb1 hr.lt
    have hb := bt hb1 hb hb.size
    clear hb1 m1 m2 hx x0 x1 x2 x3 x4 x5 xf a0 a1 a2 a3 af b0 b1 b2 b3 bf
    go_wp2_with fail
    refine (work_calls _ _ _ _ _ _).mono ?_
    rintro e w2 ⟨rfl, hb1⟩
    have hr := hr.below hb1 hr.lt
    have hb := bt hb1 hb hb.size
    clear hb1
    go_wp2_with fail
    refine (HL.out _).mono ?_
    rintro e w3 ⟨y, er, rfl, hy, hb1⟩
    have Hy := Lib.hid hy
    have hr := hr.below hb1 hr.lt
    have hb := bt hb1 hb hb.size
    clear hy hb1
    obtain ⟨r0, r1, r2, r3, r4, rf⟩ := hr.cells5
    go_wp2_with fail
    refine bodyPost_ret (v := .tuple #[.agg #[.int .i64 y.p.a, .int .i64 y.p.b, .int .i64 y.p.c, .int .i64 y.p.d, .int .i64 y.k], .int .i64 er]) (by simp [results, Tryz.results34, go_sem, r0, r1, r2, r3, r4]) rfl ⟨y, er, rfl, ?_, ?_⟩
    · exact Hy.out
    · exact below_put5 hb (by omega) _ _ _ _ _
theorem add_calls (p q : Pt) (k l M : Nat) (hp : p.le 1073741824) (hq : q.le 1073741824) (hk : k ≤ M) (hl : l ≤ M) (hM : M = k ∨ M = l) (hM2 : M ≤ 60) (w : World) :
    Calls Tryz.prog 34 #[.agg #[.int .i64 p.a, .int .i64 p.b, .int .i64 p.c, .int .i64 p.d, .int .i64 k, .func (.func 70) #[] #[]], .agg #[.int .i64 q.a, .int .i64 q.b, .int .i64 q.c, .int .i64 q.d, .int .i64 l]] w fun e w' =>
      ∃ (y : Nm) (er : Int), e = .returned (.tuple #[.agg #[.int .i64 y.p.a, .int .i64 y.p.b, .int .i64 y.p.c, .int .i64 y.p.d, .int .i64 y.k], .int .i64 er]) ∧ okN (Pt.red M ((Pt.tw (M - k) p).add (Pt.tw (M - l) q))) = (y, er) ∧ Below w.heap.size w w' :=
  add_gen 70 (fun args w => by kernel_rfl) (fun a b => a + b) (fun a b ha hb w => ⟨⟨by omega, by omega⟩, (plus_calls a b (by omega) w).mono fun _ _ h => ⟨h.1, h.2.symm⟩⟩) p q k l M hp hq hk hl hM hM2 w
theorem addm_calls (p q : Pt) (k l M : Nat) (hp : p.le 1073741824) (hq : q.le 1073741824) (hk : k ≤ M) (hl : l ≤ M) (hM : M = k ∨ M = l) (hM2 : M ≤ 60) (w : World) :
    Calls Tryz.prog 34 #[.agg #[.int .i64 p.a, .int .i64 p.b, .int .i64 p.c, .int .i64 p.d, .int .i64 k, .func (.func 94) #[] #[]], .agg #[.int .i64 q.a, .int .i64 q.b, .int .i64 q.c, .int .i64 q.d, .int .i64 l]] w fun e w' =>
      ∃ (y : Nm) (er : Int), e = .returned (.tuple #[.agg #[.int .i64 y.p.a, .int .i64 y.p.b, .int .i64 y.p.c, .int .i64 y.p.d, .int .i64 y.k], .int .i64 er]) ∧ okN (Pt.red M ((Pt.tw (M - k) p).sub (Pt.tw (M - l) q))) = (y, er) ∧ Below w.heap.size w w' :=
  add_gen 94 (fun args w => by kernel_rfl) (fun a b => a - b) (fun a b ha hb w => ⟨⟨by omega, by omega⟩, (minus_calls a b (by omega) w).mono fun _ _ h => ⟨h.1, h.2.symm⟩⟩) p q k l M hp hq hk hl hM hM2 w
end Go.Proofs.YtepdnjjfhbjcjaaGreatDoor
end
section
namespace Go.Proofs.YtepdnjjfhbjcjaaGreatDoor
open Go.RowKit
def plusP (x z : Nm) : Pt := (Pt.tw (max x.k.toNat z.k.toNat - x.k.toNat) x.p).add (Pt.tw (max x.k.toNat z.k.toNat - z.k.toNat) z.p)
def minusP (x z : Nm) : Pt := (Pt.tw (max x.k.toNat z.k.toNat - x.k.toNat) x.p).sub (Pt.tw (max x.k.toNat z.k.toNat - z.k.toNat) z.p)
def sAdd (x z : Nm) : Nm × Int := if chks [x, z] = 0 then okN (Pt.red (max x.k.toNat z.k.toNat) (plusP x z)) else (Nm.zero, chks [x, z])
def sSub (x z : Nm) : Nm × Int := if chks [x, z] = 0 then okN (Pt.red (max x.k.toNat z.k.toNat) (minusP x z)) else (Nm.zero, chks [x, z])
set_option maxRecDepth 100000 in
set_option maxHeartbeats 4000000 in
theorem Sub_calls (x z : Nm) (w : World) :
    Calls Tryz.prog 53 #[.agg #[.int .i64 x.p.a, .int .i64 x.p.b, .int .i64 x.p.c, .int .i64 x.p.d, .int .i64 x.k], .agg #[.int .i64 z.p.a, .int .i64 z.p.b, .int .i64 z.p.c, .int .i64 z.p.d, .int .i64 z.k]] w fun e w' => ∃ (y : Nm) (er : Int), e = .returned (.tuple #[.agg #[.int .i64 y.p.a, .int .i64 y.p.b, .int .i64 y.p.c, .int .i64 y.p.d, .int .i64 y.k], .int .i64 er]) ∧ sSub x z = (y, er) ∧ Below w.heap.size w w' := by
  obtain ⟨n, hn⟩ : ∃ n : Int, chks [x, z] = n := ⟨_, rfl⟩
  have Hn := Lib.hid hn
  clear hn
  go_enter Tryz.func53, Tryz.ntmps53
  go_wp2_with fail
  refine (checks_calls [x, z] _ _ (by simp) _ (by simp) (rowAt_two (Blk.at_ (((w.alloc _).alloc _).alloc _) _ _ (by simp)))).mono ?_
  rintro e w1 ⟨rfl, hb1⟩
  rw [Hn.out]
  have hx1 : Blk w1 w.heap.size 23 #[.int .i64 x.p.a, .int .i64 x.p.b, .int .i64 x.p.c, .int .i64 x.p.d, .int .i64 x.k] := Blk.below (Blk.alloc (Blk.alloc (Blk.alloc (Blk.new w _ _) _) _) _) hb1 (by simp <;> omega)
  have hy1 : Blk w1 (w.heap.size + 1) 23 #[.int .i64 z.p.a, .int .i64 z.p.b, .int .i64 z.p.c, .int .i64 z.p.d, .int .i64 z.k] := Blk.below (Blk.alloc (Blk.alloc (Blk.at_ (w.alloc _) _ _ (by simp)) _) _) hb1 (by simp <;> omega)
  have hr1 : Blk w1 (w.heap.size + 2) 23 #[.int .i64 0, .int .i64 0, .int .i64 0, .int .i64 0, .int .i64 0] := Blk.below (Blk.alloc (Blk.at_ ((w.alloc _).alloc _) _ _ (by simp)) _) hb1 (by simp <;> omega)
  have hbw1 : Below w.heap.size w w1 := bt hb1 ((below3 _ _ _ _).alloc (by simp <;> omega) _) (by simp <;> omega)
  clear hb1
  have hz1 := hr1.lt
  have hz0 : w.heap.size < w1.heap.size := by omega
  by_cases h0 : n = 0
  · obtain ⟨hcx, hcz⟩ := chks_two (Hn.out.trans h0)
    obtain ⟨hlx, hkx0, hkx1⟩ := Nm.chk_ok hcx
    obtain ⟨hlz, hkz0, hkz1⟩ := Nm.chk_ok hcz
    clear hcx hcz
    have Hs : Hid (sSub x z = okN (Pt.red (max x.k.toNat z.k.toNat) (minusP x z))) := by show _ = _; unfold sSub; rw [if_pos (Hn.out.trans h0)]
    obtain ⟨k, hk⟩ : ∃ k : Nat, x.k = k := ⟨x.k.toNat, by omega⟩
    obtain ⟨l, hl⟩ : ∃ l : Nat, z.k = l := ⟨z.k.toNat, by omega⟩
    have HA := Lib.hid (fun W => addm_calls x.p z.p k l (max k l) hlx hlz (by omega) (by omega) (by omega) (by omega) W)
    rw [← hk, ← hl] at HA
    have Hk : Hid (x.k = k ∧ z.k = l) := ⟨hk, hl⟩
    subst h0
    clear hk hl hlx hlz hkx0 hkx1 hkz0 hkz1 Hn
    obtain ⟨x0, x1, x2, x3, x4, xf⟩ := hx1.cells5
    obtain ⟨y0, y1, y2, y3, y4, yf⟩ := hy1.cells5
    go_wp2_with fail
    refine (HA.out _).mono ?_
    rintro e w2 ⟨y, er, rfl, hy, hb2⟩
    have Hy := Lib.hid hy
    have hr1 := hr1.below hb2 hr1.lt
    have hbw1 := bt hb2 hbw1 hbw1.size
    clear hy hb2 x0 x1 x2 x3 x4 xf y0 y1 y2 y3 y4 yf
    obtain ⟨r0, r1, r2, r3, r4, rf⟩ := hr1.cells5
    go_wp2_with fail
    refine bodyPost_ret (v := .tuple #[.agg #[.int .i64 y.p.a, .int .i64 y.p.b, .int .i64 y.p.c, .int .i64 y.p.d, .int .i64 y.k], .int .i64 er]) (by simp [results, Tryz.results53, go_sem, r0, r1, r2, r3, r4]) rfl ⟨y, er, rfl, ?_, ?_⟩
    · rw [Hs.out, ← Hy.out]; unfold minusP; rw [Hk.out.1, Hk.out.2]; rfl
    · exact below_put5 hbw1 (by omega) _ _ _ _ _
  · have Hs : Hid (sSub x z = (Nm.zero, n)) := by show _ = _; unfold sSub; rw [Hn.out, if_neg h0]
    have h0b : (n != 0) = true := by simpa using h0
    obtain ⟨r0, r1, r2, r3, r4, rf⟩ := hr1.cells5
    clear h0 Hn
    go_wp2_with fail
    refine bodyPost_ret (v := .tuple #[.agg #[.int .i64 0, .int .i64 0, .int .i64 0, .int .i64 0, .int .i64 0], .int .i64 n]) (by simp [results, Tryz.results53, go_sem, r0, r1, r2, r3, r4]) rfl ⟨Nm.zero, n, rfl, Hs.out, ?_⟩
    exact below_put5 hbw1 (by omega) _ _ _ _ _
def sNeg (x : Nm) : Nm × Int := sSub Nm.zero x
set_option maxRecDepth 100000 in
set_option maxHeartbeats 2000000 in
theorem Neg_calls (x : Nm) (w : World) :
    Calls Tryz.prog 50 #[.agg #[.int .i64 x.p.a, .int .i64 x.p.b, .int .i64 x.p.c, .int .i64 x.p.d, .int .i64 x.k]] w fun e w' => ∃ (y : Nm) (er : Int), e = .returned (.tuple #[.agg #[.int .i64 y.p.a, .int .i64 y.p.b, .int .i64 y.p.c, .int .i64 y.p.d, .int .i64 y.k], .int .i64 er]) ∧ sNeg x = (y, er) ∧ Below w.heap.size w w' := by
  go_enter Tryz.func50, Tryz.ntmps50
  go_wp2_with fail
  refine (Sub_calls Nm.zero x _).mono ?_
  rintro e w1 ⟨y, er, rfl, hy, hb1⟩
  have Hy := Lib.hid hy
  have hr1 : Blk w1 (w.heap.size + 1) 23 #[.int .i64 0, .int .i64 0, .int .i64 0, .int .i64 0, .int .i64 0] := Blk.below (Blk.at_ (w.alloc _) _ _ (by simp)) hb1 (by simp)
  have hbw1 : Below w.heap.size w w1 := bt hb1 (below2 _ _ _) (by simp <;> omega)
  clear hb1 hy
  have hz1 := hr1.lt
  obtain ⟨r0, r1, r2, r3, r4, rf⟩ := hr1.cells5
  go_wp2_with fail
  refine bodyPost_ret (v := .tuple #[.agg #[.int .i64 y.p.a, .int .i64 y.p.b, .int .i64 y.p.c, .int .i64 y.p.d, .int .i64 y.k], .int .i64 er]) (by simp [results, Tryz.results50, go_sem, r0, r1, r2, r3, r4]) rfl ⟨y, er, rfl, Hy.out, ?_⟩
  exact below_put5 hbw1 (by omega) _ _ _ _ _
theorem okN_ok {r : Pt × Nat} {y : Nm} (h : okN r = (y, 0)) : y.chk = 0 := by
  unfold okN at h
  by_cases hl : lstOk r = true
  · rw [if_pos hl] at h
    injection h with h1 h2
    subst h1
    unfold lstOk at hl
    simp only [Bool.and_eq_true, decide_eq_true_eq] at hl
    exact Nm.ok_chk ((wiB_iff r.1 _).1 hl.1) (by show (0 : Int) ≤ (r.2 : Int); omega) (by show (r.2 : Int) ≤ 60; omega)
  · rw [if_neg hl] at h
    injection h with h1 h2
    simp at h2
theorem sSub_ok {x z y : Nm} (h : sSub x z = (y, 0)) : y.chk = 0 := by
  unfold sSub at h
  by_cases hc : chks [x, z] = 0
  · rw [if_pos hc] at h; exact okN_ok h
  · rw [if_neg hc] at h; injection h with h1 h2; exact absurd h2 hc
def sLess (x z : Nm) : Bool × Int :=
  if chks [x, z] = 0 then (if realB x.p && realB z.p then (if (sSub x z).2 = 0 then (negB (sSub x z).1.p.a (sSub x z).1.p.b, 0) else (false, (sSub x z).2)) else (false, 7)) else (false, chks [x, z])
set_option maxRecDepth 100000 in
set_option maxHeartbeats 4000000 in
theorem Less_calls (x z : Nm) (w : World) :
    Calls Tryz.prog 22 #[.agg #[.int .i64 x.p.a, .int .i64 x.p.b, .int .i64 x.p.c, .int .i64 x.p.d, .int .i64 x.k], .agg #[.int .i64 z.p.a, .int .i64 z.p.b, .int .i64 z.p.c, .int .i64 z.p.d, .int .i64 z.k]] w fun e w' => ∃ (r : Bool) (er : Int), e = .returned (.tuple #[.bool r, .int .i64 er]) ∧ sLess x z = (r, er) ∧ Below w.heap.size w w' := by
  obtain ⟨n, hn⟩ : ∃ n : Int, chks [x, z] = n := ⟨_, rfl⟩
  have Hn := Lib.hid hn
  clear hn
  go_enter Tryz.func22, Tryz.ntmps22
  go_wp2_with fail
  refine (checks_calls [x, z] _ _ (by simp) _ (by simp) (rowAt_two (Blk.at_ ((w.alloc _).alloc _) _ _ (by simp)))).mono ?_
  rintro e w1 ⟨rfl, hb1⟩
  rw [Hn.out]
  have hx1 : Blk w1 w.heap.size 23 #[.int .i64 x.p.a, .int .i64 x.p.b, .int .i64 x.p.c, .int .i64 x.p.d, .int .i64 x.k] := Blk.below (Blk.alloc (Blk.alloc (Blk.new w _ _) _) _) hb1 (by simp <;> omega)
  have hy1 : Blk w1 (w.heap.size + 1) 23 #[.int .i64 z.p.a, .int .i64 z.p.b, .int .i64 z.p.c, .int .i64 z.p.d, .int .i64 z.k] := Blk.below (Blk.alloc (Blk.at_ (w.alloc _) _ _ (by simp)) _) hb1 (by simp <;> omega)
  have hbw1 : Below w.heap.size w w1 := bt hb1 (below3 _ _ _ _) (by simp <;> omega)
  clear hb1
  have hz1 := hy1.lt
  have hz0 : w.heap.size < w1.heap.size := by omega
  by_cases h0 : n = 0
  · obtain ⟨hcx, hcz⟩ := chks_two (Hn.out.trans h0)
    obtain ⟨⟨⟨p1, p2⟩, ⟨p3, p4⟩, ⟨p5, p6⟩, ⟨p7, p8⟩⟩, hkx0, hkx1⟩ := Nm.chk_ok hcx
    obtain ⟨⟨⟨q1, q2⟩, ⟨q3, q4⟩, ⟨q5, q6⟩, ⟨q7, q8⟩⟩, hkz0, hkz1⟩ := Nm.chk_ok hcz
    clear hcx hcz
    have HRx := Lib.hid (fun W => real_calls x.p.a x.p.b x.p.c x.p.d (by omega) (by omega) (by omega) W)
    have HRz := Lib.hid (fun W => real_calls z.p.a z.p.b z.p.c z.p.d (by omega) (by omega) (by omega) W)
    have Hs : Hid (sLess x z = if realB x.p && realB z.p then (if (sSub x z).2 = 0 then (negB (sSub x z).1.p.a (sSub x z).1.p.b, 0) else (false, (sSub x z).2)) else (false, 7)) := by show _ = _; unfold sLess; rw [if_pos (Hn.out.trans h0)]
    obtain ⟨rx, hrx⟩ : ∃ r, realB x.p = r := ⟨_, rfl⟩
    obtain ⟨rz, hrz⟩ : ∃ r, realB z.p = r := ⟨_, rfl⟩
    rw [hrx, hrz] at Hs
    unfold realB at hrx hrz
    rw [hrx] at HRx
    rw [hrz] at HRz
    subst h0
    clear hrx hrz Hn p1 p2 p3 p4 p5 p6 p7 p8 q1 q2 q3 q4 q5 q6 q7 q8 hkx0 hkx1 hkz0 hkz1
    obtain ⟨x0, x1, x2, x3, x4, xf⟩ := hx1.cells5
    go_wp2_with fail
    refine (work_calls _ _ _ _ _ _).mono ?_
    rintro e w2 ⟨rfl, hb2⟩
    have hx1 := hx1.below hb2 hx1.lt
    have hy1 := hy1.below hb2 hy1.lt
    have hbw1 := bt hb2 hbw1 hbw1.size
    clear hb2 x0 x1 x2 x3 x4 xf
    go_wp2_with fail
    refine (parts_calls _ _ _ _ _ _ _).mono ?_
    rintro e w3 ⟨rfl, hb3⟩
    have hx1 := hx1.below hb3 hx1.lt
    have hy1 := hy1.below hb3 hy1.lt
    have hbw1 := bt hb3 hbw1 hbw1.size
    clear hb3
    go_wp2_with fail
    refine (HRx.out _).mono ?_
    rintro e w4 ⟨rfl, hb4⟩
    have hx1 := hx1.below hb4 hx1.lt
    have hy1 := hy1.below hb4 hy1.lt
    have hbw1 := bt hb4 hbw1 hbw1.size
    clear hb4
    cases rx
    · go_wp2_with fail
      go_ret2
      exact ⟨false, 7, rfl, Hs.out, hbw1⟩
    obtain ⟨y0, y1, y2, y3, y4, yf⟩ := hy1.cells5
    go_wp2_with fail
    refine (work_calls _ _ _ _ _ _).mono ?_
    rintro e w5 ⟨rfl, hb5⟩
    have hx1 := hx1.below hb5 hx1.lt
    have hy1 := hy1.below hb5 hy1.lt
    have hbw1 := bt hb5 hbw1 hbw1.size
    clear hb5 y0 y1 y2 y3 y4 yf
    go_wp2_with fail
    refine (parts_calls _ _ _ _ _ _ _).mono ?_
    rintro e w6 ⟨rfl, hb6⟩
    have hx1 := hx1.below hb6 hx1.lt
    have hy1 := hy1.below hb6 hy1.lt
    have hbw1 := bt hb6 hbw1 hbw1.size
    clear hb6
    go_wp2_with fail
    refine (HRz.out _).mono ?_
    rintro e w7 ⟨rfl, hb7⟩
    have hx1 := hx1.below hb7 hx1.lt
    have hy1 := hy1.below hb7 hy1.lt
    have hbw1 := bt hb7 hbw1 hbw1.size
    clear hb7
    cases rz
    · go_wp2_with fail
      go_ret2
      exact ⟨false, 7, rfl, Hs.out, hbw1⟩
    obtain ⟨x0, x1, x2, x3, x4, xf⟩ := hx1.cells5
    obtain ⟨y0, y1, y2, y3, y4, yf⟩ := hy1.cells5
    go_wp2_with fail
    refine (Sub_calls x z _).mono ?_
    rintro e w8 ⟨d, m, rfl, hd, hb8⟩
    have hbw1 := bt hb8 hbw1 hbw1.size
    have Hd := Lib.hid hd
    clear hb8 hd x0 x1 x2 x3 x4 xf y0 y1 y2 y3 y4 yf
    by_cases hm : m = 0
    · subst hm
      obtain ⟨⟨d1, d2, d3, d4⟩, _, _⟩ := Nm.chk_ok (sSub_ok Hd.out)
      go_wp2_with fail
      refine (sign_calls _ _ d1 d2 _).mono ?_
      rintro e w9 ⟨s, rfl, hs, rfl⟩
      have Hs2 := Lib.hid hs
      clear hs
      go_wp2_with fail
      go_ret2
      refine ⟨decide (s < 0), 0, rfl, ?_, hbw1.alloc hbw1.size _⟩
      rw [Hs.out, Hd.out, Hs2.out]; rfl
    · have hmb : (m != 0) = true := by simpa using hm
      have Hm : Hid (¬ m = 0) := hm
      clear hm
      go_wp2_with fail
      go_ret2
      refine ⟨false, m, rfl, ?_, hbw1.alloc hbw1.size _⟩
      rw [Hs.out, Hd.out]
      exact if_neg Hm.out
  · have Hs : Hid (sLess x z = (false, n)) := by show _ = _; unfold sLess; rw [Hn.out, if_neg h0]
    have h0b : (n != 0) = true := by simpa using h0
    clear h0 Hn
    go_wp2_with fail
    go_ret2
    exact ⟨false, n, rfl, Hs.out, hbw1⟩
end Go.Proofs.YtepdnjjfhbjcjaaGreatDoor
end
section
namespace Go.Proofs.YtepdnjjfhbjcjaaGreatDoor
open Go.RowKit
def sDot (x : Nm) : Nm × Int := if x.chk = 0 then (if x.k % 2 = 1 then sNeg ⟨x.p.dot, x.k⟩ else okN (Pt.red x.k.toNat x.p.dot)) else (Nm.zero, x.chk)
set_option maxRecDepth 100000 in
set_option maxHeartbeats 4000000 in
theorem Dot_calls (x : Nm) (w : World) :
    Calls Tryz.prog 20 #[.agg #[.int .i64 x.p.a, .int .i64 x.p.b, .int .i64 x.p.c, .int .i64 x.p.d, .int .i64 x.k]] w fun e w' => ∃ (y : Nm) (er : Int), e = .returned (.tuple #[.agg #[.int .i64 y.p.a, .int .i64 y.p.b, .int .i64 y.p.c, .int .i64 y.p.d, .int .i64 y.k], .int .i64 er]) ∧ sDot x = (y, er) ∧ Below w.heap.size w w' := by
  obtain ⟨n, hn⟩ : ∃ n : Int, x.chk = n := ⟨_, rfl⟩
  have Hn : Hid (Go.Proofs.YtepdnjjfhbjcjaaGreatDoor.chk x.p.a x.p.b x.p.c x.p.d x.k = n) := hn
  have Hn2 : Hid (x.chk = n) := hn
  clear hn
  go_enter Tryz.func20, Tryz.ntmps20
  go_wp2_with fail
  refine (Check_calls _ _ _ _ _ _).mono ?_
  rintro e w1 ⟨rfl, hb1⟩
  rw [Hn.out]
  have hx1 : Blk w1 w.heap.size 23 #[.int .i64 x.p.a, .int .i64 x.p.b, .int .i64 x.p.c, .int .i64 x.p.d, .int .i64 x.k] := Blk.below (Blk.alloc (Blk.new w _ _) _) hb1 (by simp <;> omega)
  have hr1 : Blk w1 (w.heap.size + 1) 23 #[.int .i64 0, .int .i64 0, .int .i64 0, .int .i64 0, .int .i64 0] := Blk.below (Blk.at_ (w.alloc _) _ _ (by simp)) hb1 (by simp)
  have hbw1 : Below w.heap.size w w1 := bt hb1 (below2 _ _ _) (by simp <;> omega)
  clear hb1
  have hz1 := hr1.lt
  have hz0 : w.heap.size < w1.heap.size := by omega
  by_cases h0 : n = 0
  · obtain ⟨hle, hk0, hk1⟩ := Nm.chk_ok (Hn2.out.trans h0)
    obtain ⟨k, hk⟩ : ∃ k : Nat, x.k = k := ⟨x.k.toNat, by omega⟩
    have Hs : Hid (sDot x = if k % 2 = 1 then sNeg ⟨x.p.dot, k⟩ else okN (Pt.red k x.p.dot)) := by
      show _ = _; unfold sDot; rw [if_pos (Hn2.out.trans h0), hk]
      by_cases hk2 : k % 2 = 1
      · rw [if_pos (by omega), if_pos hk2]
      · rw [if_neg (by omega), if_neg hk2]; rfl
    obtain ⟨⟨p1, p2⟩, ⟨p3, p4⟩, ⟨p5, p6⟩, ⟨p7, p8⟩⟩ := hle
    have HC := Lib.hid (fun W => dot_calls x.p.a x.p.b x.p.c x.p.d (by omega) (by omega) W)
    have HL := Lib.hid (fun W => least_nm ⟨x.p.a, -x.p.b, x.p.c, -x.p.d⟩ k 70 (by simp only [Pt.sm]; omega) (by omega) W)
    have HN := Lib.hid (fun W => Neg_calls ⟨⟨x.p.a, -x.p.b, x.p.c, -x.p.d⟩, x.k⟩ W)
    rw [← hk] at HL
    dsimp only at HL HN
    have Hk := Lib.hid hk
    subst h0
    clear hk Hn Hn2 p1 p2 p3 p4 p5 p6 p7 p8
    go_upto_region 4 with fail
    have hx0 := hx1
    have hr0 := hr1
    have hbw0 := hbw1
    have hx1 := hx0.drew
    have hr1 := hr0.drew
    have hbw1 := hbw0.drew
    go_cut [5] (fun s5 wx => ∃ B5, s5 = .pointer (some ⟨B5, 0, none⟩) ∧ w.heap.size + 1 < B5 ∧ Blk wx B5 23 #[.int .i64 x.p.a, .int .i64 (-x.p.b), .int .i64 x.p.c, .int .i64 (-x.p.d), .int .i64 x.k] ∧ Blk wx w.heap.size 23 #[.int .i64 x.p.a, .int .i64 x.p.b, .int .i64 x.p.c, .int .i64 x.p.d, .int .i64 x.k] ∧ Blk wx (w.heap.size + 1) 23 #[.int .i64 0, .int .i64 0, .int .i64 0, .int .i64 0, .int .i64 0] ∧ Below w.heap.size w wx)
    case first =>
      go_region_held3 (fun w' => w'.cell? ⟨w.heap.size, 0, none⟩ = some (.int .i64 x.p.a) ∧ w'.cell? ⟨w.heap.size, 1, none⟩ = some (.int .i64 x.p.b) ∧ w'.cell? ⟨w.heap.size, 2, none⟩ = some (.int .i64 x.p.c) ∧ w'.cell? ⟨w.heap.size, 3, none⟩ = some (.int .i64 x.p.d) ∧ w'.cell? ⟨w.heap.size, 4, none⟩ = some (.int .i64 x.k)) ((with_reducible refine Blk.five (t := 23) ?_) <;> (repeat (first | (with_reducible exact hx1) | ((with_reducible refine Blk.far' ?_ _ ?_); (focus ((try dsimp only); omega))) | (with_reducible refine Blk.alloc ?_ _) | (with_reducible refine Blk.drew ?_))) <;> (with_reducible exact hx0))
        (first
          | (go_at_call 33; (with_reducible refine (work_calls _ _ _ _ _ _).mono ?_); rintro e w1 ⟨rfl, hb1⟩; have hsz := hb1.size; (try simp at hsz); (first | (with_reducible (have hx1 := hx1.below hb1 hx1.lt; have hr1 := hr1.below hb1 hr1.lt; have hbw1 := bt hb1 hbw1 hbw1.size; (try have m1 := m1.below hb1 m1.lt); (try have m2 := m2.below hb1 m2.lt))) | ((with_reducible (have hx1 := (hx1.alloc _).below hb1 (hx1.alloc _).lt; have hr1 := (hr1.alloc _).below hb1 (hr1.alloc _).lt)); have hbw1 := bt hb1 (hbw1.alloc hbw1.size _) (by have := hbw1.size; simp; omega); (first | (have q1 := Nat.ne_of_lt m1.lt; have q2 := Nat.ne_of_gt m1.lt; have m2 := Blk.below (Blk.new _ _ _) hb1 (by simp); have m1 := (m1.alloc _).below hb1 (m1.alloc _).lt) | (have m1 := Blk.below (Blk.new _ _ _) hb1 (by simp)))) | ((with_reducible (have hx1 := ((hx1.alloc _).alloc _).below hb1 ((hx1.alloc _).alloc _).lt; have hr1 := ((hr1.alloc _).alloc _).below hb1 ((hr1.alloc _).alloc _).lt)); have hbw1 := bt hb1 ((hbw1.alloc hbw1.size _).alloc (by have := hbw1.size; simp; omega) _) (by have := hbw1.size; simp; omega); have m1 := Blk.below (Blk.alloc (Blk.new _ _ _) _) hb1 (by simp <;> omega); have m2 := Blk.below (Blk.at_ _ _ _ (World.size_alloc _ _)) hb1 (by simp)) | ((with_reducible (have hx1 := (Blk.drew (hx0.alloc _)).below hb1 (Blk.drew (hx0.alloc _)).lt; have hr1 := (Blk.drew (hr0.alloc _)).below hb1 (Blk.drew (hr0.alloc _)).lt)); have hbw1 := bt hb1 (Below.drew (hbw0.alloc hbw0.size _)) (by have := hbw0.size; simp; omega); have m1 := Blk.below (Blk.drew (Blk.new _ _ _)) hb1 (by simp)) | ((with_reducible (have hx1 := (Blk.drew ((hx0.alloc _).alloc _)).below hb1 (Blk.drew ((hx0.alloc _).alloc _)).lt; have hr1 := (Blk.drew ((hr0.alloc _).alloc _)).below hb1 (Blk.drew ((hr0.alloc _).alloc _)).lt)); have hbw1 := bt hb1 (Below.drew ((hbw0.alloc hbw0.size _).alloc (by have := hbw0.size; simp; omega) _)) (by have := hbw0.size; simp; omega); have m1 := Blk.below (Blk.drew (Blk.alloc (Blk.new _ _ _) _)) hb1 (by simp <;> omega); have m2 := Blk.below (Blk.drew (Blk.at_ _ _ _ (World.size_alloc _ _))) hb1 (by simp))); clear hb1; have hz1 := hr1.lt; (try (clear a0 a1 a2 a3 a4 af)); (try (obtain ⟨a0, a1, a2, a3, a4, af⟩ := m1.cells5)); (try (clear b0 b1 b2 b3 bf)); (try (obtain ⟨b0, b1, b2, b3, bf⟩ := m2.cells4)); (try have lm1 := m1.lt); (try have lm2 := m2.lt))
          | (go_at_call 48; (with_reducible refine (parts_calls _ _ _ _ _ _ _).mono ?_); rintro e w1 ⟨rfl, hb1⟩; have hsz := hb1.size; (try simp at hsz); (first | (with_reducible (have hx1 := hx1.below hb1 hx1.lt; have hr1 := hr1.below hb1 hr1.lt; have hbw1 := bt hb1 hbw1 hbw1.size; (try have m1 := m1.below hb1 m1.lt); (try have m2 := m2.below hb1 m2.lt))) | ((with_reducible (have hx1 := (hx1.alloc _).below hb1 (hx1.alloc _).lt; have hr1 := (hr1.alloc _).below hb1 (hr1.alloc _).lt)); have hbw1 := bt hb1 (hbw1.alloc hbw1.size _) (by have := hbw1.size; simp; omega); (first | (have q1 := Nat.ne_of_lt m1.lt; have q2 := Nat.ne_of_gt m1.lt; have m2 := Blk.below (Blk.new _ _ _) hb1 (by simp); have m1 := (m1.alloc _).below hb1 (m1.alloc _).lt) | (have m1 := Blk.below (Blk.new _ _ _) hb1 (by simp)))) | ((with_reducible (have hx1 := ((hx1.alloc _).alloc _).below hb1 ((hx1.alloc _).alloc _).lt; have hr1 := ((hr1.alloc _).alloc _).below hb1 ((hr1.alloc _).alloc _).lt)); have hbw1 := bt hb1 ((hbw1.alloc hbw1.size _).alloc (by have := hbw1.size; simp; omega) _) (by have := hbw1.size; simp; omega); have m1 := Blk.below (Blk.alloc (Blk.new _ _ _) _) hb1 (by simp <;> omega); have m2 := Blk.below (Blk.at_ _ _ _ (World.size_alloc _ _)) hb1 (by simp)) | ((with_reducible (have hx1 := (Blk.drew (hx0.alloc _)).below hb1 (Blk.drew (hx0.alloc _)).lt; have hr1 := (Blk.drew (hr0.alloc _)).below hb1 (Blk.drew (hr0.alloc _)).lt)); have hbw1 := bt hb1 (Below.drew (hbw0.alloc hbw0.size _)) (by have := hbw0.size; simp; omega); have m1 := Blk.below (Blk.drew (Blk.new _ _ _)) hb1 (by simp)) | ((with_reducible (have hx1 := (Blk.drew ((hx0.alloc _).alloc _)).below hb1 (Blk.drew ((hx0.alloc _).alloc _)).lt; have hr1 := (Blk.drew ((hr0.alloc _).alloc _)).below hb1 (Blk.drew ((hr0.alloc _).alloc _)).lt)); have hbw1 := bt hb1 (Below.drew ((hbw0.alloc hbw0.size _).alloc (by have := hbw0.size; simp; omega) _)) (by have := hbw0.size; simp; omega); have m1 := Blk.below (Blk.drew (Blk.alloc (Blk.new _ _ _) _)) hb1 (by simp <;> omega); have m2 := Blk.below (Blk.drew (Blk.at_ _ _ _ (World.size_alloc _ _))) hb1 (by simp))); clear hb1; have hz1 := hr1.lt; (try (clear a0 a1 a2 a3 a4 af)); (try (obtain ⟨a0, a1, a2, a3, a4, af⟩ := m1.cells5)); (try (clear b0 b1 b2 b3 bf)); (try (obtain ⟨b0, b1, b2, b3, bf⟩ := m2.cells4)); (try have lm1 := m1.lt); (try have lm2 := m2.lt))
          | (go_at_call 49; (with_reducible refine (HC.out _).mono ?_); rintro e w1 ⟨rfl, hb1⟩; have hsz := hb1.size; (try simp at hsz); (first | (with_reducible (have hx1 := hx1.below hb1 hx1.lt; have hr1 := hr1.below hb1 hr1.lt; have hbw1 := bt hb1 hbw1 hbw1.size; (try have m1 := m1.below hb1 m1.lt); (try have m2 := m2.below hb1 m2.lt))) | ((with_reducible (have hx1 := (hx1.alloc _).below hb1 (hx1.alloc _).lt; have hr1 := (hr1.alloc _).below hb1 (hr1.alloc _).lt)); have hbw1 := bt hb1 (hbw1.alloc hbw1.size _) (by have := hbw1.size; simp; omega); (first | (have q1 := Nat.ne_of_lt m1.lt; have q2 := Nat.ne_of_gt m1.lt; have m2 := Blk.below (Blk.new _ _ _) hb1 (by simp); have m1 := (m1.alloc _).below hb1 (m1.alloc _).lt) | (have m1 := Blk.below (Blk.new _ _ _) hb1 (by simp)))) | ((with_reducible (have hx1 := ((hx1.alloc _).alloc _).below hb1 ((hx1.alloc _).alloc _).lt; have hr1 := ((hr1.alloc _).alloc _).below hb1 ((hr1.alloc _).alloc _).lt)); have hbw1 := bt hb1 ((hbw1.alloc hbw1.size _).alloc (by have := hbw1.size; simp; omega) _) (by have := hbw1.size; simp; omega); have m1 := Blk.below (Blk.alloc (Blk.new _ _ _) _) hb1 (by simp <;> omega); have m2 := Blk.below (Blk.at_ _ _ _ (World.size_alloc _ _)) hb1 (by simp)) | ((with_reducible (have hx1 := (Blk.drew (hx0.alloc _)).below hb1 (Blk.drew (hx0.alloc _)).lt; have hr1 := (Blk.drew (hr0.alloc _)).below hb1 (Blk.drew (hr0.alloc _)).lt)); have hbw1 := bt hb1 (Below.drew (hbw0.alloc hbw0.size _)) (by have := hbw0.size; simp; omega); have m1 := Blk.below (Blk.drew (Blk.new _ _ _)) hb1 (by simp)) | ((with_reducible (have hx1 := (Blk.drew ((hx0.alloc _).alloc _)).below hb1 (Blk.drew ((hx0.alloc _).alloc _)).lt; have hr1 := (Blk.drew ((hr0.alloc _).alloc _)).below hb1 (Blk.drew ((hr0.alloc _).alloc _)).lt)); have hbw1 := bt hb1 (Below.drew ((hbw0.alloc hbw0.size _).alloc (by have := hbw0.size; simp; omega) _)) (by have := hbw0.size; simp; omega); have m1 := Blk.below (Blk.drew (Blk.alloc (Blk.new _ _ _) _)) hb1 (by simp <;> omega); have m2 := Blk.below (Blk.drew (Blk.at_ _ _ _ (World.size_alloc _ _))) hb1 (by simp))); clear hb1; have hz1 := hr1.lt; (try (clear a0 a1 a2 a3 a4 af)); (try (obtain ⟨a0, a1, a2, a3, a4, af⟩ := m1.cells5)); (try (clear b0 b1 b2 b3 bf)); (try (obtain ⟨b0, b1, b2, b3, bf⟩ := m2.cells4)); (try have lm1 := m1.lt); (try have lm2 := m2.lt))
          | (go_at_call 47; (with_reducible refine (of_calls _ _ _ _ _ _).mono ?_); rintro e w1 ⟨rfl, hb1⟩; have hsz := hb1.size; (try simp at hsz); (first | (with_reducible (have hx1 := hx1.below hb1 hx1.lt; have hr1 := hr1.below hb1 hr1.lt; have hbw1 := bt hb1 hbw1 hbw1.size; (try have m1 := m1.below hb1 m1.lt); (try have m2 := m2.below hb1 m2.lt))) | ((with_reducible (have hx1 := (hx1.alloc _).below hb1 (hx1.alloc _).lt; have hr1 := (hr1.alloc _).below hb1 (hr1.alloc _).lt)); have hbw1 := bt hb1 (hbw1.alloc hbw1.size _) (by have := hbw1.size; simp; omega); (first | (have q1 := Nat.ne_of_lt m1.lt; have q2 := Nat.ne_of_gt m1.lt; have m2 := Blk.below (Blk.new _ _ _) hb1 (by simp); have m1 := (m1.alloc _).below hb1 (m1.alloc _).lt) | (have m1 := Blk.below (Blk.new _ _ _) hb1 (by simp)))) | ((with_reducible (have hx1 := ((hx1.alloc _).alloc _).below hb1 ((hx1.alloc _).alloc _).lt; have hr1 := ((hr1.alloc _).alloc _).below hb1 ((hr1.alloc _).alloc _).lt)); have hbw1 := bt hb1 ((hbw1.alloc hbw1.size _).alloc (by have := hbw1.size; simp; omega) _) (by have := hbw1.size; simp; omega); have m1 := Blk.below (Blk.alloc (Blk.new _ _ _) _) hb1 (by simp <;> omega); have m2 := Blk.below (Blk.at_ _ _ _ (World.size_alloc _ _)) hb1 (by simp)) | ((with_reducible (have hx1 := (Blk.drew (hx0.alloc _)).below hb1 (Blk.drew (hx0.alloc _)).lt; have hr1 := (Blk.drew (hr0.alloc _)).below hb1 (Blk.drew (hr0.alloc _)).lt)); have hbw1 := bt hb1 (Below.drew (hbw0.alloc hbw0.size _)) (by have := hbw0.size; simp; omega); have m1 := Blk.below (Blk.drew (Blk.new _ _ _)) hb1 (by simp)) | ((with_reducible (have hx1 := (Blk.drew ((hx0.alloc _).alloc _)).below hb1 (Blk.drew ((hx0.alloc _).alloc _)).lt; have hr1 := (Blk.drew ((hr0.alloc _).alloc _)).below hb1 (Blk.drew ((hr0.alloc _).alloc _)).lt)); have hbw1 := bt hb1 (Below.drew ((hbw0.alloc hbw0.size _).alloc (by have := hbw0.size; simp; omega) _)) (by have := hbw0.size; simp; omega); have m1 := Blk.below (Blk.drew (Blk.alloc (Blk.new _ _ _) _)) hb1 (by simp <;> omega); have m2 := Blk.below (Blk.drew (Blk.at_ _ _ _ (World.size_alloc _ _))) hb1 (by simp))); clear hb1; have hz1 := hr1.lt; (try (clear a0 a1 a2 a3 a4 af)); (try (obtain ⟨a0, a1, a2, a3, a4, af⟩ := m1.cells5)); (try (clear b0 b1 b2 b3 bf)); (try (obtain ⟨b0, b1, b2, b3, bf⟩ := m2.cells4)); (try have lm1 := m1.lt); (try have lm2 := m2.lt)))
      all_goals go_wp2_with fail
      all_goals go_meet
      all_goals first
        | exact ⟨_, rfl, hz1, Blk.new _ _ _, hx1.alloc _, hr1.alloc _, hbw1.alloc hbw1.size _⟩
        | exact ⟨_, rfl, by omega, m1.put5, ((((hx1.far (by (try dsimp only); omega) _).far (by (try dsimp only); omega) _).far (by (try dsimp only); omega) _).far (by (try dsimp only); omega) _).far (by (try dsimp only); omega) _,
            ((((hr1.far (by (try dsimp only); omega) _).far (by (try dsimp only); omega) _).far (by (try dsimp only); omega) _).far (by (try dsimp only); omega) _).far (by (try dsimp only); omega) _, below_put5 hbw1 (by omega) _ _ _ _ _⟩
    case rest =>
      clear hx0 hr0 hbw0 hx1 hr1 hbw1
      obtain ⟨B5, rfl, hB5, hd, hx, hr, hb⟩ := hcut
      obtain ⟨x0, x1, x2, x3, x4, xf⟩ := hx.cells5
      obtain ⟨d0, d1, d2, d3, d4, df⟩ := hd.cells5
      rw [Hk.out] at x4
      have hdl := hd.lt
      by_cases hk2 : k % 2 = 1
      · have hk3 : (k : Int) % 2 = 1 := by omega
        have Hs2 : Hid (sDot x = sNeg ⟨x.p.dot, k⟩) := Hs.out.trans (if_pos hk2)
        clear hk2
        go_wp2_with fail
        refine (HN.out _).mono ?_
        rintro e w2 ⟨y, er, rfl, hy, hb2⟩
        have Hy := Lib.hid hy
        have hr1 := hr.below hb2 hr.lt
        have hbw1 := bt hb2 hb hb.size
        clear hy hb2 hx hd hr hb x0 x1 x2 x3 x4 xf d0 d1 d2 d3 d4 df hk3
        obtain ⟨r0, r1, r2, r3, r4, rf⟩ := hr1.cells5
        go_wp2_with fail
        refine bodyPost_ret (v := .tuple #[.agg #[.int .i64 y.p.a, .int .i64 y.p.b, .int .i64 y.p.c, .int .i64 y.p.d, .int .i64 y.k], .int .i64 er]) (by simp [results, Tryz.results20, go_sem, r0, r1, r2, r3, r4]) rfl ⟨y, er, rfl, ?_, ?_⟩
        · rw [Hs2.out, ← Hk.out]; exact Hy.out
        · exact below_put5 hbw1 (by omega) _ _ _ _ _
      · have hk3 : ((k : Int) % 2 == 1) = false := by simp; omega
        have Hs2 : Hid (sDot x = okN (Pt.red k x.p.dot)) := Hs.out.trans (if_neg hk2)
        clear hk2
        go_wp2_with fail
        refine (work_calls _ _ _ _ _ _).mono ?_
        rintro e w2 ⟨rfl, hb2⟩
        have hr1 := hr.below hb2 hr.lt
        have hbw1 := bt hb2 hb hb.size
        clear hb2 hx hd hr hb x0 x1 x2 x3 x4 xf d0 d1 d2 d3 d4 df hk3
        go_wp2_with fail
        refine (HL.out _).mono ?_
        rintro e w3 ⟨y, er, rfl, hy, hb3⟩
        have Hy := Lib.hid hy
        have hr1 := hr1.below hb3 hr1.lt
        have hbw1 := bt hb3 hbw1 hbw1.size
        clear hy hb3
        obtain ⟨r0, r1, r2, r3, r4, rf⟩ := hr1.cells5
        go_wp2_with fail
        refine bodyPost_ret (v := .tuple #[.agg #[.int .i64 y.p.a, .int .i64 y.p.b, .int .i64 y.p.c, .int .i64 y.p.d, .int .i64 y.k], .int .i64 er]) (by simp [results, Tryz.results20, go_sem, r0, r1, r2, r3, r4]) rfl ⟨y, er, rfl, ?_, ?_⟩
        · rw [Hs2.out]; exact Hy.out
        · exact below_put5 hbw1 (by omega) _ _ _ _ _
  · have Hs : Hid (sDot x = (Nm.zero, n)) := by show _ = _; unfold sDot; rw [Hn2.out, if_neg h0]
    have h0b : (n != 0) = true := by simpa using h0
    obtain ⟨r0, r1, r2, r3, r4, rf⟩ := hr1.cells5
    clear h0 Hn Hn2
    go_wp2_with fail
    refine bodyPost_ret (v := .tuple #[.agg #[.int .i64 0, .int .i64 0, .int .i64 0, .int .i64 0, .int .i64 0], .int .i64 n]) (by simp [results, Tryz.results20, go_sem, r0, r1, r2, r3, r4]) rfl ⟨Nm.zero, n, rfl, Hs.out, ?_⟩
    exact below_put5 hbw1 (by omega) _ _ _ _ _
end Go.Proofs.YtepdnjjfhbjcjaaGreatDoor
end
section
namespace Go.Proofs.YtepdnjjfhbjcjaaGreatDoor
open Go.RowKit
attribute [local go_sem high] eqArr
set_option maxRecDepth 100000 in
set_option maxHeartbeats 1000000 in
theorem least_neg_calls (p : Pt) (k : Nat) (f : FuncId) (hs : p.sm 4611686018427387904) (hk1 : 1 ≤ k) (hk : k ≤ 1000) (w : World) :
    Calls Tryz.prog 45 #[.agg #[.int .i64 p.a, .int .i64 p.b, .int .i64 p.c, .int .i64 p.d, .int .i64 (-(k : Int)), .func (.func f) #[] #[]]] w fun e w' =>
      e = .returned (lstRet (Pt.tw k p, 0)) ∧ Below w.heap.size w w' := by
  have Hs := Lib.hid hs
  clear hs
  go_enter Tryz.func45, Tryz.ntmps45
  go_upto_region 1 with fail
  go_cut [4, 5] (fun s4 s5 wx => ∃ B, s4 = .pointer (some ⟨B, 0, none⟩) ∧ s5 = .int .i64 (-(k : Int)) ∧ w.heap.size + 1 < B ∧ Blk wx B 66 #[.int .i64 p.a, .int .i64 p.b, .int .i64 p.c, .int .i64 p.d] ∧
     Blk wx (w.heap.size + 1) 23 #[.int .i64 0, .int .i64 0, .int .i64 0, .int .i64 0, .int .i64 0] ∧ Below w.heap.size w wx)
  case first =>
    go_region_with (go_at_call 48; refine (parts_calls _ _ _ _ _ _ _).mono ?_; rintro e w1 ⟨rfl, hb1⟩; obtain ⟨hc, hf⟩ := bcell hb1; have hz1 : w.heap.size < w1.heap.size := (by have := hb1.size; simp at this; omega); have hz2 : w.heap.size + 1 < w1.heap.size := (by have := hb1.size; simp at this; omega))
    all_goals (go_wp2_with fail; go_meet)
    all_goals first
      | exact ⟨_, rfl, rfl, memA w w1 _ _ _ _ _ hb1⟩
      | exact ⟨_, rfl, rfl, memB w w1 _ _ _ _ _ _ _ _ _ hb1⟩
  case rest =>
    obtain ⟨B, rfl, rfl, hB, hp, hr, hb⟩ := hcut
    have hBB := hp.lt
    obtain ⟨p0, p1, p2, p3, pf⟩ := hp.cells4
    obtain ⟨r0, r1, r2, r3, r4, rf⟩ := hr.cells5
    have Hp := Lib.hid hp
    have Hr := Lib.hid hr
    clear hp hr
    by_cases hz : p = Pt.zero
    · have Hz : Hid (lstRet (Pt.tw k p, 0) = .tuple #[.agg #[.int .i64 0, .int .i64 0, .int .i64 0, .int .i64 0, .int .i64 0], .int .i64 0]) := by
        show _ = _; rw [hz, Pt.tw_zero]; rfl
      have z0 : p.a = 0 := by rw [hz]; rfl
      have z1 : p.b = 0 := by rw [hz]; rfl
      have z2 : p.c = 0 := by rw [hz]; rfl
      have z3 : p.d = 0 := by rw [hz]; rfl
      clear hz
      go_wp2_with fail
      refine bodyPost_ret (v := .tuple #[.agg #[.int .i64 0, .int .i64 0, .int .i64 0, .int .i64 0, .int .i64 0], .int .i64 0]) (by simp [results, Tryz.results45, go_sem, r0, r1, r2, r3, r4]) rfl ⟨by rw [Hz.out], ?_⟩
      exact below_put5 hb (by omega) _ _ _ _ _
    · have hnz : (p.a == 0 && (p.b == 0 && (p.c == 0 && p.d == 0))) = false := by
        rw [Bool.eq_false_iff]; intro h; simp at h; exact hz (Pt.ext' h.1 h.2.1 h.2.2.1 h.2.2.2)
      clear hz
      go_upto_region 4 with fail
      go_cut [6, 7] (fun s6 s7 wx => s6 = .func (.func 91) #[.agg #[.int .i64 p.a, .int .i64 p.b, .int .i64 p.c, .int .i64 p.d]] #[] ∧ s7 = .func (.func 92) #[.agg #[.int .i64 p.a, .int .i64 p.b, .int .i64 p.c, .int .i64 p.d]] #[] ∧ wx = wc.drew)
      case first =>
        go_region
        all_goals (go_wp2_with fail; go_meet; exact ⟨rfl, rfl, rfl⟩)
      case rest =>
        obtain ⟨rfl, rfl, rfl⟩ := hcut
        clear p0 p1 p2 p3 pf r0 r1 r2 r3 r4 rf hnz
        have hj0 : ¬ ((0 : Int) < -(k : Int)) := by omega
        go_wp2_with fail
        refine wp_loop_rounds 1 ?_
        rw [rounds_succ]
        go_wp2_with fail
        go_loopg [5] k (fun g s5 wr => ∃ (q : Pt), s5 = .int .i64 (-(g : Int)) ∧
          Blk wr B 66 #[.int .i64 q.a, .int .i64 q.b, .int .i64 q.c, .int .i64 q.d] ∧
          Blk wr (w.heap.size + 1) 23 #[.int .i64 0, .int .i64 0, .int .i64 0, .int .i64 0, .int .i64 0] ∧ Below w.heap.size w wr ∧ Pt.tw k p = Pt.tw g q ∧ q.sm 4611686018427387904 ∧ g ≤ 1000)
        case atStart => exact ⟨p, rfl, Hp.out.drew, Hr.out.drew, hb.drew, rfl, Hs.out, hk⟩
        case round =>
          clear Hp Hr hb Hs hj0 hk1 hk
          obtain ⟨q, rfl, hq, hr, hb, hred, hsm, hg⟩ := hrel
          have Hred := Lib.hid hred
          clear hred
          have hBB := hq.lt
          obtain ⟨q0, q1, q2, q3, qf⟩ := hq.cells4
          obtain ⟨r0, r1, r2, r3, r4, rf⟩ := hr.cells5
          obtain ⟨⟨s1, s2⟩, ⟨s3, s4⟩, ⟨s5, s6⟩, ⟨s7, s8⟩⟩ := hsm
          by_cases hj : 0 < gk
          · go_wp2_with fail
            refine (within_calls _ _ _ _ _ (by omega) (by omega) _).mono ?_
            rintro e w1 ⟨rfl, hb1⟩
            have hq1 := hq.below hb1 hq.lt
            have hr1 := hr.below hb1 hr.lt
            have hbw1 : Below w.heap.size w w1 := bt hb1 hb hb.size
            have hBB1 := hq1.lt
            clear hq hr hb hb1 hBB q0 q1 q2 q3 qf r0 r1 r2 r3 r4 rf
            obtain ⟨q0, q1, q2, q3, qf⟩ := hq1.cells4
            obtain ⟨r0, r1, r2, r3, r4, rf⟩ := hr1.cells5
            cases hwi : wiB q.a q.b q.c q.d 4294967296
            · have Hno : Hid (lstRet (Pt.tw k p, 0) = .tuple #[.agg #[.int .i64 0, .int .i64 0, .int .i64 0, .int .i64 0, .int .i64 0], .int .i64 8]) := by
                have hn : ¬ q.le 4294967296 := fun h => by rw [(wiB_iff q _).2 h] at hwi; cases hwi
                have hn2 := Pt.not_le_tw gk hn
                show _ = _; unfold lstRet; rw [if_neg]
                rw [Hred.out]; unfold lstOk; intro h
                rw [Bool.and_eq_true] at h
                exact hn2 ((wiB_iff _ _).1 h.1)
              go_wp2_with fail
              refine bodyPost_ret (v := .tuple #[.agg #[.int .i64 0, .int .i64 0, .int .i64 0, .int .i64 0, .int .i64 0], .int .i64 8]) (by simp [results, Tryz.results45, go_sem, r0, r1, r2, r3, r4]) rfl ⟨by rw [Hno.out], ?_⟩
              exact below_put5 hbw1 (by omega) _ _ _ _ _
            · have hle := (wiB_iff q _).1 hwi
              obtain ⟨i, rfl⟩ : ∃ i, gk = i + 1 := ⟨gk - 1, by omega⟩
              have Hstep : Hid (Pt.tw k p = Pt.tw i q.twice ∧ q.twice.sm 4611686018427387904) := ⟨Hred.out, Pt.sm_mono (Pt.le_sm (Pt.le_twice hle)) (by omega)⟩
              clear Hred hwi
              obtain ⟨⟨t1, t2⟩, ⟨t3, t4⟩, ⟨t5, t6⟩, ⟨t7, t8⟩⟩ := hle
              go_wp2_with fail
              refine (twice_calls q.a q.b q.c q.d (by omega) (by omega) (by omega) (by omega) _).mono ?_
              rintro e w2 ⟨rfl, hb2⟩
              have hq2 := hq1.below hb2 hq1.lt
              have hr2 := hr1.below hb2 hr1.lt
              have hbw2 : Below w.heap.size w w2 := bt hb2 hbw1 hbw1.size
              have hBB2 := hq2.lt
              clear hq1 hr1 hbw1 hb2 hBB1 q0 q1 q2 q3 qf r0 r1 r2 r3 r4 rf
              obtain ⟨q0, q1, q2, q3, qf⟩ := hq2.cells4
              go_wp2_with fail
              go_roundg i
              case measure => omega
              case rel => exact ⟨q.twice, congrArg (Value.int .i64) (by omega), hq2.put4, (((hr2.far (by show w.heap.size + 1 ≠ B; omega) _).far (by show w.heap.size + 1 ≠ B; omega) _).far (by show w.heap.size + 1 ≠ B; omega) _).far (by show w.heap.size + 1 ≠ B; omega) _, below_put4 hbw2 (by omega) _ _ _ _, Hstep.out.1, Hstep.out.2, by omega⟩
          · obtain rfl : gk = 0 := by omega
            have Hred : Hid (lstRet (Pt.tw k p, 0) = lstRet (q, 0)) := by show _ = _; rw [Hred.out]; rfl
            go_wp2_with fail
            refine (within_calls _ _ _ _ _ (by omega) (by omega) _).mono ?_
            rintro e w1 ⟨rfl, hb1⟩
            have hq1 := hq.below hb1 hq.lt
            have hr1 := hr.below hb1 hr.lt
            have hbw1 : Below w.heap.size w w1 := bt hb1 hb hb.size
            have hBB1 := hq1.lt
            clear hq hr hb hb1 hBB q0 q1 q2 q3 qf r0 r1 r2 r3 r4 rf
            obtain ⟨q0, q1, q2, q3, qf⟩ := hq1.cells4
            obtain ⟨r0, r1, r2, r3, r4, rf⟩ := hr1.cells5
            cases hwi : wiB q.a q.b q.c q.d 1073741824
            · have Hno : Hid (lstRet (q, 0) = .tuple #[.agg #[.int .i64 0, .int .i64 0, .int .i64 0, .int .i64 0, .int .i64 0], .int .i64 8]) := by
                show _ = _; unfold lstRet; rw [if_neg]; simp [lstOk, hwi]
              go_wp2_with fail
              refine bodyPost_ret (v := .tuple #[.agg #[.int .i64 0, .int .i64 0, .int .i64 0, .int .i64 0, .int .i64 0], .int .i64 8]) (by simp [results, Tryz.results45, go_sem, r0, r1, r2, r3, r4]) rfl ⟨by rw [Hred.out, Hno.out], ?_⟩
              exact below_put5 hbw1 (by omega) _ _ _ _ _
            · have Hyes : Hid (lstRet (q, 0) = .tuple #[.agg #[.int .i64 q.a, .int .i64 q.b, .int .i64 q.c, .int .i64 q.d, .int .i64 0], .int .i64 0]) := by
                show _ = _; unfold lstRet; rw [if_pos (by simp [lstOk, hwi])]; rfl
              go_wp2_with fail
              refine (of_calls _ _ _ _ _ _).mono ?_
              rintro e w2 ⟨rfl, hb2⟩
              have hr2 := hr1.below hb2 hr1.lt
              have hbw2 : Below w.heap.size w w2 := bt hb2 hbw1 hbw1.size
              clear hr1 hbw1 hb2 hq1 hBB1 q0 q1 q2 q3 qf r0 r1 r2 r3 r4 rf
              obtain ⟨r0, r1, r2, r3, r4, rf⟩ := hr2.cells5
              go_wp2_with fail
              refine bodyPost_ret (v := .tuple #[.agg #[.int .i64 q.a, .int .i64 q.b, .int .i64 q.c, .int .i64 q.d, .int .i64 0], .int .i64 0]) (by simp [results, Tryz.results45, go_sem, r0, r1, r2, r3, r4]) rfl ⟨by rw [Hred.out, Hyes.out], ?_⟩
              exact below_put5 hbw2 (by omega) _ _ _ _ _
theorem least_z (p : Pt) (k : Int) (f : FuncId) (hs : p.sm 4611686018427387904) (hk : -1000 ≤ k ∧ k ≤ 1000) (w : World) :
    Calls Tryz.prog 45 #[.agg #[.int .i64 p.a, .int .i64 p.b, .int .i64 p.c, .int .i64 p.d, .int .i64 k, .func (.func f) #[] #[]]] w fun e w' =>
      ∃ (y : Nm) (er : Int), e = .returned (.tuple #[.agg #[.int .i64 y.p.a, .int .i64 y.p.b, .int .i64 y.p.c, .int .i64 y.p.d, .int .i64 y.k], .int .i64 er]) ∧ okN (Pt.lz k p) = (y, er) ∧ Below w.heap.size w w' := by
  by_cases h : k < 0
  · obtain ⟨n, rfl⟩ : ∃ n : Nat, k = -(n : Int) := ⟨(-k).toNat, by omega⟩
    refine (least_neg_calls p n f hs (by omega) (by omega) w).mono fun _ _ ⟨he, hb⟩ => ⟨(okN (Pt.lz (-(n : Int)) p)).1, (okN (Pt.lz (-(n : Int)) p)).2, ?_, rfl, hb⟩
    have hl : Pt.lz (-(n : Int)) p = (Pt.tw n p, 0) := by unfold Pt.lz; rw [if_pos h]; congr 2; omega
    rw [he, hl, lstRet_okN]
  · obtain ⟨n, rfl⟩ : ∃ n : Nat, k = (n : Int) := ⟨k.toNat, by omega⟩
    refine (least_nm p n f hs (by omega) w).mono fun _ _ ⟨y, er, he, hy, hb⟩ => ⟨y, er, he, ?_, hb⟩
    rw [← hy]; unfold Pt.lz; rw [if_neg h]; rfl
end Go.Proofs.YtepdnjjfhbjcjaaGreatDoor
end
