import Derived.Laws.StructEq
import Derived.DeepKeys
import Derived.Deep.RegionHeld3
import Derived.Deep.RegionWith
import Derived.Test.YtepdnjjfhbjcjaaGreatDoorC3
set_option linter.all false
section
namespace Go.Proofs.YtepdnjjfhbjcjaaGreatDoor
open Go.RowKit
theorem tdiv_even {x : Int} (h : x % 2 = 0) : x.tdiv 2 = x / 2 := by
  obtain ⟨y, rfl⟩ : ∃ y, x = 2 * y := ⟨x / 2, by omega⟩
  rw [Int.mul_tdiv_cancel_left _ (by decide)]
  omega
theorem tmod_two {x : Int} : x.tmod 2 = 0 ↔ x % 2 = 0 := by
  rw [Int.tmod_eq_emod]
  split <;> omega
theorem bt {B : Nat} {a X w1 : World} (hb : Below X.heap.size X w1) (h : Below B a X) (hB : B ≤ X.heap.size) : Below B a w1 := h.trans (hb.mono hB)
set_option maxHeartbeats 400000 in
theorem work_calls (a b c d k : Int) (w : World) :
    Calls Tryz.prog 33 #[.agg #[.int .i64 a, .int .i64 b, .int .i64 c, .int .i64 d, .int .i64 k]] w fun e w' =>
      e = .returned (.agg #[.int .i64 a, .int .i64 b, .int .i64 c, .int .i64 d, .int .i64 k, .func (.func 70) #[] #[]]) ∧ Below w.heap.size w w' := by
  go_enter Tryz.func33, Tryz.ntmps33
  go_wp2
  refine bodyPost_ret (v := .agg #[.int .i64 a, .int .i64 b, .int .i64 c, .int .i64 d, .int .i64 k, .func (.func 70) #[] #[]]) ?_ rfl ⟨rfl, below2 _ _ _⟩
  simp [results, Tryz.results33, go_sem]
set_option maxHeartbeats 400000 in
theorem parts_calls (a b c d k : Int) (f : FuncId) (w : World) :
    Calls Tryz.prog 48 #[.agg #[.int .i64 a, .int .i64 b, .int .i64 c, .int .i64 d, .int .i64 k, .func (.func f) #[] #[]]] w fun e w' =>
      e = .returned (.agg #[.int .i64 a, .int .i64 b, .int .i64 c, .int .i64 d]) ∧ Below w.heap.size w w' := by
  go_enter Tryz.func48, Tryz.ntmps48
  go_wp2
  refine bodyPost_ret (v := .agg #[.int .i64 a, .int .i64 b, .int .i64 c, .int .i64 d]) ?_ rfl ⟨rfl, below2 _ _ _⟩
  simp [results, Tryz.results48, go_sem]
set_option maxHeartbeats 400000 in
theorem of_calls (a b c d k : Int) (w : World) :
    Calls Tryz.prog 47 #[.agg #[.int .i64 a, .int .i64 b, .int .i64 c, .int .i64 d], .int .i64 k] w fun e w' =>
      e = .returned (.agg #[.int .i64 a, .int .i64 b, .int .i64 c, .int .i64 d, .int .i64 k]) ∧ Below w.heap.size w w' := by
  go_enter Tryz.func47, Tryz.ntmps47
  go_wp2
  refine bodyPost_ret (v := .agg #[.int .i64 a, .int .i64 b, .int .i64 c, .int .i64 d, .int .i64 k]) ?_ rfl ⟨rfl, below2 _ _ _⟩
  simp [results, Tryz.results47, go_sem]
set_option maxHeartbeats 400000 in
theorem conj_calls (a b c d : Int) (h0 : -9000000000000000000 ≤ b ∧ b ≤ 9000000000000000000) (h1 : -9000000000000000000 ≤ c ∧ c ≤ 9000000000000000000) (h2 : -9000000000000000000 ≤ d ∧ d ≤ 9000000000000000000) (w : World) :
    Calls Tryz.prog 57 #[.agg #[.int .i64 a, .int .i64 b, .int .i64 c, .int .i64 d]] w fun e w' =>
      e = .returned (.agg #[.int .i64 a, .int .i64 (-d), .int .i64 (-c), .int .i64 (-b)]) ∧ Below w.heap.size w w' := by
  go_enter Tryz.func57, Tryz.ntmps57
  go_wp2
  refine bodyPost_ret (v := .agg #[.int .i64 a, .int .i64 (-d), .int .i64 (-c), .int .i64 (-b)]) ?_ rfl ⟨rfl, below2 _ _ _⟩
  simp [results, Tryz.results57, go_sem]
set_option maxHeartbeats 400000 in
theorem dot_calls (a b c d : Int) (h0 : -9000000000000000000 ≤ b ∧ b ≤ 9000000000000000000) (h1 : -9000000000000000000 ≤ d ∧ d ≤ 9000000000000000000) (w : World) :
    Calls Tryz.prog 49 #[.agg #[.int .i64 a, .int .i64 b, .int .i64 c, .int .i64 d]] w fun e w' =>
      e = .returned (.agg #[.int .i64 a, .int .i64 (-b), .int .i64 c, .int .i64 (-d)]) ∧ Below w.heap.size w w' := by
  go_enter Tryz.func49, Tryz.ntmps49
  go_wp2
  refine bodyPost_ret (v := .agg #[.int .i64 a, .int .i64 (-b), .int .i64 c, .int .i64 (-d)]) ?_ rfl ⟨rfl, below2 _ _ _⟩
  simp [results, Tryz.results49, go_sem]
set_option maxHeartbeats 400000 in
theorem twice_calls (a b c d : Int) (h0 : -9000000000000000000 ≤ b - d ∧ b - d ≤ 9000000000000000000) (h1 : -9000000000000000000 ≤ a + c ∧ a + c ≤ 9000000000000000000) (h2 : -9000000000000000000 ≤ b + d ∧ b + d ≤ 9000000000000000000) (h3 : -9000000000000000000 ≤ c - a ∧ c - a ≤ 9000000000000000000) (w : World) :
    Calls Tryz.prog 93 #[.agg #[.int .i64 a, .int .i64 b, .int .i64 c, .int .i64 d]] w fun e w' =>
      e = .returned (.agg #[.int .i64 (b - d), .int .i64 (a + c), .int .i64 (b + d), .int .i64 (c - a)]) ∧ Below w.heap.size w w' := by
  go_enter Tryz.func93, Tryz.ntmps93
  go_wp2
  refine bodyPost_ret (v := .agg #[.int .i64 (b - d), .int .i64 (a + c), .int .i64 (b + d), .int .i64 (c - a)]) ?_ rfl ⟨rfl, below2 _ _ _⟩
  simp [results, Tryz.results93, go_sem]
theorem plainInt : Tryz.prog.plainKey 3 = true := by kernel_rfl
theorem eqArr (d : Nat) (w : World) (x0 x1 x2 x3 y0 y1 y2 y3 : Int) :
    (Op.equalIn (d + 2) 66 (.agg #[.int .i64 x0, .int .i64 x1, .int .i64 x2, .int .i64 x3]) (.agg #[.int .i64 y0, .int .i64 y1, .int .i64 y2, .int .i64 y3])).run Tryz.prog w
      = .ok (x0 == y0 && (x1 == y1 && (x2 == y2 && x3 == y3))) w := by
  have h0 : ∀ (w : World) a b, (Op.equalIn (d + 1) 3 (.int .i64 a) (.int .i64 b)).run Tryz.prog w = .ok (a == b) w := fun w a b => run_equalIn_int w d 3 .i64 .i64 a b Tryz.underlying3
  obtain ⟨i, hi⟩ := info_of_underlying Tryz.underlying3
  rw [run_equalIn_array w (d + 1) _ _ Tryz.underlying66 hi]
  have hp : ∀ (w : World) (xs : Array Value) (off : Nat) (v : Value), xs[off]? = some v → (part 3 xs off).run Tryz.prog w = .ok v w := fun w xs off v h => run_part_plain w plainInt h
  have hc : Tryz.prog.cellsOf 3 = 1 := by kernel_rfl
  rw [hc]
  show (Op.eqItems (d + 1) 3 1 _ _ [0, 1, 2, 3]).run _ _ = _
  simp only [Op.eqItems, Sem.run_bind]
  rw [hp _ _ _ (.int .i64 x0) rfl, Result.andThen_ok, hp _ _ _ (.int .i64 y0) rfl]
  simp only [Result.andThen_ok, h0]
  cases x0 == y0
  · simp
  simp only [Bool.not_true, Bool.false_eq_true, if_false, Sem.run_bind, Bool.true_and]
  rw [hp _ _ _ (.int .i64 x1) rfl, Result.andThen_ok, hp _ _ _ (.int .i64 y1) rfl]
  simp only [Result.andThen_ok, h0]
  cases x1 == y1
  · simp
  simp only [Bool.not_true, Bool.false_eq_true, if_false, Sem.run_bind, Bool.true_and]
  rw [hp _ _ _ (.int .i64 x2) rfl, Result.andThen_ok, hp _ _ _ (.int .i64 y2) rfl]
  simp only [Result.andThen_ok, h0]
  cases x2 == y2
  · simp
  simp only [Bool.not_true, Bool.false_eq_true, if_false, Sem.run_bind, Bool.true_and]
  rw [hp _ _ _ (.int .i64 x3) rfl, Result.andThen_ok, hp _ _ _ (.int .i64 y3) rfl]
  simp only [Result.andThen_ok, h0]
  cases x3 == y3
  · simp
  simp
theorem eqFld {P : Program} {d : Nat} {xs ys : Array Value} {f : Field} {fs : List Field} {a b : Value} {r s : Bool} {w : World} (hn : f.name ≠ "_")
    (ha : (part f.type xs f.offset).run P w = .ok a w) (hb : (part f.type ys f.offset).run P w = .ok b w) (he : (Op.equalIn d f.type a b).run P w = .ok r w)
    (hr : (Op.eqFields d xs ys fs).run P w = .ok s w) : (Op.eqFields d xs ys (f :: fs)).run P w = .ok (r && s) w := by
  rw [Op.eqFields]
  simp only [if_pos hn, Sem.run_bind, ha, hb, he, Result.andThen_ok]
  cases r
  · simp
  · simpa using hr
theorem eqStr {P : Program} {d : Nat} {xs ys : Array Value} {r : Bool} {w : World} {t : TypeId} {fs : Array Field} (hu : P.underlying t = some (.struct fs)) (hp : P.stoodInHeld t = false) (h : (Op.eqFields d xs ys fs.toList).run P w = .ok r w) :
    (Op.equalIn (d + 1) t (.agg xs) (.agg ys)).run P w = .ok r w := by
  have hf : P.fieldsOf t = fs := by simp [Program.fieldsOf, hu]
  rw [run_equalIn_struct (P := P) w d t xs ys (by rw [hf]; exact hu) hp, hf]
  exact h
theorem eqNum (d : Nat) (w : World) (x0 x1 x2 x3 x4 y0 y1 y2 y3 y4 : Int) :
    (Op.equalIn (d + 2) 23 (.agg #[.int .i64 x0, .int .i64 x1, .int .i64 x2, .int .i64 x3, .int .i64 x4]) (.agg #[.int .i64 y0, .int .i64 y1, .int .i64 y2, .int .i64 y3, .int .i64 y4])).run Tryz.prog w
      = .ok (x0 == y0 && (x1 == y1 && (x2 == y2 && (x3 == y3 && (x4 == y4 && true))))) w := by
  have h0 : ∀ (w : World) a b, (Op.equalIn (d + 1) 3 (.int .i64 a) (.int .i64 b)).run Tryz.prog w = .ok (a == b) w := fun w a b => run_equalIn_int w d 3 .i64 .i64 a b Tryz.underlying3
  have hp : ∀ (w : World) (xs : Array Value) (off : Nat) (v : Value), xs[off]? = some v → (part 3 xs off).run Tryz.prog w = .ok v w := fun w xs off v h => run_part_plain w plainInt h
  refine eqStr Tryz.underlying23 (by kernel_rfl) ?_
  refine eqFld (by decide) (hp _ _ _ _ rfl) (hp _ _ _ _ rfl) (h0 _ _ _) ?_
  refine eqFld (by decide) (hp _ _ _ _ rfl) (hp _ _ _ _ rfl) (h0 _ _ _) ?_
  refine eqFld (by decide) (hp _ _ _ _ rfl) (hp _ _ _ _ rfl) (h0 _ _ _) ?_
  refine eqFld (by decide) (hp _ _ _ _ rfl) (hp _ _ _ _ rfl) (h0 _ _ _) ?_
  refine eqFld (by decide) (hp _ _ _ _ rfl) (hp _ _ _ _ rfl) (h0 _ _ _) ?_
  simp [Op.eqFields]
set_option maxHeartbeats 400000 in
theorem half_calls (a b c d : Int) (he : (a - c) % 2 = 0) (he2 : (b - d) % 2 = 0) (h0 : -9000000000000000000 ≤ b - d ∧ b - d ≤ 9000000000000000000) (h1 : -9000000000000000000 ≤ a + c ∧ a + c ≤ 9000000000000000000) (h2 : -9000000000000000000 ≤ b + d ∧ b + d ≤ 9000000000000000000) (h3 : -9000000000000000000 ≤ c - a ∧ c - a ≤ 9000000000000000000) (w : World) :
    Calls Tryz.prog 91 #[.agg #[.int .i64 a, .int .i64 b, .int .i64 c, .int .i64 d]] w fun e w' =>
      e = .returned (.agg #[.int .i64 ((b - d) / 2), .int .i64 ((a + c) / 2), .int .i64 ((b + d) / 2), .int .i64 ((c - a) / 2)]) ∧ Below w.heap.size w w' := by
  have q1 := tdiv_even he2
  have q2 : (a + c).tdiv 2 = (a + c) / 2 := tdiv_even (by omega)
  have q3 : (b + d).tdiv 2 = (b + d) / 2 := tdiv_even (by omega)
  have q4 : (c - a).tdiv 2 = (c - a) / 2 := tdiv_even (by omega)
  clear he he2
  go_enter Tryz.func91, Tryz.ntmps91
  go_wp2
  refine bodyPost_ret (v := .agg #[.int .i64 ((b - d) / 2), .int .i64 ((a + c) / 2), .int .i64 ((b + d) / 2), .int .i64 ((c - a) / 2)]) ?_ rfl ⟨rfl, below2 _ _ _⟩
  simp [results, Tryz.results91, go_sem]
set_option maxHeartbeats 400000 in
theorem even_calls (a b c d : Int) (h0 : -9000000000000000000 ≤ a - c ∧ a - c ≤ 9000000000000000000) (h1 : -9000000000000000000 ≤ b - d ∧ b - d ≤ 9000000000000000000) (w : World) :
    Calls Tryz.prog 92 #[.agg #[.int .i64 a, .int .i64 b, .int .i64 c, .int .i64 d]] w fun e w' =>
      e = .returned (.bool (Pt.ev ⟨a, b, c, d⟩)) ∧ Below w.heap.size w w' := by
  by_cases hz : (a - c) % 2 = 0
  · by_cases hy : (b - d) % 2 = 0
    · have Hv : Hid (Pt.ev ⟨a, b, c, d⟩ = true) := by show _ = _; simp [Pt.ev, hz, hy]
      have q1 : (a - c).tmod 2 = 0 := tmod_two.2 hz
      have q2 : (b - d).tmod 2 = 0 := tmod_two.2 hy
      clear hz hy
      go_enter Tryz.func92, Tryz.ntmps92
      go_wp2
      go_ret
      exact ⟨by rw [Hv.out]; rfl, below1 _ _⟩
    · have Hv : Hid (Pt.ev ⟨a, b, c, d⟩ = false) := by show _ = _; simp [Pt.ev, hy]
      have q1 : (a - c).tmod 2 = 0 := tmod_two.2 hz
      have q2 : ((b - d).tmod 2 == 0) = false := by simpa using fun h => hy (tmod_two.1 h)
      clear hz hy
      go_enter Tryz.func92, Tryz.ntmps92
      go_wp2
      go_ret
      exact ⟨by rw [Hv.out]; rfl, below1 _ _⟩
  · have Hv : Hid (Pt.ev ⟨a, b, c, d⟩ = false) := by show _ = _; simp [Pt.ev, hz]
    have q1 : ((a - c).tmod 2 == 0) = false := by simpa using fun h => hz (tmod_two.1 h)
    clear hz
    go_enter Tryz.func92, Tryz.ntmps92
    go_wp2
    go_ret
    exact ⟨by rw [Hv.out]; rfl, below1 _ _⟩
attribute [local go_sem high] eqArr
set_option maxHeartbeats 400000 in
theorem real_calls (a b c d : Int) (h0 : -9000000000000000000 ≤ b ∧ b ≤ 9000000000000000000) (h1 : -9000000000000000000 ≤ c ∧ c ≤ 9000000000000000000) (h2 : -9000000000000000000 ≤ d ∧ d ≤ 9000000000000000000) (w : World) :
    Calls Tryz.prog 52 #[.agg #[.int .i64 a, .int .i64 b, .int .i64 c, .int .i64 d]] w fun e w' =>
      e = .returned (.bool (b == -d && (c == -c && d == -b))) ∧ Below w.heap.size w w' := by
  go_enter Tryz.func52, Tryz.ntmps52
  go_wp2_with fail
  go_region_with (go_at_call 57; refine (conj_calls _ _ _ _ (by omega) (by omega) (by omega) _).mono ?_; rintro e w1 ⟨rfl, hb1⟩; obtain ⟨hc, hf⟩ := bcell hb1)
  all_goals go_wp2
  all_goals go_ret
  all_goals exact ⟨rfl, bt hb1 (below1 _ _).drew (by simp)⟩
end Go.Proofs.YtepdnjjfhbjcjaaGreatDoor
end
section
namespace Go.Proofs.YtepdnjjfhbjcjaaGreatDoor
open Go.RowKit
def chk (a b c d k : Int) : Int := if k < 0 ∨ 60 < k then 3 else if wiB a b c d 1073741824 then 0 else 8
set_option maxHeartbeats 400000 in
theorem Check_calls (a b c d k : Int) (w : World) :
    Calls Tryz.prog 44 #[.agg #[.int .i64 a, .int .i64 b, .int .i64 c, .int .i64 d, .int .i64 k]] w fun e w' =>
      e = .returned (.int .i64 (chk a b c d k)) ∧ Below w.heap.size w w' := by
  by_cases hk : k < 0
  · have Hv : Hid (chk a b c d k = 3) := by show _ = _; simp [chk, hk]
    go_enter Tryz.func44, Tryz.ntmps44
    go_wp2
    go_ret
    exact ⟨by rw [Hv.out]; rfl, below1 _ _⟩
  by_cases hk2 : 60 < k
  · have Hv : Hid (chk a b c d k = 3) := by show _ = _; simp [chk, hk2]
    go_enter Tryz.func44, Tryz.ntmps44
    go_wp2
    go_ret
    exact ⟨by rw [Hv.out]; rfl, below1 _ _⟩
  have Hv : Hid (chk a b c d k = if wiB a b c d 1073741824 then 0 else 8) := by show _ = _; unfold chk; rw [if_neg (by omega)]
  go_enter Tryz.func44, Tryz.ntmps44
  go_wp2_with fail
  refine (work_calls _ _ _ _ _ _).mono ?_
  rintro e w1 ⟨rfl, hb1⟩
  have hz1 := hb1.size; try simp at hz1
  go_wp2_with fail
  refine (parts_calls _ _ _ _ _ _ _).mono ?_
  rintro e w2 ⟨rfl, hb2⟩
  have hz2 := hb2.size; try simp at hz2
  go_wp2_with fail
  refine (within_calls _ _ _ _ _ (by omega) (by omega) _).mono ?_
  rintro e w3 ⟨rfl, hb3⟩
  have hz3 := hb3.size; try simp at hz3
  cases hw : wiB a b c d 1073741824
  · go_wp2
    go_ret
    exact ⟨by rw [Hv.out, hw]; rfl, bt hb3 (bt hb2 (bt hb1 (below1 _ _) (by simp)) (by omega)) (by omega)⟩
  · go_wp2
    go_ret
    exact ⟨by rw [Hv.out, hw]; rfl, bt hb3 (bt hb2 (bt hb1 (below1 _ _) (by simp)) (by omega)) (by omega)⟩
end Go.Proofs.YtepdnjjfhbjcjaaGreatDoor
end
