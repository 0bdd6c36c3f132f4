import Derived.Laws.StructEq
import Derived.Lib.Bytealg
import Derived.Test.YtonnegkpjmhomaaGreatDoorDLaid4
import Derived.Test.YtonnegkpjmhomaaGreatDoorDLaid5
set_option linter.all false
section
namespace Go.Proofs.YtonnegkpjmhomaaGreatDoor
open Go.RowKit
theorem run_equalIn_bools {P : Program} {w : World} (d n : Nat) (t e : TypeId) (f g : Nat → Bool) (ht : P.underlying t = some (.array n e)) (he : P.underlying e = some .bool) (hs : (sizeOf e).run P w = .ok 1 w)
    (hp : ∀ (xs : Array Value) (i : Nat) (b : Bool), xs[i]? = some (.bool b) → (part e xs i).run P w = .ok (.bool b) w) (xs ys : Array Value) (hx : ∀ i, i < n → xs[i]? = some (.bool (f i))) (hy : ∀ i, i < n → ys[i]? = some (.bool (g i))) :
    (Op.equalIn (d + 2) t (.agg xs) (.agg ys)).run P w = .ok ((List.range n).all fun i => f i == g i) w := by
  rw [Op.equalIn]
  simp only [Sem.run_bind, run_underlying ht, Result.andThen_ok, hs]
  rw [Std.Legacy.Range.forIn_eq_forIn_range']
  have key : ∀ (m k : Nat), k + m = n → ((forIn (m := Sem) (List.range' k m 1) ((none : Option Bool), ()) fun i _ => do
            let a ← part e xs (i * 1)
            let b ← part e ys (i * 1)
            let r ← Op.equalIn (d + 1) e a b
            if (!r) = true then pure (ForInStep.done (some false, ())) else pure (ForInStep.yield (none, ()))).run P w) = .ok (if (List.range' k m).all (fun i => f i == g i) then (none, ()) else (some false, ())) w := by
    intro m
    induction m with
    | zero => intro k _; simp
    | succ m ih =>
      intro k hk
      have e1 := hp xs k (f k) (hx k (by omega))
      have e2 := hp ys k (g k) (hy k (by omega))
      simp only [List.range'_succ, List.forIn_cons, Sem.run_bind, Nat.mul_one, e1, e2, Result.andThen_ok, run_equalIn_bool' w d e (f k) (g k) he, List.all_cons]
      cases hq : (f k == g k)
      · simp
      · rw [Bool.true_and]; simpa using ih (k + 1) (by omega)
  have h0 := key n 0 (by omega)
  have hr : List.range' ([:n] : Std.Legacy.Range).start ([:n] : Std.Legacy.Range).size ([:n] : Std.Legacy.Range).step = List.range' 0 n 1 := by simp [Std.Legacy.Range.size]
  rw [hr, h0, ← List.range_eq_range']
  cases (List.range n).all fun i => f i == g i <;> simp
theorem eq_mk' (d : Nat) (c e : UInt8) (w : World) : (Op.equalIn (d + 2) 184 (.agg (mk [c])) (.agg (mk [e]))).run Tryz.prog w = .ok (c == e) w := by
  have hm : ∀ (x : UInt8) (i : Nat), i < 256 → (mk [x])[i]? = some (.bool (x.toNat == i)) := fun x i hi => by
    unfold mk
    rw [List.getElem?_toArray, List.getElem?_map, List.getElem?_range hi]
    simp
  have h := run_equalIn_bools (P := Tryz.prog) (w := w) d 256 184 4 (fun i => c.toNat == i) (fun i => e.toNat == i) Tryz.underlying184 Tryz.underlying4 (by kernel_rfl)
    (fun xs i b hb => by
      have hb2 : (isAgg 4).run Tryz.prog w = .ok false w := by kernel_rfl
      unfold part
      rw [Sem.run_bind, hb2]
      simp [hb]) _ _ (hm c) (hm e)
  refine Eq.trans h (congrArg (fun b => Result.ok b w) ?_)
  rw [Bool.eq_iff_iff]
  simp only [List.all_eq_true, List.mem_range, beq_iff_eq]
  constructor
  · intro h0
    have := h0 e.toNat e.toNat_lt
    simp only [beq_self_eq_true, beq_iff_eq] at this
    exact UInt8.toNat_inj.1 this
  · rintro rfl i _
    rfl
theorem eq_mk (c e : UInt8) (w : World) : (Op.equalIn 10000 184 (.agg (mk [c])) (.agg (mk [e]))).run Tryz.prog w = .ok (c == e) w := by
  have h := eq_mk' 9998 c e w
  generalize hd : 9998 + 2 = d at h
  rw [show 10000 = d from hd]
  exact h
theorem IndexByte_calls (l : List UInt8) (w : World) :
    Calls Tryz.prog 138 #[.string (bs l), .int .u8 10] w fun e w' => e = .returned (.int .i64 (Lib.indexByte l 10)) ∧ w = w' :=
  (Tryz.strings_IndexByte (bs l) 10 w).mono fun _ _ ⟨he, hw⟩ => ⟨by rw [he, bs_list]; rfl, hw.symm⟩
theorem bs_extract (l : List UInt8) (a b : Nat) : (bs l).extract a b = bs ((l.drop a).take (b - a)) := by
  have h := Lib.extract_data (bs l) a b
  rw [bs_list] at h
  rw [← h]
  rfl
theorem lay_none : ∀ {r : List UInt8}, Lib.indexByte r 10 = -1 → lay true r = r.length
  | [], _ => rfl
  | b :: r, h => by
    unfold Lib.indexByte at h
    by_cases hb : b = 10
    · subst hb; simp at h
    · have hb2 : (b == 10) = false := by simpa using hb
      rw [hb2, if_neg (by decide)] at h
      have hr : Lib.indexByte r 10 = -1 := by
        by_cases h1 : Lib.indexByte r 10 = -1
        · exact h1
        · rw [if_neg (by simpa using h1)] at h
          have := Lib.indexByte_ge r 10
          omega
      have hb3 : (b != 10) = true := by simpa using hb
      rw [lay, hb3, lay_none hr, List.length_cons]
      omega
theorem lay_some : ∀ {r : List UInt8} {i : Nat}, Lib.indexByte r 10 = (i : Int) → lay true r = i + lay false (r.drop i) ∧ i < r.length
  | [], i, h => by unfold Lib.indexByte at h; omega
  | b :: r, i, h => by
    unfold Lib.indexByte at h
    by_cases hb : b = 10
    · subst hb
      have h : (0 : Int) = i := h
      obtain rfl : i = 0 := by omega
      simp [lay, isB]
    · have hb2 : (b == 10) = false := by simpa using hb
      rw [hb2, if_neg (by decide)] at h
      by_cases h1 : Lib.indexByte r 10 = -1
      · rw [if_pos (by simpa using h1)] at h; omega
      · rw [if_neg (by simpa using h1)] at h
        have := Lib.indexByte_ge r 10
        obtain ⟨j, rfl⟩ : ∃ j, i = j + 1 := ⟨i - 1, by omega⟩
        have hr := lay_some (r := r) (i := j) (by omega)
        have hb3 : (b != 10) = true := by simpa using hb
        rw [lay, hb3, hr.1, List.length_cons, List.drop_succ_cons]
        omega
set_option maxRecDepth 100000 in
set_option maxHeartbeats 2000000 in
theorem layout_calls (l : List UInt8) (hl : l.length ≤ 1000000) (i : Nat) (hi : i ≤ l.length) (w : World) :
    Calls Tryz.prog 96 #[.string (bs l), .int .i64 i] w fun e w' => e = .returned (.int .i64 ((i + lay false (l.drop i) : Nat) : Int)) ∧ Below w.heap.size w w' := by
  have hsz : (bs l).size = l.length := bs_size l
  go_enter Tryz.func96, Tryz.ntmps96
  go_wp2_with fail
  refine (space_calls _).mono ?_
  rintro e w0 ⟨rfl, hb0⟩
  go_wp2_with fail
  go_loopw [1, 6] (fun s1 _ wr => ∃ k : Nat, k ≤ l.length ∧ s1 = .int .i64 k ∧ i + lay false (l.drop i) = k + lay false (l.drop k) ∧ Below w.heap.size w wr) (fun s1 _ _ => l.length - (intOf s1).toNat)
  case atStart => exact ⟨i, hi, rfl, rfl, hb0⟩
  case round =>
    obtain ⟨k, hk, rfl, he, hb⟩ := hrel
    have He := Lib.hid he
    clear he
    by_cases hlt : k < l.length
    · obtain ⟨c, hc, hg⟩ := drop_cons_get hlt
      have Hc := Lib.hid hc
      clear hc
      have hx : (bs l).extract k (k + 1) = bs [c] := by rw [bs_extract, Hc.out, show k + 1 - k = 1 by omega]; rfl
      have heq := eq_mk c 35
      cases hB : isB c
      · cases h35 : (c == 35)
        · have Hr : Hid (i + lay false (l.drop i) = k) := by show _ = _; rw [He.out, Hc.out, lay, hB, h35]; rfl
          rw [h35] at heq
          go_wp2_with (first
            | (go_at_call 135; (with_reducible refine (has_any [32, 10] c false (by rw [has_space, hB]) _).mono ?_); rintro e w2 ⟨rfl, hb2⟩; have hz2 := hb2.size)
            | (go_at_call 136; (with_reducible refine (bytes_lone c _).mono ?_); rintro e w3 ⟨rfl, hb3⟩; have hz3 := hb3.size)
            | (go_at_call 137; (with_reducible refine (remark_calls _).mono ?_); rintro e w4 ⟨rfl, hb4⟩; have hz4 := hb4.size))
          go_ret
          exact ⟨by rw [Hr.out]; rfl, bt hb4 (bt hb3 (bt hb2 hb hb.size) (by have := hb.size; omega)) (by have := hb.size; omega)⟩
        · have hx2 : (bs l).extract k l.length = bs (l.drop k) := by rw [bs_extract, List.take_of_length_le (by simp)]
          have hc35 : c = 35 := by simpa using h35
          have H0 : Hid (lay false (l.drop k) = lay true (l.drop k)) := by show _ = _; rw [Hc.out, hc35]; rfl
          have hge := Lib.indexByte_ge (l.drop k) 10
          have hne : Lib.indexByte (l.drop k) 10 ≠ 0 := by
            rw [Hc.out, hc35]; unfold Lib.indexByte
            rw [show ((35 : UInt8) == 10) = false from rfl, if_neg (by decide)]
            have := Lib.indexByte_ge (l.drop (k + 1)) 10
            by_cases h1 : Lib.indexByte (l.drop (k + 1)) 10 = -1
            · rw [if_pos (by simpa using h1)]; decide
            · rw [if_neg (by simpa using h1)]; omega
          have hzl : (l.drop k).length = l.length - k := List.length_drop
          rw [h35] at heq
          clear hc35 h35
          by_cases hn : Lib.indexByte (l.drop k) 10 = -1
          · have Hr : Hid (i + lay false (l.drop i) = l.length) := by show _ = _; rw [He.out, H0.out, lay_none hn, hzl]; omega
            have HI := Lib.hid (fun W => IndexByte_calls (l.drop k) W)
            rw [hn] at HI
            clear hge hne hn hzl
            go_wp2_with (first
            | (go_at_call 135; (with_reducible refine (has_any [32, 10] c false (by rw [has_space, hB]) _).mono ?_); rintro e w2 ⟨rfl, hb2⟩; have hz2 := hb2.size)
            | (go_at_call 136; (with_reducible refine (bytes_lone c _).mono ?_); rintro e w3 ⟨rfl, hb3⟩; have hz3 := hb3.size)
            | (go_at_call 137; (with_reducible refine (remark_calls _).mono ?_); rintro e w4 ⟨rfl, hb4⟩; have hz4 := hb4.size)
            | (go_at_call 138; (with_reducible refine (HI.out _).mono ?_); rintro e w5 ⟨rfl, rfl⟩))
            go_ret
            exact ⟨by rw [Hr.out]; rfl, bt hb4 (bt hb3 (bt hb2 hb hb.size) (by have := hb.size; omega)) (by have := hb.size; omega)⟩
          · obtain ⟨e, he⟩ : ∃ e : Nat, Lib.indexByte (l.drop k) 10 = (e : Int) := ⟨(Lib.indexByte (l.drop k) 10).toNat, by omega⟩
            have hs := lay_some he
            have Hr : Hid (i + lay false (l.drop i) = (k + e) + lay false (l.drop (k + e))) := by show _ = _; rw [He.out, H0.out, hs.1, List.drop_drop]; omega
            have hs2 := hs.2
            have HI := Lib.hid (fun W => IndexByte_calls (l.drop k) W)
            rw [he] at HI
            have he0 : 0 < e := by omega
            have hke : k + e ≤ l.length := by omega
            clear hge hne hn hs hzl he hs2
            go_wp2_with (first
            | (go_at_call 135; (with_reducible refine (has_any [32, 10] c false (by rw [has_space, hB]) _).mono ?_); rintro e w2 ⟨rfl, hb2⟩; have hz2 := hb2.size)
            | (go_at_call 136; (with_reducible refine (bytes_lone c _).mono ?_); rintro e w3 ⟨rfl, hb3⟩; have hz3 := hb3.size)
            | (go_at_call 137; (with_reducible refine (remark_calls _).mono ?_); rintro e w4 ⟨rfl, hb4⟩; have hz4 := hb4.size)
            | (go_at_call 138; (with_reducible refine (HI.out _).mono ?_); rintro e w5 ⟨rfl, rfl⟩))
            go_roundw
            case rel => exact ⟨k + e, by omega, by go_num, Hr.out, bt hb4 (bt hb3 (bt hb2 hb hb.size) (by have := hb.size; omega)) (by have := hb.size; omega)⟩
            case measure => simp [intOf]; omega
      · have Hr : Hid (i + lay false (l.drop i) = (k + 1) + lay false (l.drop (k + 1))) := by show _ = _; rw [He.out, Hc.out, lay, hB]; simp only [if_true]; omega
        go_wp2_with (go_at_call 135; (with_reducible refine (has_any [32, 10] c true (by rw [has_space, hB]) _).mono ?_); rintro e w2 ⟨rfl, hb2⟩)
        go_roundw
        case rel => exact ⟨k + 1, by omega, by go_num, Hr.out, bt hb2 hb hb.size⟩
        case measure => simp [intOf]; omega
    · have Hr : Hid (i + lay false (l.drop i) = k) := by show _ = _; rw [He.out, List.drop_of_length_le (by omega)]; rfl
      go_wp2_with fail
      go_ret
      exact ⟨by rw [Hr.out]; rfl, hb⟩
end Go.Proofs.YtonnegkpjmhomaaGreatDoor
end
section
namespace Go.Proofs.YtonnegkpjmhomaaGreatDoor
open Go.RowKit
def partV (p : Part) : Value := .agg #[.int .i64 p.at_, .int .i64 p.kind, .string (bs p.text), .int .i64 p.wrong]
set_option maxRecDepth 100000 in
set_option maxHeartbeats 8000000 in
theorem next_calls (l : List UInt8) (hl : l.length ≤ 1000000) (i : Nat) (hi : i < l.length) (w : World) :
    Calls Tryz.prog 97 #[.string (bs l), .int .i64 i] w fun e w' => e = .returned (partV (nextP i (l.drop i))) ∧ Below w.heap.size w w' := by
  have hsz : (bs l).size = l.length := bs_size l
  obtain ⟨c, hc, hg⟩ := drop_cons_get hi
  have hp : nextP i (l.drop i) = nextP i (c :: l.drop (i + 1)) := by rw [hc]
  rw [nextP_cons, ← hc] at hp
  have Hc := Lib.hid hc
  have HRL := Lib.hid (fun W => run_calls l hl i (by omega) letters W)
  have HRD := Lib.hid (fun W => run_calls l hl i (by omega) digs W)
  rw [show hasB letters = isL from funext has_letters] at HRL
  rw [show hasB digs = isD from funext has_digs] at HRD
  clear hc
  go_enter Tryz.func97, Tryz.ntmps97
  go_upto_region 3 with fail
  have hr := (Blk.new w 91 #[.int .i64 0, .int .i64 0, .string ⟨#[]⟩, .int .i64 0]).alloc (.cells #[.int .i64 i, .int .i64 0, .string ⟨#[]⟩, .int .i64 (-1)] 91)
  have ho := Blk.at_ (w.alloc (.cells #[.int .i64 0, .int .i64 0, .string ⟨#[]⟩, .int .i64 0] 91)) 91 #[.int .i64 i, .int .i64 0, .string ⟨#[]⟩, .int .i64 (-1)] (n := w.heap.size + 1) (by simp)
  have hb := below2 w (.cells #[.int .i64 0, .int .i64 0, .string ⟨#[]⟩, .int .i64 0] 91) (.cells #[.int .i64 i, .int .i64 0, .string ⟨#[]⟩, .int .i64 (-1)] 91)
  generalize (w.alloc (.cells #[.int .i64 0, .int .i64 0, .string ⟨#[]⟩, .int .i64 0] 91)).alloc (.cells #[.int .i64 i, .int .i64 0, .string ⟨#[]⟩, .int .i64 (-1)] 91) = wa at *
  have hz0 := ho.lt
  obtain ⟨r0, r1, r2, r3, rf⟩ := hr.cells4
  obtain ⟨o0, o1, o2, o3, of⟩ := ho.cells4
  cases hL : isL c
  · have h1 : Hid (isL c = false) := hL
    cases hD : isD c
    · have h2 : Hid (isD c = false) := hD
      have hx : (bs l).extract i (i + 1) = bs [c] := by rw [bs_extract, Hc.out, show i + 1 - i = 1 by omega]; rfl
      cases hS : isS c
      · have h3 : Hid (isS c = false) := hS
        rw [hL, hD, hS] at hp
        have Hp : Hid (nextP i (l.drop i) = ⟨i, 0, [c], i⟩) := hp
        clear hL hD hS hp
        go_wp2_with (first
        | (go_at_call 139; (with_reducible refine (letter_calls _).mono ?_); rintro e w1 ⟨rfl, hb1⟩; clear r0 r1 r2 r3 rf o0 o1 o2 o3 of; have hr := hr.below hb1 hr.lt; have ho := ho.below hb1 ho.lt; have hb := bt hb1 hb hb.size; clear hb1; have hz0 := ho.lt; obtain ⟨r0, r1, r2, r3, rf⟩ := hr.cells4; obtain ⟨o0, o1, o2, o3, of⟩ := ho.cells4)
        | (go_at_call 141; (with_reducible refine (digit_calls _).mono ?_); rintro e w1 ⟨rfl, hb1⟩; clear r0 r1 r2 r3 rf o0 o1 o2 o3 of; have hr := hr.below hb1 hr.lt; have ho := ho.below hb1 ho.lt; have hb := bt hb1 hb hb.size; clear hb1; have hz0 := ho.lt; obtain ⟨r0, r1, r2, r3, rf⟩ := hr.cells4; obtain ⟨o0, o1, o2, o3, of⟩ := ho.cells4)
        | (go_at_call 142; (with_reducible refine (sign_calls _).mono ?_); rintro e w1 ⟨rfl, hb1⟩; clear r0 r1 r2 r3 rf o0 o1 o2 o3 of; have hr := hr.below hb1 hr.lt; have ho := ho.below hb1 ho.lt; have hb := bt hb1 hb hb.size; clear hb1; have hz0 := ho.lt; obtain ⟨r0, r1, r2, r3, rf⟩ := hr.cells4; obtain ⟨o0, o1, o2, o3, of⟩ := ho.cells4)
        | (go_at_call 135; (with_reducible refine (has_any letters c false (by rw [has_letters]; exact h1.out) _).mono ?_); rintro e w1 ⟨rfl, hb1⟩; clear r0 r1 r2 r3 rf o0 o1 o2 o3 of; have hr := hr.below hb1 hr.lt; have ho := ho.below hb1 ho.lt; have hb := bt hb1 hb hb.size; clear hb1; have hz0 := ho.lt; obtain ⟨r0, r1, r2, r3, rf⟩ := hr.cells4; obtain ⟨o0, o1, o2, o3, of⟩ := ho.cells4)
        | (go_at_call 135; (with_reducible refine (has_any digs c false (by rw [has_digs]; exact h2.out) _).mono ?_); rintro e w1 ⟨rfl, hb1⟩; clear r0 r1 r2 r3 rf o0 o1 o2 o3 of; have hr := hr.below hb1 hr.lt; have ho := ho.below hb1 ho.lt; have hb := bt hb1 hb hb.size; clear hb1; have hz0 := ho.lt; obtain ⟨r0, r1, r2, r3, rf⟩ := hr.cells4; obtain ⟨o0, o1, o2, o3, of⟩ := ho.cells4)
        | (go_at_call 135; (with_reducible refine (has_any [58, 59] c false (by rw [has_sign]; exact h3.out) _).mono ?_); rintro e w1 ⟨rfl, hb1⟩; clear r0 r1 r2 r3 rf o0 o1 o2 o3 of; have hr := hr.below hb1 hr.lt; have ho := ho.below hb1 ho.lt; have hb := bt hb1 hb hb.size; clear hb1; have hz0 := ho.lt; obtain ⟨r0, r1, r2, r3, rf⟩ := hr.cells4; obtain ⟨o0, o1, o2, o3, of⟩ := ho.cells4))
        refine bodyPost_ret (v := .agg #[.int .i64 i, .int .i64 0, .string (bs [c]), .int .i64 i]) (by simp [results, Tryz.results97, go_sem, r0, r1, r2, r3]) rfl ⟨by rw [Hp.out]; rfl, ?_⟩
        repeat (first | (with_reducible exact hb) | (with_reducible refine Below.setCell ?_ ?_ _) | (dsimp only; omega) | omega)
      · have h3 : Hid (isS c = true) := hS
        rw [hL, hD, hS] at hp
        have Hp : Hid (nextP i (l.drop i) = ⟨i, c.toNat, [c], -1⟩) := hp
        have h256 : c.toNat < 256 := c.toNat_lt
        clear hL hD hS hp
        go_wp2_with (first
        | (go_at_call 139; (with_reducible refine (letter_calls _).mono ?_); rintro e w1 ⟨rfl, hb1⟩; clear r0 r1 r2 r3 rf o0 o1 o2 o3 of; have hr := hr.below hb1 hr.lt; have ho := ho.below hb1 ho.lt; have hb := bt hb1 hb hb.size; clear hb1; have hz0 := ho.lt; obtain ⟨r0, r1, r2, r3, rf⟩ := hr.cells4; obtain ⟨o0, o1, o2, o3, of⟩ := ho.cells4)
        | (go_at_call 141; (with_reducible refine (digit_calls _).mono ?_); rintro e w1 ⟨rfl, hb1⟩; clear r0 r1 r2 r3 rf o0 o1 o2 o3 of; have hr := hr.below hb1 hr.lt; have ho := ho.below hb1 ho.lt; have hb := bt hb1 hb hb.size; clear hb1; have hz0 := ho.lt; obtain ⟨r0, r1, r2, r3, rf⟩ := hr.cells4; obtain ⟨o0, o1, o2, o3, of⟩ := ho.cells4)
        | (go_at_call 142; (with_reducible refine (sign_calls _).mono ?_); rintro e w1 ⟨rfl, hb1⟩; clear r0 r1 r2 r3 rf o0 o1 o2 o3 of; have hr := hr.below hb1 hr.lt; have ho := ho.below hb1 ho.lt; have hb := bt hb1 hb hb.size; clear hb1; have hz0 := ho.lt; obtain ⟨r0, r1, r2, r3, rf⟩ := hr.cells4; obtain ⟨o0, o1, o2, o3, of⟩ := ho.cells4)
        | (go_at_call 135; (with_reducible refine (has_any letters c false (by rw [has_letters]; exact h1.out) _).mono ?_); rintro e w1 ⟨rfl, hb1⟩; clear r0 r1 r2 r3 rf o0 o1 o2 o3 of; have hr := hr.below hb1 hr.lt; have ho := ho.below hb1 ho.lt; have hb := bt hb1 hb hb.size; clear hb1; have hz0 := ho.lt; obtain ⟨r0, r1, r2, r3, rf⟩ := hr.cells4; obtain ⟨o0, o1, o2, o3, of⟩ := ho.cells4)
        | (go_at_call 135; (with_reducible refine (has_any digs c false (by rw [has_digs]; exact h2.out) _).mono ?_); rintro e w1 ⟨rfl, hb1⟩; clear r0 r1 r2 r3 rf o0 o1 o2 o3 of; have hr := hr.below hb1 hr.lt; have ho := ho.below hb1 ho.lt; have hb := bt hb1 hb hb.size; clear hb1; have hz0 := ho.lt; obtain ⟨r0, r1, r2, r3, rf⟩ := hr.cells4; obtain ⟨o0, o1, o2, o3, of⟩ := ho.cells4)
        | (go_at_call 135; (with_reducible refine (has_any [58, 59] c true (by rw [has_sign]; exact h3.out) _).mono ?_); rintro e w1 ⟨rfl, hb1⟩; clear r0 r1 r2 r3 rf o0 o1 o2 o3 of; have hr := hr.below hb1 hr.lt; have ho := ho.below hb1 ho.lt; have hb := bt hb1 hb hb.size; clear hb1; have hz0 := ho.lt; obtain ⟨r0, r1, r2, r3, rf⟩ := hr.cells4; obtain ⟨o0, o1, o2, o3, of⟩ := ho.cells4))
        refine bodyPost_ret (v := .agg #[.int .i64 i, .int .i64 c.toNat, .string (bs [c]), .int .i64 (-1)]) (by simp [results, Tryz.results97, go_sem, r0, r1, r2, r3]) rfl ⟨by rw [Hp.out]; rfl, ?_⟩
        repeat (first | (with_reducible exact hb) | (with_reducible refine Below.setCell ?_ ?_ _) | (dsimp only; omega) | omega)
    · have h2 : Hid (isD c = true) := hD
      rw [hL, hD] at hp
      have Hp : Hid (nextP i (l.drop i) = ⟨i, 2, (l.drop i).takeWhile isD, if c = 48 ∧ 1 < ((l.drop i).takeWhile isD).length then (i : Int) + 1 else if 3 < ((l.drop i).takeWhile isD).length then (i : Int) + 3 else -1⟩) := hp
      have hx : (bs l).extract i (i + ((l.drop i).takeWhile isD).length) = bs ((l.drop i).takeWhile isD) := by rw [bs_extract, Nat.add_sub_cancel_left]; exact congrArg bs (List.prefix_iff_eq_take.1 (List.takeWhile_prefix _)).symm
      have hn : ((l.drop i).takeWhile isD).length ≤ l.length - i := by have := takeWhile_le isD (l.drop i); rw [List.length_drop] at this; exact this
      clear hL hD hp
      generalize (l.drop i).takeWhile isD = T at *
      generalize hT : T.length = n at *
      have HT := Lib.hid hT
      clear hT
      by_cases hz : c = 48 ∧ 1 < n
      · have Hv : Hid ((if c = 48 ∧ 1 < n then (i : Int) + 1 else if 3 < n then (i : Int) + 3 else -1) = (i : Int) + 1) := if_pos hz
        have hc48 : ((c.toNat : Int) == 48) = true := by rw [hz.1]; rfl
        have hn1 := hz.2
        clear hz
        go_wp2_with (first
        | (go_at_call 139; (with_reducible refine (letter_calls _).mono ?_); rintro e w1 ⟨rfl, hb1⟩; clear r0 r1 r2 r3 rf o0 o1 o2 o3 of; have hr := hr.below hb1 hr.lt; have ho := ho.below hb1 ho.lt; have hb := bt hb1 hb hb.size; clear hb1; have hz0 := ho.lt; obtain ⟨r0, r1, r2, r3, rf⟩ := hr.cells4; obtain ⟨o0, o1, o2, o3, of⟩ := ho.cells4)
        | (go_at_call 141; (with_reducible refine (digit_calls _).mono ?_); rintro e w1 ⟨rfl, hb1⟩; clear r0 r1 r2 r3 rf o0 o1 o2 o3 of; have hr := hr.below hb1 hr.lt; have ho := ho.below hb1 ho.lt; have hb := bt hb1 hb hb.size; clear hb1; have hz0 := ho.lt; obtain ⟨r0, r1, r2, r3, rf⟩ := hr.cells4; obtain ⟨o0, o1, o2, o3, of⟩ := ho.cells4)
        | (go_at_call 135; (with_reducible refine (has_any letters c false (by rw [has_letters]; exact h1.out) _).mono ?_); rintro e w1 ⟨rfl, hb1⟩; clear r0 r1 r2 r3 rf o0 o1 o2 o3 of; have hr := hr.below hb1 hr.lt; have ho := ho.below hb1 ho.lt; have hb := bt hb1 hb hb.size; clear hb1; have hz0 := ho.lt; obtain ⟨r0, r1, r2, r3, rf⟩ := hr.cells4; obtain ⟨o0, o1, o2, o3, of⟩ := ho.cells4)
        | (go_at_call 135; (with_reducible refine (has_any digs c true (by rw [has_digs]; exact h2.out) _).mono ?_); rintro e w1 ⟨rfl, hb1⟩; clear r0 r1 r2 r3 rf o0 o1 o2 o3 of; have hr := hr.below hb1 hr.lt; have ho := ho.below hb1 ho.lt; have hb := bt hb1 hb hb.size; clear hb1; have hz0 := ho.lt; obtain ⟨r0, r1, r2, r3, rf⟩ := hr.cells4; obtain ⟨o0, o1, o2, o3, of⟩ := ho.cells4)
        | (go_at_call 140; (with_reducible refine (HRD.out _).mono ?_); rintro e w1 ⟨rfl, hb1⟩; clear r0 r1 r2 r3 rf o0 o1 o2 o3 of; have hr := hr.below hb1 hr.lt; have ho := ho.below hb1 ho.lt; have hb := bt hb1 hb hb.size; clear hb1; have hz0 := ho.lt; obtain ⟨r0, r1, r2, r3, rf⟩ := hr.cells4; obtain ⟨o0, o1, o2, o3, of⟩ := ho.cells4))
        refine bodyPost_ret (v := .agg #[.int .i64 i, .int .i64 2, .string (bs T), .int .i64 ((i : Int) + 1)]) (by simp [results, Tryz.results97, go_sem, r0, r1, r2, r3]) rfl ⟨by rw [Hp.out, Hv.out]; rfl, ?_⟩
        repeat (first | (with_reducible exact hb) | (with_reducible refine Below.setCell ?_ ?_ _) | (dsimp only; omega) | omega)
      · by_cases h3n : 3 < n
        · have Hv : Hid ((if c = 48 ∧ 1 < n then (i : Int) + 1 else if 3 < n then (i : Int) + 3 else -1) = (i : Int) + 3) := by show _ = _; rw [if_neg hz, if_pos h3n]
          have hc48 : ((c.toNat : Int) == 48) = false := by
            rw [beq_eq_false_iff_ne]; intro h; exact hz ⟨UInt8.toNat_inj.1 (by simpa using Int.ofNat_inj.1 h), by omega⟩
          clear hz
          go_wp2_with (first
        | (go_at_call 139; (with_reducible refine (letter_calls _).mono ?_); rintro e w1 ⟨rfl, hb1⟩; clear r0 r1 r2 r3 rf o0 o1 o2 o3 of; have hr := hr.below hb1 hr.lt; have ho := ho.below hb1 ho.lt; have hb := bt hb1 hb hb.size; clear hb1; have hz0 := ho.lt; obtain ⟨r0, r1, r2, r3, rf⟩ := hr.cells4; obtain ⟨o0, o1, o2, o3, of⟩ := ho.cells4)
        | (go_at_call 141; (with_reducible refine (digit_calls _).mono ?_); rintro e w1 ⟨rfl, hb1⟩; clear r0 r1 r2 r3 rf o0 o1 o2 o3 of; have hr := hr.below hb1 hr.lt; have ho := ho.below hb1 ho.lt; have hb := bt hb1 hb hb.size; clear hb1; have hz0 := ho.lt; obtain ⟨r0, r1, r2, r3, rf⟩ := hr.cells4; obtain ⟨o0, o1, o2, o3, of⟩ := ho.cells4)
        | (go_at_call 135; (with_reducible refine (has_any letters c false (by rw [has_letters]; exact h1.out) _).mono ?_); rintro e w1 ⟨rfl, hb1⟩; clear r0 r1 r2 r3 rf o0 o1 o2 o3 of; have hr := hr.below hb1 hr.lt; have ho := ho.below hb1 ho.lt; have hb := bt hb1 hb hb.size; clear hb1; have hz0 := ho.lt; obtain ⟨r0, r1, r2, r3, rf⟩ := hr.cells4; obtain ⟨o0, o1, o2, o3, of⟩ := ho.cells4)
        | (go_at_call 135; (with_reducible refine (has_any digs c true (by rw [has_digs]; exact h2.out) _).mono ?_); rintro e w1 ⟨rfl, hb1⟩; clear r0 r1 r2 r3 rf o0 o1 o2 o3 of; have hr := hr.below hb1 hr.lt; have ho := ho.below hb1 ho.lt; have hb := bt hb1 hb hb.size; clear hb1; have hz0 := ho.lt; obtain ⟨r0, r1, r2, r3, rf⟩ := hr.cells4; obtain ⟨o0, o1, o2, o3, of⟩ := ho.cells4)
        | (go_at_call 140; (with_reducible refine (HRD.out _).mono ?_); rintro e w1 ⟨rfl, hb1⟩; clear r0 r1 r2 r3 rf o0 o1 o2 o3 of; have hr := hr.below hb1 hr.lt; have ho := ho.below hb1 ho.lt; have hb := bt hb1 hb hb.size; clear hb1; have hz0 := ho.lt; obtain ⟨r0, r1, r2, r3, rf⟩ := hr.cells4; obtain ⟨o0, o1, o2, o3, of⟩ := ho.cells4))
          refine bodyPost_ret (v := .agg #[.int .i64 i, .int .i64 2, .string (bs T), .int .i64 ((i : Int) + 3)]) (by simp [results, Tryz.results97, go_sem, r0, r1, r2, r3]) rfl ⟨by rw [Hp.out, Hv.out]; rfl, ?_⟩
          repeat (first | (with_reducible exact hb) | (with_reducible refine Below.setCell ?_ ?_ _) | (dsimp only; omega) | omega)
        · have Hv : Hid ((if c = 48 ∧ 1 < n then (i : Int) + 1 else if 3 < n then (i : Int) + 3 else -1) = -1) := by show _ = _; rw [if_neg hz, if_neg h3n]
          cases hc48 : ((c.toNat : Int) == 48)
          · clear hz
            go_wp2_with (first
        | (go_at_call 139; (with_reducible refine (letter_calls _).mono ?_); rintro e w1 ⟨rfl, hb1⟩; clear r0 r1 r2 r3 rf o0 o1 o2 o3 of; have hr := hr.below hb1 hr.lt; have ho := ho.below hb1 ho.lt; have hb := bt hb1 hb hb.size; clear hb1; have hz0 := ho.lt; obtain ⟨r0, r1, r2, r3, rf⟩ := hr.cells4; obtain ⟨o0, o1, o2, o3, of⟩ := ho.cells4)
        | (go_at_call 141; (with_reducible refine (digit_calls _).mono ?_); rintro e w1 ⟨rfl, hb1⟩; clear r0 r1 r2 r3 rf o0 o1 o2 o3 of; have hr := hr.below hb1 hr.lt; have ho := ho.below hb1 ho.lt; have hb := bt hb1 hb hb.size; clear hb1; have hz0 := ho.lt; obtain ⟨r0, r1, r2, r3, rf⟩ := hr.cells4; obtain ⟨o0, o1, o2, o3, of⟩ := ho.cells4)
        | (go_at_call 135; (with_reducible refine (has_any letters c false (by rw [has_letters]; exact h1.out) _).mono ?_); rintro e w1 ⟨rfl, hb1⟩; clear r0 r1 r2 r3 rf o0 o1 o2 o3 of; have hr := hr.below hb1 hr.lt; have ho := ho.below hb1 ho.lt; have hb := bt hb1 hb hb.size; clear hb1; have hz0 := ho.lt; obtain ⟨r0, r1, r2, r3, rf⟩ := hr.cells4; obtain ⟨o0, o1, o2, o3, of⟩ := ho.cells4)
        | (go_at_call 135; (with_reducible refine (has_any digs c true (by rw [has_digs]; exact h2.out) _).mono ?_); rintro e w1 ⟨rfl, hb1⟩; clear r0 r1 r2 r3 rf o0 o1 o2 o3 of; have hr := hr.below hb1 hr.lt; have ho := ho.below hb1 ho.lt; have hb := bt hb1 hb hb.size; clear hb1; have hz0 := ho.lt; obtain ⟨r0, r1, r2, r3, rf⟩ := hr.cells4; obtain ⟨o0, o1, o2, o3, of⟩ := ho.cells4)
        | (go_at_call 140; (with_reducible refine (HRD.out _).mono ?_); rintro e w1 ⟨rfl, hb1⟩; clear r0 r1 r2 r3 rf o0 o1 o2 o3 of; have hr := hr.below hb1 hr.lt; have ho := ho.below hb1 ho.lt; have hb := bt hb1 hb hb.size; clear hb1; have hz0 := ho.lt; obtain ⟨r0, r1, r2, r3, rf⟩ := hr.cells4; obtain ⟨o0, o1, o2, o3, of⟩ := ho.cells4))
            refine bodyPost_ret (v := .agg #[.int .i64 i, .int .i64 2, .string (bs T), .int .i64 (-1)]) (by simp [results, Tryz.results97, go_sem, r0, r1, r2, r3]) rfl ⟨by rw [Hp.out, Hv.out]; rfl, ?_⟩
            repeat (first | (with_reducible exact hb) | (with_reducible refine Below.setCell ?_ ?_ _) | (dsimp only; omega) | omega)
          · have hn1 : n ≤ 1 := by
              have : c = 48 := UInt8.toNat_inj.1 (by simpa using Int.ofNat_inj.1 (eq_of_beq hc48))
              rcases Nat.lt_or_ge 1 n with h | h
              · exact absurd ⟨this, h⟩ hz
              · exact h
            clear hz
            go_wp2_with (first
        | (go_at_call 139; (with_reducible refine (letter_calls _).mono ?_); rintro e w1 ⟨rfl, hb1⟩; clear r0 r1 r2 r3 rf o0 o1 o2 o3 of; have hr := hr.below hb1 hr.lt; have ho := ho.below hb1 ho.lt; have hb := bt hb1 hb hb.size; clear hb1; have hz0 := ho.lt; obtain ⟨r0, r1, r2, r3, rf⟩ := hr.cells4; obtain ⟨o0, o1, o2, o3, of⟩ := ho.cells4)
        | (go_at_call 141; (with_reducible refine (digit_calls _).mono ?_); rintro e w1 ⟨rfl, hb1⟩; clear r0 r1 r2 r3 rf o0 o1 o2 o3 of; have hr := hr.below hb1 hr.lt; have ho := ho.below hb1 ho.lt; have hb := bt hb1 hb hb.size; clear hb1; have hz0 := ho.lt; obtain ⟨r0, r1, r2, r3, rf⟩ := hr.cells4; obtain ⟨o0, o1, o2, o3, of⟩ := ho.cells4)
        | (go_at_call 135; (with_reducible refine (has_any letters c false (by rw [has_letters]; exact h1.out) _).mono ?_); rintro e w1 ⟨rfl, hb1⟩; clear r0 r1 r2 r3 rf o0 o1 o2 o3 of; have hr := hr.below hb1 hr.lt; have ho := ho.below hb1 ho.lt; have hb := bt hb1 hb hb.size; clear hb1; have hz0 := ho.lt; obtain ⟨r0, r1, r2, r3, rf⟩ := hr.cells4; obtain ⟨o0, o1, o2, o3, of⟩ := ho.cells4)
        | (go_at_call 135; (with_reducible refine (has_any digs c true (by rw [has_digs]; exact h2.out) _).mono ?_); rintro e w1 ⟨rfl, hb1⟩; clear r0 r1 r2 r3 rf o0 o1 o2 o3 of; have hr := hr.below hb1 hr.lt; have ho := ho.below hb1 ho.lt; have hb := bt hb1 hb hb.size; clear hb1; have hz0 := ho.lt; obtain ⟨r0, r1, r2, r3, rf⟩ := hr.cells4; obtain ⟨o0, o1, o2, o3, of⟩ := ho.cells4)
        | (go_at_call 140; (with_reducible refine (HRD.out _).mono ?_); rintro e w1 ⟨rfl, hb1⟩; clear r0 r1 r2 r3 rf o0 o1 o2 o3 of; have hr := hr.below hb1 hr.lt; have ho := ho.below hb1 ho.lt; have hb := bt hb1 hb hb.size; clear hb1; have hz0 := ho.lt; obtain ⟨r0, r1, r2, r3, rf⟩ := hr.cells4; obtain ⟨o0, o1, o2, o3, of⟩ := ho.cells4))
            refine bodyPost_ret (v := .agg #[.int .i64 i, .int .i64 2, .string (bs T), .int .i64 (-1)]) (by simp [results, Tryz.results97, go_sem, r0, r1, r2, r3]) rfl ⟨by rw [Hp.out, Hv.out]; rfl, ?_⟩
            repeat (first | (with_reducible exact hb) | (with_reducible refine Below.setCell ?_ ?_ _) | (dsimp only; omega) | omega)
  · have h1 : Hid (isL c = true) := hL
    rw [hL] at hp
    have Hp : Hid (nextP i (l.drop i) = ⟨i, 1, (l.drop i).takeWhile isL, if 8 < ((l.drop i).takeWhile isL).length then (i : Int) + 8 else -1⟩) := hp
    have hx : (bs l).extract i (i + ((l.drop i).takeWhile isL).length) = bs ((l.drop i).takeWhile isL) := by rw [bs_extract, Nat.add_sub_cancel_left]; exact congrArg bs (List.prefix_iff_eq_take.1 (List.takeWhile_prefix _)).symm
    have hn : ((l.drop i).takeWhile isL).length ≤ l.length - i := by have := takeWhile_le isL (l.drop i); rw [List.length_drop] at this; exact this
    clear hL hp
    generalize (l.drop i).takeWhile isL = T at *
    generalize hT : T.length = n at *
    have HT := Lib.hid hT
    clear hT
    by_cases h8 : 8 < n
    · have Hv : Hid ((if 8 < n then (i : Int) + 8 else -1) = (i : Int) + 8) := if_pos h8
      go_wp2_with (first
        | (go_at_call 139; (with_reducible refine (letter_calls _).mono ?_); rintro e w1 ⟨rfl, hb1⟩; clear r0 r1 r2 r3 rf o0 o1 o2 o3 of; have hr := hr.below hb1 hr.lt; have ho := ho.below hb1 ho.lt; have hb := bt hb1 hb hb.size; clear hb1; have hz0 := ho.lt; obtain ⟨r0, r1, r2, r3, rf⟩ := hr.cells4; obtain ⟨o0, o1, o2, o3, of⟩ := ho.cells4)
        | (go_at_call 135; (with_reducible refine (has_any letters c true (by rw [has_letters]; exact h1.out) _).mono ?_); rintro e w1 ⟨rfl, hb1⟩; clear r0 r1 r2 r3 rf o0 o1 o2 o3 of; have hr := hr.below hb1 hr.lt; have ho := ho.below hb1 ho.lt; have hb := bt hb1 hb hb.size; clear hb1; have hz0 := ho.lt; obtain ⟨r0, r1, r2, r3, rf⟩ := hr.cells4; obtain ⟨o0, o1, o2, o3, of⟩ := ho.cells4)
        | (go_at_call 140; (with_reducible refine (HRL.out _).mono ?_); rintro e w1 ⟨rfl, hb1⟩; clear r0 r1 r2 r3 rf o0 o1 o2 o3 of; have hr := hr.below hb1 hr.lt; have ho := ho.below hb1 ho.lt; have hb := bt hb1 hb hb.size; clear hb1; have hz0 := ho.lt; obtain ⟨r0, r1, r2, r3, rf⟩ := hr.cells4; obtain ⟨o0, o1, o2, o3, of⟩ := ho.cells4))
      refine bodyPost_ret (v := .agg #[.int .i64 i, .int .i64 1, .string (bs T), .int .i64 ((i : Int) + 8)]) (by simp [results, Tryz.results97, go_sem, r0, r1, r2, r3]) rfl ⟨by rw [Hp.out, Hv.out]; rfl, ?_⟩
      repeat (first | (with_reducible exact hb) | (with_reducible refine Below.setCell ?_ ?_ _) | (dsimp only; omega) | omega)
    · have Hv : Hid ((if 8 < n then (i : Int) + 8 else -1) = -1) := if_neg h8
      go_wp2_with (first
        | (go_at_call 139; (with_reducible refine (letter_calls _).mono ?_); rintro e w1 ⟨rfl, hb1⟩; clear r0 r1 r2 r3 rf o0 o1 o2 o3 of; have hr := hr.below hb1 hr.lt; have ho := ho.below hb1 ho.lt; have hb := bt hb1 hb hb.size; clear hb1; have hz0 := ho.lt; obtain ⟨r0, r1, r2, r3, rf⟩ := hr.cells4; obtain ⟨o0, o1, o2, o3, of⟩ := ho.cells4)
        | (go_at_call 135; (with_reducible refine (has_any letters c true (by rw [has_letters]; exact h1.out) _).mono ?_); rintro e w1 ⟨rfl, hb1⟩; clear r0 r1 r2 r3 rf o0 o1 o2 o3 of; have hr := hr.below hb1 hr.lt; have ho := ho.below hb1 ho.lt; have hb := bt hb1 hb hb.size; clear hb1; have hz0 := ho.lt; obtain ⟨r0, r1, r2, r3, rf⟩ := hr.cells4; obtain ⟨o0, o1, o2, o3, of⟩ := ho.cells4)
        | (go_at_call 140; (with_reducible refine (HRL.out _).mono ?_); rintro e w1 ⟨rfl, hb1⟩; clear r0 r1 r2 r3 rf o0 o1 o2 o3 of; have hr := hr.below hb1 hr.lt; have ho := ho.below hb1 ho.lt; have hb := bt hb1 hb hb.size; clear hb1; have hz0 := ho.lt; obtain ⟨r0, r1, r2, r3, rf⟩ := hr.cells4; obtain ⟨o0, o1, o2, o3, of⟩ := ho.cells4))
      refine bodyPost_ret (v := .agg #[.int .i64 i, .int .i64 1, .string (bs T), .int .i64 (-1)]) (by simp [results, Tryz.results97, go_sem, r0, r1, r2, r3]) rfl ⟨by rw [Hp.out, Hv.out]; rfl, ?_⟩
      repeat (first | (with_reducible exact hb) | (with_reducible refine Below.setCell ?_ ?_ _) | (dsimp only; omega) | omega)
end Go.Proofs.YtonnegkpjmhomaaGreatDoor
end
