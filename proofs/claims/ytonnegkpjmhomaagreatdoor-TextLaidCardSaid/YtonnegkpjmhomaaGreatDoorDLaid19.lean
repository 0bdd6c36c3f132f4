import Derived.Laws.Runes
import Derived.Lib.SplitLaws
import Derived.Lib.CountLaws
import Derived.Lib.IndexBytes
import Derived.Test.YtonnegkpjmhomaaGreatDoorDLaid7
import Derived.Test.YtonnegkpjmhomaaGreatDoorDLaid9
import Derived.Test.YtonnegkpjmhomaaGreatDoorDLaid17
import Derived.Test.YtonnegkpjmhomaaGreatDoorDLaid18
set_option linter.all false
section
set_option linter.all false
namespace Go.Proofs.YtonnegkpjmhomaaGreatDoor
open Go.RowKit
theorem StoreAt.blk {w : World} {b R m : Nat} (h : StoreAt w b R m) : ∃ cs, Blk w b 80 cs := by
  obtain ⟨a, n, c, nx, st, hs, _⟩ := h
  exact ⟨_, hs⟩
theorem StoreAt.ownKeep {w w' : World} {b R m base size n : Nat} {e : TypeId} {v : Value} {xs : List Value} (h : StoreAt w b R m) (g : w.grownBy w' (some b)) (ho : w.ownsRow base e size v n xs) (he : e ≠ 80) : w'.ownsRow base e size v n xs := by
  obtain ⟨cs, hb⟩ := h.blk
  exact own_keep ho (fun k cur _ hk => g.block k hk.lt (fun e2 => hk.ne_ hb he (Option.some.inj e2)))
theorem StoreAt.blkKeep {w w' : World} {b R m k : Nat} {t : TypeId} {cs : Array Value} (h : StoreAt w b R m) (g : w.grownBy w' (some b)) (ho : Blk w k t cs) (he : t ≠ 80) : Blk w' k t cs := by
  obtain ⟨cs, hb⟩ := h.blk
  exact ho.grown g (fun e2 => ho.ne_ hb he (Option.some.inj e2))
theorem StoreAt.gsKeep {w w' : World} {b R m n0 : Nat} {gv : Value} {gw : List (Gt × Value)} (h : StoreAt w b R m) (g : w.grownBy w' (some b)) (hg : GsAt w n0 gv gw) : GsAt w' n0 gv gw := by
  obtain ⟨cs, hb⟩ := h.blk
  exact hg.far hb (by decide) (by decide) g
theorem StoreAt.other {w w' : World} {b R m : Nat} {row : Option Nat} (h : StoreAt w b R m) (g : w.grownBy w' row) (hr : ∀ k, row = some k → k ≠ b ∧ R ≤ k) : StoreAt w' b R m := by
  have hl := h.lt
  obtain ⟨a, n, c, nx, st, hs, hn, n0, n1, s0, s1, hw, hR⟩ := h
  refine ⟨a, n, c, nx, st, hs.grown g (fun e => (hr b e.symm).1 rfl), hn, n0, n1, s0, s1, ?_, Nat.le_trans hR g.size⟩
  rcases hw with h | ⟨r, ha, hr1, hr2, hz⟩
  · exact .inl h
  · exact .inr ⟨r, ha, hr1, hr2, fun j hj => by
      obtain ⟨z, z0, z1, hc⟩ := hz j hj
      exact ⟨z, z0, z1, g.cell hc (by intro e; have := (hr r e.symm).2; omega)⟩⟩
theorem grown_new {w W w2 : World} {b : Nat} {row : Option Nat} (h : w.grownBy W (some b)) (g : W.grownBy w2 row) (hr : ∀ k, row = some k → w.heap.size ≤ k) : w.grownBy w2 (some b) :=
  ⟨g.os.trans h.os, g.tape.trans h.tape, g.output.trans h.output, Nat.le_trans h.size g.size, fun k hk hn => (g.block k (Nat.lt_of_lt_of_le hk h.size) (fun e => by have := hr k e.symm; omega)).trans (h.block k hk hn)⟩
theorem grown_alloc {w W : World} {b : Nat} (h : w.grownBy W (some b)) (o : Obj) : w.grownBy (W.alloc o) (some b) :=
  grown_new h (World.grownBy_alloc W o none) (fun k e => by cases e)
theorem ints_grown {w w' : World} {b : Nat} {v : Value} {zs : List Int} (h : IntsAt w b v zs) (hb : b ≤ w.heap.size) (g : w.grownBy w' (some b)) : IntsAt w' b v zs :=
  h.keep fun p hp => World.cell?_of_block (g.block p.block (by omega) (fun e => by have := Option.some.inj e; omega))
structure Perm (k : Nat) (zs : List Int) : Prop where
  len : zs.length = k
  nodup : zs.Nodup
  range : ∀ z ∈ zs, 0 ≤ z ∧ z < k
theorem Perm.ins {k r : Nat} {zs : List Int} (h : Perm k zs) (hr : r ≤ k) : Perm (k + 1) (zs.take r ++ (k : Int) :: zs.drop r) := by
  have hl := h.len
  have hnk : (k : Int) ∉ zs := fun hm => by have := (h.range _ hm).2; omega
  refine ⟨by simp [hl]; omega, ?_, fun z hz => ?_⟩
  · have h1 : (zs.take r ++ zs.drop r).Nodup := by rw [List.take_append_drop]; exact h.nodup
    rw [List.nodup_append] at h1 ⊢
    obtain ⟨a, b, c⟩ := h1
    refine ⟨a, List.nodup_cons.2 ⟨fun hm => hnk (List.mem_of_mem_drop hm), b⟩, fun x hx y hy => ?_⟩
    rcases List.mem_cons.1 hy with rfl | hy
    · intro e; subst e; exact hnk (List.mem_of_mem_take hx)
    · exact c x hx y hy
  · rcases List.mem_append.1 hz with hz | hz
    · have := h.range z (List.mem_of_mem_take hz); omega
    · rcases List.mem_cons.1 hz with rfl | hz
      · omega
      · have := h.range z (List.mem_of_mem_drop hz); omega
set_option maxRecDepth 100000 in
set_option maxHeartbeats 4000000 in
theorem Order_calls (b R m n : Nat) (w : World) (h : StoreAt w b R m) (hm : m ≤ 100000000) (hn : n ≤ 100) :
    Calls Tryz.prog 74 #[.pointer (some ⟨b, 0, none⟩), .int .i64 n] w fun e w' => ∃ v zs, e = .returned v ∧ Perm n zs ∧ w'.ownsRow w.heap.size 3 1 v n (zs.map (Value.int .i64)) ∧ StoreAt w' b R (m + n) ∧ w.grownBy w' (some b) := by
  have H := Lib.hid h
  have hR := h.top
  have hbl := h.lt
  clear h
  go_enter Tryz.func74, Tryz.ntmps74
  go_wp2_with fail
  go_loopg [8, 5, 6] n (fun gk s8 s5 _ wr => ∃ (k : Nat) (zs : List Int), k + gk = n ∧ s8 = .int .i64 k ∧ Perm k zs ∧ wr.ownsRow w.heap.size 3 1 s5 k (zs.map (Value.int .i64)) ∧ StoreAt wr b R (m + k) ∧ w.grownBy wr (some b))
  case atStart => exact ⟨0, [], by omega, rfl, ⟨rfl, List.nodup_nil, by simp⟩, World.ownsRow_nil _ _ _ _, H.out, grown_refl w _⟩
  case round =>
    obtain ⟨k, zs, hk, rfl, hp, ho, hs, hg⟩ := hrel
    cases gk with
    | zero =>
      obtain rfl : k = n := by omega
      have HP := Lib.hid (And.intro hp (And.intro ho (And.intro hs hg)))
      clear hp ho hs hg
      go_wp2_with fail
      go_ret
      exact ⟨_, zs, rfl, HP.out.1, HP.out.2.1, HP.out.2.2.1, HP.out.2.2.2⟩
    | succ g1 =>
      have hlt : (k : Int) < n := by omega
      have hk0 : (0 : Int) ≤ (k : Int) := by omega
      have hk1 : (k : Int) ≤ 100 := by omega
      have hw1 : IntKind.i64.wrap ((k : Int) + 1) = (k : Int) + 1 := IntWalk.i64_in _ (by omega)
      go_wp2_with fail
      refine (less_calls b R _ _ _ hs (by omega) (by omega) (by omega)).mono ?_
      rintro e w1 ⟨r, rfl, r0, r1, hs1, hg1⟩
      have ho1 := hs.ownKeep hg1 ho (by decide)
      have hg1 := gTrans hg hg1
      obtain ⟨q, rfl⟩ := Int.eq_ofNat_of_zero_le r0
      clear hs hg ho
      have hlen : zs.length = k := hp.len
      have ho2 : (w1.alloc (.cells #[.int .i64 k] 3)).ownsRow w.heap.size 3 1 u5 zs.length (zs.map (Value.int .i64)) := by rw [hlen]; exact ho1.alloc _
      have hlt2 := ho1.lt
      have hins := Insert_own (w1.alloc (.cells #[.int .i64 k] 3)) w.heap.size u5 zs k q w1.heap.size 1 (by omega) (by omega) ho2 (by have := hg1.size; simp; omega) (Blk.new _ _ _) (fun e => by have := hlt2 _ e; omega)
      have hg2 := grown_alloc hg1 (.cells #[.int .i64 k] 3)
      have hs2 := hs1.alloc (.cells #[.int .i64 k] 3)
      have hrow : ∀ j, u5.ownBlock = some j → w.heap.size ≤ j := fun j e => (hlt2 j e).1
      have Hp := Lib.hid (hp.ins (r := q) (by omega))
      have HI := Lib.hid hins
      have HR := Lib.hid hrow
      have HB := Lib.hid hbl
      have HR2 := Lib.hid hR
      clear ho1 ho2 hins hg1 hs1 hrow hlt2 hp hbl hR
      go_wp2_with fail
      refine HI.out.mono ?_
      rintro e w3 ⟨v', rfl, ho3, hg3, _⟩
      have hs3 := hs2.other hg3 (fun j e => by have := HR.out j e; have := HB.out; have := HR2.out; omega)
      have hg4 := grown_new hg2 hg3 HR.out
      clear hg3 hg2 hs2 HI
      rw [hlen] at ho3
      go_wp2_with fail
      go_roundg g1
      case measure => omega
      case rel => exact ⟨k + 1, _, by omega, by go_num, Hp.out, ho3, hs3, hg4⟩
theorem kArity_calls (k : Int) (h : 1 ≤ k ∧ k ≤ 12) (w : World) : Calls Tryz.prog 73 #[.int .i64 k] w fun e w' => e = .returned (.int .i64 (arity k)) ∧ w' = w := by
  obtain rfl | rfl | rfl | rfl | rfl | rfl | rfl | rfl | rfl | rfl | rfl | rfl : k = 1 ∨ k = 2 ∨ k = 3 ∨ k = 4 ∨ k = 5 ∨ k = 6 ∨ k = 7 ∨ k = 8 ∨ k = 9 ∨ k = 10 ∨ k = 11 ∨ k = 12 := by omega
  all_goals
    clear h
    go_enter Tryz.func73, Tryz.ntmps73
    go_wp2_with fail
    go_ret
    exact ⟨rfl, rfl⟩
def allK : List Int := [1, 2, 3, 4, 5, 6, 7, 8, 9, 10, 11, 12]
theorem arity_bd {k : Int} (h : 1 ≤ k ∧ k ≤ 12) : 1 ≤ arity k ∧ arity k ≤ 3 := by
  unfold arity
  split
  · omega
  · split
    · omega
    · rw [if_pos (by omega)]; omega
theorem own_cut {w : World} {base n j : Nat} {e : TypeId} {v : Value} {xs : List Value} (h : w.ownsRow base e 1 v n xs) (hl : xs.length = n) (hj : j ≤ n) (hn : 0 < n) : ∃ g c, v = .slice (some ⟨g, 0, none⟩) n c ∧ n ≤ c ∧ c ≤ maxLen ∧ base ≤ g ∧ g < w.heap.size ∧ w.ownsRow base e 1 (.slice (some ⟨g, 0, none⟩) j c) j (xs.take j) := by
  rcases h.2 with ⟨_, h0⟩ | ⟨g, cap, cur, rfl, hb, hg, h1, h2, h3, h4⟩
  · omega
  · refine ⟨g, cap, rfl, h1, h2, hb, (Array.getElem?_eq_some_iff.1 hg).1, ⟨by simp; omega, .inr ⟨g, cap, cur, rfl, hb, hg, by omega, h2, h3, ?_⟩⟩⟩
    rw [← h4, List.take_take, Nat.min_eq_left (by omega), Nat.mul_one]
theorem dupF_no : ∀ (l pre : List Int), (pre ++ l).Nodup → dupF pre l = false
  | [], _, _ => rfl
  | x :: l, pre, h => by
    have h1 : x ∉ pre := by
      rw [List.nodup_append] at h
      intro hm
      exact h.2.2 x hm x (by simp) rfl
    unfold dupF
    rw [dupF_no l (pre ++ [x]) (by simpa using h)]
    simp [h1]
theorem chkG_perm {W Bt k : Int} {n : Nat} {zs : List Int} (hp : Perm n zs) (hW : W = n) (hBt : 0 ≤ Bt) (hk : 1 ≤ k ∧ k ≤ 12) (ha : arity k ≤ W) (f : Int) (hf : 0 ≤ f ∧ f ≤ Bt) : chkG W Bt ⟨k, zs.take (arity k).toNat, 0, f⟩ = 0 := by
  have h1 := arity_bd hk
  have hl := hp.len
  unfold chkG
  dsimp only
  rw [if_neg (by omega), if_neg (by rw [List.length_take]; omega), if_neg (by
    rw [Bool.not_eq_false, List.all_eq_true]
    intro z hz
    have := hp.range z (List.mem_of_mem_take hz)
    simp only [wireB, Bool.and_eq_true, decide_eq_true_eq]
    omega), if_neg (by
    rw [show dupI (zs.take (arity k).toNat) = false from dupF_no _ [] (by
      rw [List.nil_append]
      exact hp.nodup.sublist (List.take_sublist _ _))]
    decide), if_neg (by omega), if_neg (by omega)]
set_option maxRecDepth 100000 in
set_option maxHeartbeats 4000000 in
theorem Gate_calls (b R m n : Nat) (kv : Value) (w : World) (h : StoreAt w b R m) (hm : m ≤ 10000000) (hn : 1 ≤ n) (hn2 : n ≤ 100) (hk : IntsAt w b kv allK) :
    Calls Tryz.prog 30 #[.pointer (some ⟨b, 0, none⟩), .int .i64 n, kv] w fun e w' => ∃ (k : Int) (wv : Value) (ws : List Int), e = .returned (.agg #[.int .i64 k, wv, .int .i64 0, .int .i64 0]) ∧ (∀ Bt f, 0 ≤ Bt → 0 ≤ f ∧ f ≤ Bt → chkG n Bt ⟨k, ws, 0, f⟩ = 0) ∧ (1 ≤ k ∧ k ≤ 12) ∧
      w'.ownsRow w.heap.size 3 1 wv ws.length (ws.map (Value.int .i64)) ∧ StoreAt w' b R (m + 1 + n) ∧ w.grownBy w' (some b) := by
  have hbl := h.lt
  obtain ⟨A, c, hv, hc1, hc2, hc3⟩ := hk.form
  obtain ⟨kg, ko, rfl, hkb, hcell⟩ := hc3 (by decide)
  rw [show allK.length = 12 from rfl] at hv hc1 hcell
  subst hv
  have hcellAt : ∀ W' : World, w.grownBy W' (some b) → ∀ j : Nat, j < 12 → W'.cell? ⟨kg, ko + j, none⟩ = some (.int .i64 (j + 1)) := by
    intro W' hg j hj
    refine hg.cell ?_ (by intro e; have h2 : kg = b := Option.some.inj e; omega)
    rw [hcell j hj]
    congr 2
    rcases (by omega : j = 0 ∨ j = 1 ∨ j = 2 ∨ j = 3 ∨ j = 4 ∨ j = 5 ∨ j = 6 ∨ j = 7 ∨ j = 8 ∨ j = 9 ∨ j = 10 ∨ j = 11) with rfl | rfl | rfl | rfl | rfl | rfl | rfl | rfl | rfl | rfl | rfl | rfl <;> rfl
  have HC := Lib.hid hcellAt
  clear hcellAt hcell hc3 hk
  have hs0 := h.alloc (.cells #[.int .i64 0, .slice none 0 0, .int .i64 0, .int .i64 0] 61)
  have hg0 := grown_alloc (grown_refl w (some b)) (.cells #[.int .i64 0, .slice none 0 0, .int .i64 0, .int .i64 0] 61)
  have hR0 := Blk.new w 61 #[.int .i64 0, .slice none 0 0, .int .i64 0, .int .i64 0]
  unfold maxLen at hc2
  go_enter Tryz.func30, Tryz.ntmps30
  go_upto_region 1 with fail
  generalize hwa : w.alloc (.cells #[.int .i64 0, .slice none 0 0, .int .i64 0, .int .i64 0] 61) = wa at *
  go_wp2_with fail
  refine (less_calls b R _ _ _ hs0 (by omega) (by decide) (by decide)).mono ?_
  rintro e w1 ⟨r, rfl, r0, r1, hs1, hg1⟩
  have hR1 := hs0.blkKeep hg1 hR0 (by decide)
  have hg1 := gTrans hg0 hg1
  obtain ⟨q, rfl⟩ := Int.eq_ofNat_of_zero_le r0
  have hq : q < 12 := by omega
  have y0 := HC.out w1 hg1 q hq
  have y1 := HC.out w1 hg1 0 (by decide)
  have hkr : (1 : Int) ≤ (q : Int) + 1 ∧ (q : Int) + 1 ≤ 12 := by omega
  obtain ⟨kk, hkk⟩ : ∃ kk : Int, (q : Int) + 1 = kk := ⟨_, rfl⟩
  rw [hkk] at y0 hkr
  have hab := arity_bd hkr
  clear hs0 hg0 hR0 hwa hkk
  go_wp2_with fail
  refine (kArity_calls kk hkr _).mono ?_
  rintro e w' ⟨rfl, rfl⟩
  by_cases hcmp : (n : Int) < arity kk
  · have y1 : w'.cell? ⟨kg, ko, none⟩ = some (.int .i64 1) := y1
    clear y0
    go_wp2_with fail
    refine (Order_calls b R _ n _ hs1 (by omega) (by omega)).mono ?_
    rintro e w2 ⟨v, zs, rfl, hp, ho, hs2, hg2⟩
    have hR2 := hs1.blkKeep hg2 hR1 (by decide)
    have ho := own_base ho hg1.size
    have hg2 := gTrans hg1 hg2
    obtain ⟨ar, har⟩ : ∃ ar, Hid (arity 1 = ar) := ⟨_, rfl⟩
    have har1 : 1 ≤ ar ∧ ar ≤ n := by rw [← har.out]; exact ⟨by decide, by show (1 : Int) ≤ n; omega⟩
    obtain ⟨g, c2, rfl, hnc, hcm, hbg, hgl, ho2⟩ := own_cut ho (by rw [List.length_map]; exact hp.len) (j := ar.toNat) (by omega) (by omega)
    have q0 : (0 : Int) ≤ ar := by omega
    have q1 : ar ≤ (c2 : Int) := by omega
    have ha := kArity_calls 1 (by decide) w2
    rw [har.out] at ha
    have HA := Lib.hid ha
    clear hR1 hs1 hg1 ha ho
    have HP := Lib.hid hp
    clear hp
    unfold maxLen at hcm
    go_wp2_with fail
    refine HA.out.mono ?_
    rintro e w3 ⟨rfl, rfl⟩
    obtain ⟨z0, z1, z2, z3, zf⟩ := hR2.cells4
    go_wp2_with fail
    have hF := hR2.put4 (a' := .int .i64 1) (b' := .slice (some ⟨g, 0, none⟩) ar.toNat c2) (c' := .int .i64 0) (d' := .int .i64 0)
    have gF : w3.grownBy ((((w3.setCell ⟨w.heap.size, 0, none⟩ (.int .i64 1)).setCell ⟨w.heap.size, 1, none⟩ (.slice (some ⟨g, 0, none⟩) ar.toNat c2)).setCell ⟨w.heap.size, 2, none⟩ (.int .i64 0)).setCell ⟨w.heap.size, 3, none⟩ (.int .i64 0)) (some w.heap.size) := gSet (gSet (gSet (gSet (grown_refl w3 _) 0 _) 1 _) 2 _) 3 _
    have hs5 := hs2.other gF (fun k e => by obtain rfl := Option.some.inj e; have := h.top; exact ⟨by omega, this⟩)
    have ho5 := own_keep ho2 (fun k cur _ hk => gF.block k hk.lt (fun e => hk.ne_ hR2 (by decide) (Option.some.inj e)))
    have hg5 := grown_new hg2 gF (fun k e => by obtain rfl := Option.some.inj e; exact Nat.le_refl _)
    clear z0 z1 z2 z3 zf gF hs2 ho2 hg2 hR2 HA HC ho
    generalize (((w3.setCell ⟨w.heap.size, 0, none⟩ (.int .i64 1)).setCell ⟨w.heap.size, 1, none⟩ (.slice (some ⟨g, 0, none⟩) ar.toNat c2)).setCell ⟨w.heap.size, 2, none⟩ (.int .i64 0)).setCell ⟨w.heap.size, 3, none⟩ (.int .i64 0) = wf at *
    obtain ⟨z0, z1, z2, z3, _⟩ := hF.cells4
    have hp := HP.out
    have hl : (zs.take ar.toNat).length = ar.toNat := by rw [List.length_take, hp.len]; omega
    have ho6 : wf.ownsRow w.heap.size 3 1 (.slice (some ⟨g, 0, none⟩) ar.toNat c2) (zs.take ar.toNat).length ((zs.take ar.toNat).map (Value.int .i64)) := by rw [hl, List.map_take]; exact ho5
    refine bodyPost_ret (v := .agg #[.int .i64 1, .slice (some ⟨g, 0, none⟩) ar.toNat c2, .int .i64 0, .int .i64 0]) (by simp [results, Tryz.results30, go_sem, z0, z1, z2, z3]) rfl ⟨1, _, zs.take ar.toNat, rfl, fun Bt f b0 f0 => ?_, (by decide), ho6, hs5, hg5⟩
    have hq : ar = arity 1 := har.out.symm
    subst hq
    exact chkG_perm hp rfl b0 (by decide) har1.2 f f0
  · clear y0 y1
    go_wp2_with fail
    refine (Order_calls b R _ n _ hs1 (by omega) (by omega)).mono ?_
    rintro e w2 ⟨v, zs, rfl, hp, ho, hs2, hg2⟩
    have hR2 := hs1.blkKeep hg2 hR1 (by decide)
    have ho := own_base ho hg1.size
    have hg2 := gTrans hg1 hg2
    obtain ⟨ar, har⟩ : ∃ ar, Hid (arity kk = ar) := ⟨_, rfl⟩
    have har1 : 1 ≤ ar ∧ ar ≤ n := by rw [← har.out]; exact ⟨hab.1, by omega⟩
    obtain ⟨g, c2, rfl, hnc, hcm, hbg, hgl, ho2⟩ := own_cut ho (by rw [List.length_map]; exact hp.len) (j := ar.toNat) (by omega) (by omega)
    have q0 : (0 : Int) ≤ ar := by omega
    have q1 : ar ≤ (c2 : Int) := by omega
    have ha := kArity_calls kk hkr w2
    rw [har.out] at ha
    have HA := Lib.hid ha
    clear hR1 hs1 hg1 ha ho
    have HP := Lib.hid hp
    clear hp
    unfold maxLen at hcm
    go_wp2_with fail
    refine HA.out.mono ?_
    rintro e w3 ⟨rfl, rfl⟩
    obtain ⟨z0, z1, z2, z3, zf⟩ := hR2.cells4
    go_wp2_with fail
    have hF := hR2.put4 (a' := .int .i64 kk) (b' := .slice (some ⟨g, 0, none⟩) ar.toNat c2) (c' := .int .i64 0) (d' := .int .i64 0)
    have gF : w3.grownBy ((((w3.setCell ⟨w.heap.size, 0, none⟩ (.int .i64 kk)).setCell ⟨w.heap.size, 1, none⟩ (.slice (some ⟨g, 0, none⟩) ar.toNat c2)).setCell ⟨w.heap.size, 2, none⟩ (.int .i64 0)).setCell ⟨w.heap.size, 3, none⟩ (.int .i64 0)) (some w.heap.size) := gSet (gSet (gSet (gSet (grown_refl w3 _) 0 _) 1 _) 2 _) 3 _
    have hs5 := hs2.other gF (fun k e => by obtain rfl := Option.some.inj e; have := h.top; exact ⟨by omega, this⟩)
    have ho5 := own_keep ho2 (fun k cur _ hk => gF.block k hk.lt (fun e => hk.ne_ hR2 (by decide) (Option.some.inj e)))
    have hg5 := grown_new hg2 gF (fun k e => by obtain rfl := Option.some.inj e; exact Nat.le_refl _)
    clear z0 z1 z2 z3 zf gF hs2 ho2 hg2 hR2 HA HC ho
    generalize (((w3.setCell ⟨w.heap.size, 0, none⟩ (.int .i64 kk)).setCell ⟨w.heap.size, 1, none⟩ (.slice (some ⟨g, 0, none⟩) ar.toNat c2)).setCell ⟨w.heap.size, 2, none⟩ (.int .i64 0)).setCell ⟨w.heap.size, 3, none⟩ (.int .i64 0) = wf at *
    obtain ⟨z0, z1, z2, z3, _⟩ := hF.cells4
    have hp := HP.out
    have hl : (zs.take ar.toNat).length = ar.toNat := by rw [List.length_take, hp.len]; omega
    have ho6 : wf.ownsRow w.heap.size 3 1 (.slice (some ⟨g, 0, none⟩) ar.toNat c2) (zs.take ar.toNat).length ((zs.take ar.toNat).map (Value.int .i64)) := by rw [hl, List.map_take]; exact ho5
    refine bodyPost_ret (v := .agg #[.int .i64 kk, .slice (some ⟨g, 0, none⟩) ar.toNat c2, .int .i64 0, .int .i64 0]) (by simp [results, Tryz.results30, go_sem, z0, z1, z2, z3]) rfl ⟨kk, _, zs.take ar.toNat, rfl, fun Bt f b0 f0 => ?_, hkr, ho6, hs5, hg5⟩
    have hq : ar = arity kk := har.out.symm
    subst hq
    exact chkG_perm hp rfl b0 hkr har1.2 f f0
end Go.Proofs.YtonnegkpjmhomaaGreatDoor
end
section
set_option linter.all false
namespace Go.Proofs.YtonnegkpjmhomaaGreatDoor
open Go.RowKit
theorem GsAt.but {w w' : World} {n0 k : Nat} {gv : Value} {gw : List (Gt × Value)} {t : TypeId} {cs : Array Value} (h : GsAt w n0 gv gw) (g : w.grownBy w' (some k)) (hk : Blk w k t cs) (ht : t ≠ 3) (hne : gv.ownBlock ≠ some k) : GsAt w' n0 gv gw :=
  ⟨h.row.kept g (.inr hne), fun p hp => own_keep (h.each p hp) (fun j cur _ hj => g.block j hj.lt (fun e => hj.ne_ hk (Ne.symm ht) (Option.some.inj e)))⟩
structure StSt (w wx : World) (b R m C : Nat) (W Bt : Int) (gv : Value) (gw : List (Gt × Value)) : Prop where
  res : Blk wx w.heap.size 25 #[.int .i64 0, .int .i64 0, .slice none 0 0]
  c : Blk wx C 25 #[.int .i64 W, .int .i64 Bt, gv]
  gs : GsAt wx w.heap.size gv gw
  right : ∀ p ∈ gw, chkG W Bt p.1 = 0
  store : StoreAt wx b R m
  kept : w.grownBy wx (some b)
  hR : R ≤ w.heap.size
  hb : b < w.heap.size
  hC : w.heap.size < C
theorem StSt.draw {w wx w' : World} {b R m m' C : Nat} {W Bt : Int} {gv : Value} {gw : List (Gt × Value)} (h : StSt w wx b R m C W Bt gv gw) (hs : StoreAt w' b R m') (g : wx.grownBy w' (some b)) : StSt w w' b R m' C W Bt gv gw :=
  ⟨h.store.blkKeep g h.res (by decide), h.store.blkKeep g h.c (by decide), h.store.gsKeep g h.gs, h.right, hs, gTrans h.kept g, h.hR, h.hb, h.hC⟩
theorem StSt.alloc {w wx : World} {b R m C : Nat} {W Bt : Int} {gv : Value} {gw : List (Gt × Value)} (h : StSt w wx b R m C W Bt gv gw) (o : Obj) : StSt w (wx.alloc o) b R m C W Bt gv gw :=
  ⟨h.res.alloc o, h.c.alloc o, h.gs.below (below1 _ _), h.right, h.store.alloc o, grown_alloc h.kept o, h.hR, h.hb, h.hC⟩
theorem StSt.more {w wx : World} {b R m m' C : Nat} {W Bt : Int} {gv : Value} {gw : List (Gt × Value)} (h : StSt w wx b R m C W Bt gv gw) (hm : m ≤ m') : StSt w wx b R m' C W Bt gv gw :=
  ⟨h.res, h.c, h.gs, h.right, h.store.mono hm, h.kept, h.hR, h.hb, h.hC⟩
theorem StSt.box {w wx w' : World} {b R m C G : Nat} {W Bt : Int} {gv : Value} {gw : List (Gt × Value)} {cs : Array Value} (h : StSt w wx b R m C W Bt gv gw) (hG : Blk wx G 61 cs) (g : wx.grownBy w' (some G)) (hG1 : w.heap.size ≤ G) (hne : gv.ownBlock ≠ some G) : StSt w w' b R m C W Bt gv gw := by
  obtain ⟨cs', hb⟩ := h.store.blk
  exact ⟨h.res.grown g (fun e => h.res.ne_ hG (by decide) (Option.some.inj e)), h.c.grown g (fun e => h.c.ne_ hG (by decide) (Option.some.inj e)), h.gs.but g hG (by decide) hne, h.right,
    h.store.other g (fun k e => by obtain rfl := Option.some.inj e; have := h.hR; exact ⟨fun e2 => hG.ne_ hb (by decide) e2, by omega⟩), grown_new h.kept g (fun k e => by obtain rfl := Option.some.inj e; exact hG1), h.hR, h.hb, h.hC⟩
structure Boxed (w wx : World) (b R m C G : Nat) (W Bt : Int) (gv : Value) (gw : List (Gt × Value)) (g : Gt) (wv : Value) : Prop where
  st : StSt w wx b R m C W Bt gv gw
  box : Blk wx G 61 #[.int .i64 g.kind, wv, .int .i64 g.bit, .int .i64 g.ifn]
  own : wx.ownsRow w.heap.size 3 1 wv g.wires.length (g.wires.map (Value.int .i64))
  right : chkG W Bt g = 0
  hG : w.heap.size ≤ G
  hne : gv.ownBlock ≠ some G
def Staged (w wx : World) (b R m C G : Nat) (W Bt : Int) (gv : Value) (gw : List (Gt × Value)) : Prop := ∃ g wv, Boxed w wx b R m C G W Bt gv gw g wv
theorem Boxed.draw {w wx w' : World} {b R m m' C G : Nat} {W Bt : Int} {gv wv : Value} {gw : List (Gt × Value)} {g : Gt} (h : Boxed w wx b R m C G W Bt gv gw g wv) (hs : StoreAt w' b R m') (hg : wx.grownBy w' (some b)) : Boxed w w' b R m' C G W Bt gv gw g wv :=
  ⟨h.st.draw hs hg, h.st.store.blkKeep hg h.box (by decide), h.st.store.ownKeep hg h.own (by decide), h.right, h.hG, h.hne⟩
theorem Boxed.alloc {w wx : World} {b R m C G : Nat} {W Bt : Int} {gv wv : Value} {gw : List (Gt × Value)} {g : Gt} (h : Boxed w wx b R m C G W Bt gv gw g wv) (o : Obj) : Boxed w (wx.alloc o) b R m C G W Bt gv gw g wv :=
  ⟨h.st.alloc o, h.box.alloc o, h.own.alloc o, h.right, h.hG, h.hne⟩
theorem Boxed.more {w wx : World} {b R m m' C G : Nat} {W Bt : Int} {gv wv : Value} {gw : List (Gt × Value)} {g : Gt} (h : Boxed w wx b R m C G W Bt gv gw g wv) (hm : m ≤ m') : Boxed w wx b R m' C G W Bt gv gw g wv := ⟨h.st.more hm, h.box, h.own, h.right, h.hG, h.hne⟩
theorem Boxed.put {w wx : World} {b R m C G : Nat} {W Bt : Int} {gv wv : Value} {gw : List (Gt × Value)} {g : Gt} (h : Boxed w wx b R m C G W Bt gv gw g wv) (g' : Gt) (wv' : Value)
    (ho : wx.ownsRow w.heap.size 3 1 wv' g'.wires.length (g'.wires.map (Value.int .i64))) (hr : chkG W Bt g' = 0) :
    Boxed w ((((wx.setCell ⟨G, 0, none⟩ (.int .i64 g'.kind)).setCell ⟨G, 1, none⟩ wv').setCell ⟨G, 2, none⟩ (.int .i64 g'.bit)).setCell ⟨G, 3, none⟩ (.int .i64 g'.ifn)) b R m C G W Bt gv gw g' wv' := by
  have gF : wx.grownBy ((((wx.setCell ⟨G, 0, none⟩ (.int .i64 g'.kind)).setCell ⟨G, 1, none⟩ wv').setCell ⟨G, 2, none⟩ (.int .i64 g'.bit)).setCell ⟨G, 3, none⟩ (.int .i64 g'.ifn)) (some G) := gSet (gSet (gSet (gSet (grown_refl wx _) 0 _) 1 _) 2 _) 3 _
  exact ⟨h.st.box h.box gF h.hG h.hne, h.box.put4, own_keep ho (fun k cur _ hk => gF.block k hk.lt (fun e => hk.ne_ h.box (by decide) (Option.some.inj e))), hr, h.hG, h.hne⟩
theorem Boxed.ifn {w wx : World} {b R m C G : Nat} {W Bt : Int} {gv wv : Value} {gw : List (Gt × Value)} {g : Gt} (h : Boxed w wx b R m C G W Bt gv gw g wv) (f : Int) (hr : chkG W Bt ⟨g.kind, g.wires, g.bit, f⟩ = 0) :
    Boxed w (wx.setCell ⟨G, 3, none⟩ (.int .i64 f)) b R m C G W Bt gv gw ⟨g.kind, g.wires, g.bit, f⟩ wv := by
  have gF : wx.grownBy (wx.setCell ⟨G, 3, none⟩ (.int .i64 f)) (some G) := gSet (grown_refl wx _) 3 _
  exact ⟨h.st.box h.box gF h.hG h.hne, h.box.set_ 3 _, own_keep h.own (fun k cur _ hk => gF.block k hk.lt (fun e => hk.ne_ h.box (by decide) (Option.some.inj e))), hr, h.hG, h.hne⟩
theorem chk_measure {W Bt x y : Int} (hx : 0 ≤ x ∧ x < W) (hy : 0 ≤ y ∧ y < Bt) : chkG W Bt ⟨13, [x], y, 0⟩ = 0 := by
  unfold chkG
  dsimp only
  rw [if_neg (by simp [arity]), if_neg (by simp [arity]), if_neg (by simp [wireB, hx.1, hx.2]), if_neg (by simp [dupI, dupF]), if_neg (by omega), if_neg (by omega)]
theorem chk_reset {W Bt x : Int} (hx : 0 ≤ x ∧ x < W) (hy : 0 ≤ Bt) : chkG W Bt ⟨14, [x], 0, 0⟩ = 0 := by
  unfold chkG
  dsimp only
  rw [if_neg (by simp [arity]), if_neg (by simp [arity]), if_neg (by simp [wireB, hx.1, hx.2]), if_neg (by simp [dupI, dupF]), if_neg (by omega), if_neg (by omega)]
theorem own_one (w : World) (base : Nat) (x : Int) (hb : base ≤ w.heap.size) : (w.alloc (.cells #[.int .i64 x] 3)).ownsRow base 3 1 (.slice (some ⟨w.heap.size, 0, none⟩) 1 1) 1 [.int .i64 x] :=
  ⟨rfl, .inr ⟨w.heap.size, 1, _, rfl, hb, Blk.new w _ _, Nat.le_refl _, by unfold maxLen; omega, rfl, rfl⟩⟩
theorem StSt.fin {w wx : World} {b R m C : Nat} {W Bt : Int} {gv : Value} {gw : List (Gt × Value)} (h : StSt w wx b R m C W Bt gv gw) :
    Blk (((wx.setCell ⟨w.heap.size, 0, none⟩ (.int .i64 W)).setCell ⟨w.heap.size, 1, none⟩ (.int .i64 Bt)).setCell ⟨w.heap.size, 2, none⟩ gv) w.heap.size 25 #[.int .i64 W, .int .i64 Bt, gv] ∧
    GsAt (((wx.setCell ⟨w.heap.size, 0, none⟩ (.int .i64 W)).setCell ⟨w.heap.size, 1, none⟩ (.int .i64 Bt)).setCell ⟨w.heap.size, 2, none⟩ gv) w.heap.size gv gw ∧
    StoreAt (((wx.setCell ⟨w.heap.size, 0, none⟩ (.int .i64 W)).setCell ⟨w.heap.size, 1, none⟩ (.int .i64 Bt)).setCell ⟨w.heap.size, 2, none⟩ gv) b R m ∧
    w.grownBy (((wx.setCell ⟨w.heap.size, 0, none⟩ (.int .i64 W)).setCell ⟨w.heap.size, 1, none⟩ (.int .i64 Bt)).setCell ⟨w.heap.size, 2, none⟩ gv) (some b) := by
  have gF : wx.grownBy (((wx.setCell ⟨w.heap.size, 0, none⟩ (.int .i64 W)).setCell ⟨w.heap.size, 1, none⟩ (.int .i64 Bt)).setCell ⟨w.heap.size, 2, none⟩ gv) (some w.heap.size) := gSet (gSet (gSet (grown_refl wx _) 0 _) 1 _) 2 _
  exact ⟨((h.res.set_ 0 _).set_ 1 _).set_ 2 _, h.gs.far h.res (by decide) (by decide) gF, h.store.other gF (fun k e => by obtain rfl := Option.some.inj e; have := h.hb; exact ⟨by omega, h.hR⟩), grown_new h.kept gF (fun k e => by obtain rfl := Option.some.inj e; exact Nat.le_refl _)⟩
theorem own_row_of {w : World} {base size n : Nat} {e : TypeId} {v : Value} {xs : List Value} {k : Nat} (h : w.ownsRow base e size v n xs) (hk : v.ownBlock = some k) : base ≤ k ∧ ∃ cur, Blk w k e cur := by
  rcases h.2 with ⟨rfl, _⟩ | ⟨g, cap, cur, rfl, hb, hg, _⟩
  · cases hk
  · obtain rfl : g = k := Option.some.inj hk
    exact ⟨hb, cur, hg⟩
theorem StSt.app {w wx w7 : World} {b R m C : Nat} {W Bt : Int} {gv v' : Value} {gw : List (Gt × Value)} {p : Gt × Value}
    (h : StSt w wx b R m C W Bt gv gw) (hp : wx.ownsRow w.heap.size 3 1 p.2 p.1.wires.length (p.1.wires.map (Value.int .i64))) (hr : chkG W Bt p.1 = 0)
    (hown : w7.ownsRow w.heap.size 61 4 v' (gw.length + 1) (gatesC gw ++ gateC p)) (hg : wx.grownBy w7 gv.ownBlock) :
    StSt w (w7.setCell ⟨C, 2, none⟩ v') b R m C W Bt v' (gw ++ [p]) := by
  have hrr := fun k e => own_row_of (k := k) h.gs.row e
  have ne_ : ∀ {g : Nat} {t : TypeId} {cs : Array Value}, Blk wx g t cs → t ≠ 61 → gv.ownBlock ≠ some g := fun hb ht e => by
    obtain ⟨_, cur, hc⟩ := hrr _ e
    exact hc.ne_ hb (Ne.symm ht) rfl
  have own_ : ∀ {base : Nat} {t : TypeId} {size n : Nat} {v : Value} {xs : List Value}, wx.ownsRow base t size v n xs → t ≠ 61 → w7.ownsRow base t size v n xs := fun ho ht => own_keep ho (fun j cur _ hj => hg.block j hj.lt (fun e => ne_ hj ht e.symm))
  obtain ⟨cb, hbb⟩ := h.store.blk
  have c7 := h.c.grown hg (fun e => ne_ h.c (by decide) e.symm)
  have gF : w7.grownBy (w7.setCell ⟨C, 2, none⟩ v') (some C) := gSet (grown_refl w7 _) 2 v'
  have s7 := h.store.other hg (fun k e => ⟨fun e2 => ne_ hbb (by decide) (by rw [e, e2]), by have := (hrr k e).1; have := h.hR; omega⟩)
  obtain ⟨cb7, hbb7⟩ := s7.blk
  refine ⟨(h.res.grown hg (fun e => ne_ h.res (by decide) e.symm)).far (by have := h.hC; show w.heap.size ≠ C; omega) _, c7.set_ 2 v', ⟨?_, ?_⟩, ?_, s7.other gF (fun k e => ?_), grown_new (grown_new h.kept hg (fun k e => (hrr k e).1)) gF (fun k e => ?_), h.hR, h.hb, h.hC⟩
  · rw [gatesC_snoc, List.length_append]
    exact own_keep hown (fun j cur _ hj => gF.block j hj.lt (fun e => hj.ne_ c7 (by decide) (Option.some.inj e)))
  · intro q hq
    have hq2 : wx.ownsRow w.heap.size 3 1 q.2 q.1.wires.length (q.1.wires.map (Value.int .i64)) := by
      rcases List.mem_append.1 hq with hq | hq
      · exact h.gs.each q hq
      · rw [List.mem_singleton.1 hq]; exact hp
    exact own_keep (own_ hq2 (by decide)) (fun j cur _ hj => gF.block j hj.lt (fun e => hj.ne_ c7 (by decide) (Option.some.inj e)))
  · intro q hq
    rcases List.mem_append.1 hq with hq | hq
    · exact h.right q hq
    · rw [List.mem_singleton.1 hq]; exact hr
  · obtain rfl := Option.some.inj e
    exact ⟨fun e2 => c7.ne_ hbb7 (by decide) e2, by have := h.hR; have := h.hC; omega⟩
  · obtain rfl := Option.some.inj e
    exact Nat.le_of_lt h.hC
theorem infoG : (Tryz.prog.info? 61).map (fun i => (i.zero, i.size, i.bytes)) = some (some (.agg #[.int .i64 0, .slice none 0 0, .int .i64 0, .int .i64 0]), 4, 48) := by kernel_rfl
set_option maxRecDepth 100000 in
set_option maxHeartbeats 8000000 in
theorem Steered_calls (b R m n : Nat) (Bt : Int) (kv : Value) (w : World) (h : StoreAt w b R m) (hm : m ≤ 1000000) (hn : 1 ≤ n ∧ n ≤ 12) (hB : 0 ≤ Bt ∧ Bt ≤ 8) (hk : IntsAt w b kv allK) :
    Calls Tryz.prog 37 #[.pointer (some ⟨b, 0, none⟩), .int .i64 n, .int .i64 Bt, .int .i64 12, kv] w fun e w' => ∃ gv gw, e = .returned (.agg #[.int .i64 n, .int .i64 Bt, gv]) ∧ chkC ⟨n, Bt, gw.map (·.1)⟩ = 0 ∧ gw.length ≤ 12 ∧ GsAt w' w.heap.size gv gw ∧ StoreAt w' b R (m + 5000) ∧ w.grownBy w' (some b) := by
  have hbl := h.lt
  have hR := h.top
  obtain ⟨A, c, hv, _⟩ := id hk.form
  rw [show allK.length = 12 from rfl] at hv
  subst hv
  have HK := Lib.hid hk
  have hs0 : StSt w ((w.alloc (.cells #[.int .i64 0, .int .i64 0, .slice none 0 0] 25)).alloc (.cells #[.int .i64 n, .int .i64 Bt, .slice none 0 0] 25)) b R m (w.heap.size + 1) n Bt (.slice none 0 0) [] :=
    ⟨(Blk.new w _ _).alloc _, Blk.at_ _ _ _ (by simp), ⟨World.ownsRow_nil _ _ _ _, (fun p hp => by cases hp)⟩, (fun p hp => by cases hp), (h.alloc _).alloc _, grown_alloc (grown_alloc (grown_refl w _) _) _, hR, hbl, by omega⟩
  have H := Lib.hid h
  clear h hk
  go_enter Tryz.func37, Tryz.ntmps37
  go_upto_region 2 with fail
  generalize ((w.alloc (.cells #[.int .i64 0, .int .i64 0, .slice none 0 0] 25)).alloc (.cells #[.int .i64 n, .int .i64 Bt, .slice none 0 0] 25)) = wa at *
  obtain ⟨j0, hj0⟩ : ∃ j : Fin 13, j.val = 12 := ⟨12, rfl⟩
  go_wp2_with fail
  refine (less_calls b R _ _ _ hs0.store (by omega) (by decide) (by decide)).mono ?_
  rintro e w1 ⟨r, rfl, r0, r1, hs1, hg1⟩
  have hs1 := hs0.draw hs1 hg1
  obtain ⟨q, rfl⟩ := Int.eq_ofNat_of_zero_le r0
  have hq : q ≤ 12 := by omega
  have hq2 : (q : Int) ≤ 12 := by omega
  clear hs0 hg1 r0 r1 hj0 j0
  go_wp2_with fail
  go_loopg [20, 12, 26, 41, 49] q (fun gk s20 _ _ _ _ wr => ∃ (k : Nat) (gv : Value) (gw : List (Gt × Value)), k + gk = q ∧ s20 = .int .i64 k ∧ gw.length = k ∧ StSt w wr b R (m + 1 + 300 * k) (w.heap.size + 1) n Bt gv gw)
  case atStart => exact ⟨0, _, [], by omega, rfl, rfl, hs1.more (by omega)⟩
  case round =>
    clear hs1
    obtain ⟨k, gv, gw, hk, rfl, hlen, hs⟩ := hrel
    cases gk with
    | zero =>
      obtain rfl : k = q := by omega
      obtain ⟨Ag, cg, rfl⟩ := own_form hs.gs.row
      obtain ⟨x0, x1, x2⟩ : wr.cell? ⟨w.heap.size + 1, 0, none⟩ = some (.int .i64 n) ∧ wr.cell? ⟨w.heap.size + 1, 1, none⟩ = some (.int .i64 Bt) ∧ wr.cell? ⟨w.heap.size + 1, 2, none⟩ = some (.slice Ag gw.length cg) := ⟨hs.c.cell 0, hs.c.cell 1, hs.c.cell 2⟩
      obtain ⟨y0, y1, y2⟩ : wr.cell? ⟨w.heap.size, 0, none⟩ = some (.int .i64 0) ∧ wr.cell? ⟨w.heap.size, 1, none⟩ = some (.int .i64 0) ∧ wr.cell? ⟨w.heap.size, 2, none⟩ = some (.slice none 0 0) := ⟨hs.res.cell 0, hs.res.cell 1, hs.res.cell 2⟩
      have yf := hs.res.frozen
      have Hs := Lib.hid hs
      have Hl := Lib.hid hlen
      clear hs hlen
      go_wp2_with fail
      obtain ⟨hF, hG, hS, hK⟩ := Hs.out.fin
      clear x0 x1 x2 y0 y1 y2 yf
      generalize ((wr.setCell ⟨w.heap.size, 0, none⟩ (.int .i64 n)).setCell ⟨w.heap.size, 1, none⟩ (.int .i64 Bt)).setCell ⟨w.heap.size, 2, none⟩ (.slice Ag gw.length cg) = wf at *
      obtain ⟨y0, y1, y2⟩ : wf.cell? ⟨w.heap.size, 0, none⟩ = some (.int .i64 n) ∧ wf.cell? ⟨w.heap.size, 1, none⟩ = some (.int .i64 Bt) ∧ wf.cell? ⟨w.heap.size, 2, none⟩ = some (.slice Ag gw.length cg) := ⟨hF.cell 0, hF.cell 1, hF.cell 2⟩
      have hl := Hl.out
      refine bodyPost_ret (v := .agg #[.int .i64 n, .int .i64 Bt, .slice Ag gw.length cg]) (by simp [results, Tryz.results37, go_sem, y0, y1, y2]) rfl ⟨_, gw, rfl, ?_, by omega, hG, hS.mono (by omega), hK⟩
      refine chkC_mk (by dsimp only; omega) hB (by rw [List.length_map]; omega) (fun g hg => ?_)
      obtain ⟨p, hp, rfl⟩ := List.mem_map.1 hg
      exact Hs.out.right p hp
    | succ g1 =>
      have hlt : (k : Int) < q := by omega
      have hk0 : (0 : Int) ≤ (k : Int) := by omega
      go_wp2_with fail
      refine (Gate_calls b R _ n _ _ hs.store (by omega) hn.1 (by omega) (ints_grown HK.out (Nat.le_of_lt hbl) hs.kept)).mono ?_
      rintro e w2 ⟨gk2, wv, ws, rfl, hok, hgk, ho, hs2, hg2⟩
      have hs2 := hs.draw hs2 hg2
      have ho := own_base ho hs.kept.size
      have hbx : Boxed w (w2.alloc (.cells #[.int .i64 gk2, wv, .int .i64 0, .int .i64 0] 61)) b R (m + 1 + 300 * k + 1 + n) (w.heap.size + 1) w2.heap.size n Bt gv gw ⟨gk2, ws, 0, 0⟩ wv :=
        ⟨hs2.alloc _, Blk.new _ _ _, ho.alloc _, hok Bt 0 hB.1 ⟨by omega, hB.1⟩, hs2.kept.size, fun e => by have := (hs2.gs.row.lt _ e).2; omega⟩
      have hok2 := fun f h => hok Bt f hB.1 h
      clear hs hg2 hs2 ho hok
      obtain ⟨Aw, cw, rfl⟩ := own_form hbx.own
      go_upto_block 2 with fail
      clear ho hs2
      generalize w2.alloc (.cells #[.int .i64 gk2, .slice Aw ws.length cw, .int .i64 0, .int .i64 0] 61) = wb at *
      generalize w2.heap.size = G at *
      go_cut [26, 41, 49] from 27 to 59 (fun _ _ _ wx => Staged w wx b R (m + 1 + 300 * k + 100) (w.heap.size + 1) G n Bt gv gw)
      case first =>
        by_cases hb0 : 0 < Bt
        · have hbd : decide (0 < Bt) = true := decide_eq_true hb0
          go_wp2_with fail
          refine (seldom_calls b R _ _ _ hbx.st.store (by omega) (by decide) (by decide)).mono ?_
          rintro e w3 ⟨v3, rfl, hs3, hg3⟩
          have hbx := hbx.draw hs3 hg3
          clear hs3 hg3
          cases v3
          · go_wp2_with fail
            refine (seldom_calls b R _ _ _ hbx.st.store (by omega) (by decide) (by decide)).mono ?_
            rintro e w3 ⟨v4, rfl, hs3, hg3⟩
            have hbx := hbx.draw hs3 hg3
            clear hs3 hg3
            cases v4
            · go_wp2_with fail
              refine (seldom_calls b R _ _ _ hbx.st.store (by omega) (by decide) (by decide)).mono ?_
              rintro e w3 ⟨v5, rfl, hs3, hg3⟩
              have hbx := hbx.draw hs3 hg3
              clear hs3 hg3
              cases v5
              · have HB := Lib.hid hbx
                clear hbx
                go_wp2_with fail
                go_meet
                exact ⟨_, _, HB.out.more (by omega)⟩
              · go_wp2_with fail
                refine (from_calls b R _ _ _ _ hbx.st.store (by omega) (by decide) (by omega) (by omega)).mono ?_
                rintro e w4 ⟨f, rfl, f0, f1, hs4, hg4⟩
                have hbx := hbx.draw hs4 hg4
                clear hs4 hg4
                have HB := Lib.hid hbx
                have HF := Lib.hid (hok2 f ⟨by omega, f1⟩)
                obtain ⟨z0, z1, z2, z3, zf⟩ := hbx.box.cells4
                clear hbx
                go_wp2_with fail
                go_meet
                exact ⟨_, _, (HB.out.ifn f HF.out).more (by omega)⟩
            · go_wp2_with fail
              refine (less_calls b R _ _ _ hbx.st.store (by omega) (by omega) (by omega)).mono ?_
              rintro e w4 ⟨x, rfl, x0, x1, hs4, hg4⟩
              have hbx := hbx.draw hs4 hg4
              clear hs4 hg4
              have ho := own_one w4 w.heap.size x hbx.st.kept.size
              have hbx := hbx.alloc (.cells #[.int .i64 x] 3)
              have HB := Lib.hid hbx
              have HO := Lib.hid ho
              obtain ⟨z0, z1, z2, z3, zf⟩ := hbx.box.cells4
              clear hbx ho
              go_wp2_with fail
              go_meet
              exact ⟨⟨14, [x], 0, 0⟩, _, (HB.out.put ⟨14, [x], 0, 0⟩ _ HO.out (chk_reset ⟨x0, x1⟩ hB.1)).more (by omega)⟩
          · go_wp2_with fail
            refine (less_calls b R _ _ _ hbx.st.store (by omega) (by omega) (by omega)).mono ?_
            rintro e w4 ⟨x, rfl, x0, x1, hs4, hg4⟩
            have hbx := hbx.draw hs4 hg4
            clear hs4 hg4
            have ho := own_one w4 w.heap.size x hbx.st.kept.size
            have hbx := hbx.alloc (.cells #[.int .i64 x] 3)
            go_wp2_with fail
            refine (less_calls b R _ _ _ hbx.st.store (by omega) (by omega) (by omega)).mono ?_
            rintro e w5 ⟨y, rfl, y0, y1, hs5, hg5⟩
            have ho := hbx.st.store.ownKeep hg5 ho (by decide)
            have hbx := hbx.draw hs5 hg5
            clear hs5 hg5
            have HB := Lib.hid hbx
            have HO := Lib.hid ho
            obtain ⟨z0, z1, z2, z3, zf⟩ := hbx.box.cells4
            clear hbx ho
            go_wp2_with fail
            go_meet
            exact ⟨⟨13, [x], y, 0⟩, _, (HB.out.put ⟨13, [x], y, 0⟩ _ HO.out (chk_measure ⟨x0, x1⟩ ⟨y0, y1⟩)).more (by omega)⟩
        · have hbd : decide (0 < Bt) = false := decide_eq_false hb0
          go_wp2_with fail
          refine (seldom_calls b R _ _ _ hbx.st.store (by omega) (by decide) (by decide)).mono ?_
          rintro e w3 ⟨v4, rfl, hs3, hg3⟩
          have hbx := hbx.draw hs3 hg3
          clear hs3 hg3
          cases v4
          · have HB := Lib.hid hbx
            clear hbx
            go_wp2_with fail
            go_meet
            exact ⟨_, _, HB.out.more (by omega)⟩
          · go_wp2_with fail
            refine (less_calls b R _ _ _ hbx.st.store (by omega) (by omega) (by omega)).mono ?_
            rintro e w4 ⟨x, rfl, x0, x1, hs4, hg4⟩
            have hbx := hbx.draw hs4 hg4
            clear hs4 hg4
            have ho := own_one w4 w.heap.size x hbx.st.kept.size
            have hbx := hbx.alloc (.cells #[.int .i64 x] 3)
            have HB := Lib.hid hbx
            have HO := Lib.hid ho
            obtain ⟨z0, z1, z2, z3, zf⟩ := hbx.box.cells4
            clear hbx ho
            go_wp2_with fail
            go_meet
            exact ⟨⟨14, [x], 0, 0⟩, _, (HB.out.put ⟨14, [x], 0, 0⟩ _ HO.out (chk_reset ⟨x0, x1⟩ hB.1)).more (by omega)⟩
      case rest =>
        clear hbx hok2
        obtain ⟨g, wv, hbx⟩ := hcut
        obtain ⟨Aw, cw, rfl⟩ := own_form hbx.own
        obtain ⟨Ag, cg, rfl⟩ := own_form hbx.st.gs.row
        obtain ⟨j0, hinf, hz0, hz1, hz2⟩ := info_parts infoG
        obtain ⟨x0, x1, x2⟩ : wc.cell? ⟨w.heap.size + 1, 0, none⟩ = some (.int .i64 n) ∧ wc.cell? ⟨w.heap.size + 1, 1, none⟩ = some (.int .i64 Bt) ∧ wc.cell? ⟨w.heap.size + 1, 2, none⟩ = some (.slice Ag gw.length cg) := ⟨hbx.st.c.cell 0, hbx.st.c.cell 1, hbx.st.c.cell 2⟩
        obtain ⟨y0, y1, y2, y3, yf⟩ := hbx.box.cells4
        have hst := hbx.st.alloc (.cells #[.int .i64 g.kind, .slice Aw g.wires.length cw, .int .i64 g.bit, .int .i64 g.ifn] 61)
        have HO := Lib.hid (hbx.own.alloc (.cells #[.int .i64 g.kind, .slice Aw g.wires.length cw, .int .i64 g.bit, .int .i64 g.ifn] 61))
        have HR := Lib.hid hbx.right
        have HS := Lib.hid hst
        have Hl := Lib.hid hlen
        have hg12 : gw.length + 1 ≤ 13 := by omega
        have xf := hbx.st.c.frozen
        have hks := hbx.st.kept.size
        clear hbx hst hlen
        go_wp2_with (at_builtin; refine wpList_append_own _ rfl _ _ 23 rfl w.heap.size 61 j0 _ 4 48 Tryz.underlying23 hinf hz0 hz1 hz2 rfl (by decide) _ _ _ rfl HS.out.gs.row ⟨wc.heap.size, 0, none⟩ 1 1 [.int .i64 g.kind, .slice Aw g.wires.length cw, .int .i64 g.bit, .int .i64 g.ifn] rfl rfl (row_new _ _ _) (by simp [Value.oneCell']) (by unfold maxLen; omega) (by omega) (by simp; omega) ?_; intro v' w7 hown' hgrow _; obtain ⟨g', cap', rfl⟩ := ownsRow_succ hown'; have hgrow : (wc.alloc (.cells #[.int .i64 g.kind, .slice Aw g.wires.length cw, .int .i64 g.bit, .int .i64 g.ifn] 61)).grownBy w7 (Value.slice Ag gw.length cg).ownBlock := hgrow; have c7 := HS.out.c.grown hgrow (fun e => by obtain ⟨_, cur, hc⟩ := own_row_of HS.out.gs.row e.symm; exact hc.ne_ HS.out.c (by decide) rfl); clear x0 x1 x2 xf y0 y1 y2 y3 yf; have x2 := c7.cell 2; have xf := c7.frozen; simp at x2)
        have H8 := Lib.hid (HS.out.app (p := (g, .slice Aw g.wires.length cw)) HO.out HR.out hown' hgrow)
        clear hown' hgrow c7 x2 xf HS HO HR hinf hz0 hz1 hz2
        go_wp2_with fail
        go_roundg g1
        case measure => omega
        case rel => exact ⟨k + 1, _, gw ++ [(g, .slice Aw g.wires.length cw)], by omega, by go_num, by rw [List.length_append]; have := Hl.out; simp; omega, H8.out.more (by omega)⟩
end Go.Proofs.YtonnegkpjmhomaaGreatDoor
end
section
set_option linter.all false
namespace Go.Proofs.YtonnegkpjmhomaaGreatDoor
open Go.RowKit
structure TabsA (w : World) : Prop where
  tabs : Tabs w
  all : ∃ kb ko c, w.cell? ⟨0, 0, none⟩ = some (.slice (some ⟨kb, ko, none⟩) 12 c) ∧ IntsAt w w.heap.size (.slice (some ⟨kb, ko, none⟩) 12 c) allK
theorem TabsA.below {w w' : World} (h : TabsA w) (hb : Below w.heap.size w w') : TabsA w' := by
  obtain ⟨kb, ko, c, h1, h2⟩ := h.all
  have hl : 0 < w.heap.size := World.block_lt_of_cell? w _ h1
  exact ⟨h.tabs.below hb, kb, ko, c, (hb.cell (p := ⟨0, 0, none⟩) hl).trans h1, (h2.below hb).more hb.size⟩
theorem StoreAt.otherB {w w' : World} {b R m k : Nat} {t : TypeId} {cs : Array Value} {x : Int} (h : StoreAt w b R m) (g : w.grownBy w' (some k)) (hk : Blk w k t cs) (hx : cs[0]? = some (.int .i64 x)) (ht : t ≠ 80) : StoreAt w' b R m := by
  obtain ⟨a, n, c, nx, st, hs, hn, n0, n1, s0, s1, hw, hR⟩ := h
  refine ⟨a, n, c, nx, st, hs.grown g (fun e => hk.ne_ hs ht (Option.some.inj e).symm), hn, n0, n1, s0, s1, ?_, Nat.le_trans hR g.size⟩
  rcases hw with h | ⟨r, ha, hr1, hr2, hz⟩
  · exact .inl h
  · by_cases h0 : n = 0
    · exact .inl h0
    have hrk : r ≠ k := by
      rintro rfl
      obtain ⟨z, _, _, hc⟩ := hz 0 (by omega)
      rw [hk.cell 0, hx] at hc
      cases hc
    exact .inr ⟨r, ha, hr1, hr2, fun j hj => by
      obtain ⟨z, z0, z1, hc⟩ := hz j hj
      exact ⟨z, z0, z1, g.cell hc (by intro e; exact hrk (Option.some.inj e))⟩⟩
theorem far3 {W : World} {p : Addr} {v : Value} {g : Nat} (h : W.cell? p = some v) (hne : p.block ≠ g) (v0 v1 v2 : Value) : (((W.setCell ⟨g, 0, none⟩ v0).setCell ⟨g, 1, none⟩ v1).setCell ⟨g, 2, none⟩ v2).cell? p = some v := by
  have n : ∀ i, (⟨g, i, none⟩ : Addr) ≠ p := fun i e => hne (by rw [← e])
  rw [World.cell?_setCell_other _ _ _ _ (n 2), World.cell?_setCell_other _ _ _ _ (n 1), World.cell?_setCell_other _ _ _ _ (n 0)]
  exact h
set_option maxRecDepth 100000 in
set_option maxHeartbeats 8000000 in
theorem drawn_calls (a : Option Addr) (n c : Nat) (w : World) (hB : BytesAt w a n) (ha : a = none → n = 0) (hc : n ≤ c) (ht : TabsA w) :
    Calls Tryz.prog 9 #[.slice a n c] w fun e w' => ∃ (W : Nat) (Bt : Int) (gv : Value) (gw : List (Gt × Value)) (b : Nat), e = .returned (.tuple #[.agg #[.int .i64 W, .int .i64 Bt, gv], .pointer (some ⟨b, 0, none⟩)]) ∧
      chkC ⟨W, Bt, gw.map (·.1)⟩ = 0 ∧ gw.length ≤ 12 ∧ GsAt w' w.heap.size gv gw ∧ StoreAt w' b b 6000 ∧ w.heap.size ≤ b ∧ Below w.heap.size w w' := by
  obtain ⟨kb, ko, kc, hall, hI⟩ := ht.all
  have hl : 0 < w.heap.size := World.block_lt_of_cell? w _ hall
  have hb0 := below1 w (.cells #[.int .i64 0, .int .i64 0, .slice none 0 0] 25)
  have hBa : BytesAt (w.alloc (.cells #[.int .i64 0, .int .i64 0, .slice none 0 0] 25)) a n := by
    rcases hB with h | ⟨b, off, h1, h2⟩
    · exact .inl h
    · exact .inr ⟨b, off, h1, fun j hj => by obtain ⟨z, z0, z1, h3⟩ := h2 j hj; exact ⟨z, z0, z1, Lib.cell?_alloc_some _ h3⟩⟩
  have hO := Lib.hid (store_calls a n c _ hBa ha hc)
  have hR := Blk.new w 25 #[.int .i64 0, .int .i64 0, .slice none 0 0]
  have HA := Lib.hid hall
  have HI := Lib.hid hI
  clear hB hBa ht hall hI
  go_enter Tryz.func9, Tryz.ntmps9
  go_upto_region 1 with fail
  generalize w.alloc (.cells #[.int .i64 0, .int .i64 0, .slice none 0 0] 25) = wa at *
  go_wp2_with fail
  refine hO.out.mono ?_
  rintro e w1 ⟨b, rfl, hb1, hs1, hk1⟩
  have hR1 := hR.below hk1 hR.lt
  have hk := bt hk1 hb0 hb0.size
  have hwb : w.heap.size ≤ b := Nat.le_trans hb0.size hb1
  have hI1 := (HI.out.below hk).more hwb
  clear hO hk1 hb0 hb1 hR
  go_upto_region 2 with fail
  have hs1 : StoreAt w1.drew b b 0 := hs1
  have hR1 : Blk w1.drew w.heap.size 25 #[.int .i64 0, .int .i64 0, .slice none 0 0] := hR1
  have hk : Below w.heap.size w w1.drew := hk.drew
  have hI1 : IntsAt w1.drew b (.slice (some ⟨kb, ko, none⟩) 12 kc) allK := ⟨hI1.form⟩
  have hg0 : w1.drew.grownBy w1.drew (some b) := grown_refl _ _
  have hcl : w1.drew.cell? ⟨0, 0, none⟩ = some (.slice (some ⟨kb, ko, none⟩) 12 kc) := (hk.cell (p := ⟨0, 0, none⟩) hl).trans HA.out
  have hgl : 0 ≠ b := by omega
  have hcell : ∀ W' : World, w1.drew.grownBy W' (some b) → W'.cell? ⟨0, 0, none⟩ = some (.slice (some ⟨kb, ko, none⟩) 12 kc) := fun W' g => g.cell hcl (by intro e; exact hgl (Option.some.inj e))
  have HC := Lib.hid hcell
  have hIg : ∀ W' : World, w1.drew.grownBy W' (some b) → IntsAt W' b (.slice (some ⟨kb, ko, none⟩) 12 kc) allK := fun W' g => ints_grown hI1 (Nat.le_of_lt hs1.lt) g
  have HIG := Lib.hid hIg
  have hne0 : (⟨0, 0, none⟩ : Addr).block ≠ w.heap.size := by show 0 ≠ w.heap.size; omega
  clear hcell hIg hI1 HI
  go_region_held3 (fun W => W.cell? ⟨0, 0, none⟩ = some (.slice (some ⟨kb, ko, none⟩) 12 kc)) (first | (with_reducible exact hcl) | (with_reducible exact far3 hcl hne0 _ _ _))
    (first
      | (go_at_call 38; ((with_reducible refine (from_calls b b _ _ _ _ hs1 (by omega) (by decide) (by decide) (by decide)).mono ?_); rintro e w2 ⟨v2, rfl, v20, v21, hs2, hg2⟩; obtain ⟨WW, rfl⟩ := Int.eq_ofNat_of_zero_le (Int.le_trans (by decide) v20); have hg0 := gTrans hg0 hg2; have hcl := HC.out _ hg0; have hR1 := hs1.blkKeep hg2 hR1 (by decide); have hs1 := hs2))
      | (go_at_call 39; ((with_reducible refine (less_calls b b _ _ _ hs1 (by omega) (by decide) (by decide)).mono ?_); rintro e w2 ⟨v3, rfl, v30, v31, hs2, hg2⟩; have hg0 := gTrans hg0 hg2; have hcl := HC.out _ hg0; have hR1 := hs1.blkKeep hg2 hR1 (by decide); have hs1 := hs2))
      | (go_at_call 37; ((with_reducible refine (Steered_calls b b _ _ _ _ _ hs1 (by omega) (by omega) (by omega) (HIG.out _ hg0)).mono ?_); rintro e w2 ⟨gv, gw, rfl, hck, hgw, hgs, hs2, hg2⟩; obtain ⟨Ag, cg, rfl⟩ := own_form hgs.row; have hgs := hgs.base (by have := hg0.size; have := hk.size; omega); have hg0 := gTrans hg0 hg2; have hcl := HC.out _ hg0; have hR1 := hs1.blkKeep hg2 hR1 (by decide); have hs1 := hs2; obtain ⟨y0, y1, y2, yf⟩ := hR1.three4)))
  have gF : w2.grownBy (((w2.setCell ⟨w.heap.size, 0, none⟩ (.int .i64 WW)).setCell ⟨w.heap.size, 1, none⟩ (.int .i64 v3)).setCell ⟨w.heap.size, 2, none⟩ (.slice Ag gw.length cg)) (some w.heap.size) := gSet (gSet (gSet (grown_refl w2 _) 0 _) 1 _) 2 _
  have hF := ((hR1.set_ 0 (.int .i64 WW)).set_ 1 (.int .i64 v3)).set_ 2 (.slice Ag gw.length cg)
  have hgs5 := (hgs.far hR1 (by decide) (by decide) gF).base hk.size
  have hs5 := hs1.otherB gF hR1 rfl (by decide)
  have hb5 : Below w.heap.size w (((w2.setCell ⟨w.heap.size, 0, none⟩ (.int .i64 WW)).setCell ⟨w.heap.size, 1, none⟩ (.int .i64 v3)).setCell ⟨w.heap.size, 2, none⟩ (.slice Ag gw.length cg)) := below_grown' (below_grown' hk hg0 hwb) gF (Nat.le_refl _)
  clear y0 y1 y2 yf gF hR1 hs1 hs2 hg2 hgs hcl hg0 HC HIG HA hne0 hgl hI1 hk
  generalize ((w2.setCell ⟨w.heap.size, 0, none⟩ (.int .i64 WW)).setCell ⟨w.heap.size, 1, none⟩ (.int .i64 v3)).setCell ⟨w.heap.size, 2, none⟩ (.slice Ag gw.length cg) = wf at *
  obtain ⟨y0, y1, y2, yf⟩ := Blk.three4 (x := .int .i64 WW) (y := .int .i64 v3) (z := .slice Ag gw.length cg) hF
  go_wp2_with fail
  exact bodyPost_ret (v := .tuple #[.agg #[.int .i64 WW, .int .i64 v3, .slice Ag gw.length cg], .pointer (some ⟨b, 0, none⟩)]) (by simp [results, Tryz.results9, go_sem, y0, y1, y2]) rfl ⟨WW, v3, _, gw, b, rfl, hck, hgw, hgs5, hs5.mono (by omega), hwb, hb5⟩
end Go.Proofs.YtonnegkpjmhomaaGreatDoor
end
section
set_option linter.all false
namespace Go.Proofs.YtonnegkpjmhomaaGreatDoor
open Go.RowKit
def dgV (d : Nat) : UInt8 := UInt8.ofNat (48 + d)
theorem enc_digit : ∀ d : Fin 10, Utf8.encode (48 + (d.val : Int)) = bs [dgV d.val] := by decide
theorem dec_step (m : Nat) : Lib.decDigits m = (if 0 < m / 10 then Lib.decDigits (m / 10) else []) ++ [dgV (m % 10)] := by
  by_cases h : m < 10
  · rw [Lib.decDigits_one h, if_neg (by omega), Nat.mod_eq_of_lt h]; rfl
  · rw [if_pos (by omega)]
    conv => lhs; rw [Lib.decDigits]
    rw [dif_neg h]; rfl
theorem tmodT (m : Nat) : Int.tmod (m : Int) 10 = ((m % 10 : Nat) : Int) := by rw [Int.tmod_eq_emod_of_nonneg (by omega)]; rfl
theorem tdivT (m : Nat) : Int.tdiv (m : Int) 10 = ((m / 10 : Nat) : Int) := by rw [Int.tdiv_eq_ediv_of_nonneg (by omega)]; rfl
set_option maxRecDepth 100000 in
set_option maxHeartbeats 4000000 in
theorem lawNumber_calls (n : Nat) (hn : n ≤ 1000000000) (w : World) : Calls Tryz.prog 40 #[.int .i64 n] w fun e w' => e = .returned (.string (bs (itoa n))) ∧ w = w' := by
  obtain ⟨r, Hr⟩ : ∃ x, Hid (itoa (n : Int) = x) := ⟨_, rfl⟩
  rw [Hr.out]
  have Hr : Hid (Lib.decDigits n = r) := by
    show _ = _
    rw [← Hr.out]
    show _ = Lib.itoa (n : Int)
    rw [Lib.itoa, if_neg (by omega), Int.toNat_natCast]
  go_enter Tryz.func40, Tryz.ntmps40
  go_wp2_with fail
  go_loopg [0, 3] (n + 1) (fun gk s0 s3 wr => ∃ (m : Nat) (t : List UInt8), s0 = .int .i64 m ∧ s3 = .string (bs t) ∧ m + 1 ≤ gk ∧ m ≤ n ∧ t.length + m ≤ n ∧ Hid (Lib.decDigits m ++ t = r) ∧ w = wr)
  case atStart => exact ⟨n, [], rfl, rfl, Nat.le_refl _, Nat.le_refl _, by simp, by show _ = _; rw [List.append_nil]; exact Hr.out, rfl⟩
  case round =>
    clear Hr
    obtain ⟨m, t, rfl, rfl, hmg, hmn, htl, Ht, rfl⟩ := hrel
    obtain ⟨g, rfl⟩ : ∃ g, gk = g + 1 := ⟨gk - 1, by omega⟩
    have hp : (0 : Int) ≤ (m : Int) := by omega
    have hml : (m : Int) ≤ 1000000000 := by omega
    have r1 := tmodT m
    have q1 := tdivT m
    have hd9 : m % 10 < 10 := Nat.mod_lt _ (by decide)
    have Hn : Hid ((if 0 < m / 10 then Lib.decDigits (m / 10) else []) ++ (dgV (m % 10) :: t) = r) := by
      show _ = _
      rw [← Ht.out, dec_step m]; simp
    have hq1 : Hid (m / 10 = 0 ∨ (m / 10) + 1 ≤ m) := by show _ ∨ _; omega
    generalize m % 10 = d at *
    generalize m / 10 = m2 at *
    have hen := enc_digit ⟨d, hd9⟩
    dsimp only at hen
    have d0 : (0 : Int) ≤ (d : Int) := by omega
    have d1 : (d : Int) ≤ 9 := by omega
    have hcat : bs [dgV d] ++ bs t = bs (dgV d :: t) := bs_append _ _
    have hcs : ¬ 9223372036854775807 < (bs [dgV d]).size + (bs t).size := by rw [bs_size, bs_size]; simp only [List.length_singleton]; omega
    by_cases hz : m2 = 0
    · subst hz
      have Hv : Hid (r = dgV d :: t) := by show _ = _; rw [← Hn.out]; rfl
      clear Hn hq1
      go_wp2_with fail
      go_ret
      exact ⟨by rw [Hv.out] <;> rfl, rfl⟩
    · have hz2 : ((m2 : Int) == 0) = false := by simpa using hz
      have hmp : 0 < m2 := Nat.pos_of_ne_zero hz
      have Hn2 : Hid (Lib.decDigits m2 ++ (dgV d :: t) = r) := by show _ = _; rw [← Hn.out, if_pos hmp]
      have hle : m2 + 1 ≤ m := hq1.out.resolve_left hz
      clear Hn hq1 hz
      go_wp2_with fail
      clear r1 q1
      go_roundg g
      case measure => omega
      case rel => exact ⟨m2, _, rfl, rfl, by omega, by omega, by simp; omega, Hn2, rfl⟩
def wordsArr : Array Value := (wordTab.map (fun p => Value.string (bs p.1))).toArray
set_option maxRecDepth 100000 in
set_option maxHeartbeats 4000000 in
theorem lawWords_calls (w : World) : Calls Tryz.prog 41 #[] w fun e w' => e = .returned (.agg wordsArr) ∧ Below w.heap.size w w' := by
  go_enter Tryz.func41, Tryz.ntmps41
  go_wp2_with fail
  exact bodyPost_ret (v := .agg #[.string ⟨#[120]⟩, .string ⟨#[121]⟩, .string ⟨#[122]⟩, .string ⟨#[104]⟩, .string ⟨#[115]⟩, .string ⟨#[115, 100]⟩, .string ⟨#[116]⟩, .string ⟨#[116, 100]⟩, .string ⟨#[99, 120]⟩, .string ⟨#[99, 122]⟩, .string ⟨#[115, 119, 97, 112]⟩, .string ⟨#[99, 99, 120]⟩, .string ⟨#[109, 101, 97, 115, 117, 114, 101]⟩, .string ⟨#[114, 101, 115, 101, 116]⟩]) (by simp [results, Tryz.results41, go_sem]) rfl ⟨rfl, below1 w _⟩
theorem lawWords_at (k : Int) (h : 1 ≤ k ∧ k ≤ 14) (w : World) : (Instr.index 74 (.agg wordsArr) (.int .i64 (k - 1))).run Tryz.prog w = .ok (.string (bs (wordK k))) w := by
  obtain rfl | rfl | rfl | rfl | rfl | rfl | rfl | rfl | rfl | rfl | rfl | rfl | rfl | rfl : k = 1 ∨ k = 2 ∨ k = 3 ∨ k = 4 ∨ k = 5 ∨ k = 6 ∨ k = 7 ∨ k = 8 ∨ k = 9 ∨ k = 10 ∨ k = 11 ∨ k = 12 ∨ k = 13 ∨ k = 14 := by omega
  all_goals kernel_rfl
end Go.Proofs.YtonnegkpjmhomaaGreatDoor
end
section
set_option linter.all false
namespace Go.Proofs.YtonnegkpjmhomaaGreatDoor
open Go.RowKit
def tokV (t : List UInt8) : Value := .string (bs t)
def ofG : Int → List Gt → List Int
  | _, [] => []
  | i, g :: gs => List.replicate (toksG g).length i ++ ofG (i + 1) gs
def ofC (c : Ct) (b : Bool) : List Int := List.replicate (toksH c b).length (-1) ++ ofG 0 c.gates
theorem ofG_len : ∀ (gs : List Gt) (i : Int), (ofG i gs).length = (gs.flatMap toksG).length
  | [], _ => rfl
  | g :: gs, i => by rw [ofG, List.flatMap_cons, List.length_append, List.length_append, List.length_replicate, ofG_len gs]
theorem ofG_snoc : ∀ (gs : List Gt) (i : Int) (g : Gt), ofG i (gs ++ [g]) = ofG i gs ++ List.replicate (toksG g).length (i + gs.length)
  | [], i, g => by simp [ofG]
  | x :: gs, i, g => by
    rw [List.cons_append, ofG, ofG, ofG_snoc gs (i + 1) g, List.append_assoc, List.length_cons]
    rw [show i + 1 + (gs.length : Int) = i + ((gs.length + 1 : Nat) : Int) by omega]
theorem toksG_len {g : Gt} (h : GOk g) : (toksG g).length ≤ 9 := by
  have h1 := h.len
  have h2 : arity g.kind ≤ 3 := by
    unfold arity
    split
    · omega
    · split
      · omega
      · split <;> omega
  unfold toksG
  simp only [List.length_append, List.length_map, List.length_cons, List.length_nil]
  split <;> split <;> simp <;> omega
theorem toks_len_le {gs : List Gt} (h : ∀ g ∈ gs, GOk g) : (gs.flatMap toksG).length ≤ 9 * gs.length := by
  induction gs with
  | nil => simp
  | cons g gs ih =>
    rw [List.flatMap_cons, List.length_append, List.length_cons]
    have h1 := toksG_len (h g (by simp))
    have h2 := ih (fun x hx => h x (by simp [hx]))
    omega
theorem toksH_len (c : Ct) (b : Bool) : (toksH c b).length ≤ 5 ∧ 3 ≤ (toksH c b).length := by
  unfold toksH
  split <;> simp
structure Pst (w wx : World) (lv ov : Value) (ts : List (List UInt8)) (os : List Int) : Prop where
  l : wx.ownsRow w.heap.size 9 1 lv ts.length (ts.map tokV)
  o : wx.ownsRow w.heap.size 3 1 ov os.length (os.map (Value.int .i64))
  kept : Below w.heap.size w wx
theorem Pst.below {w wx w' : World} {lv ov : Value} {ts : List (List UInt8)} {os : List Int} (h : Pst w wx lv ov ts os) (hb : Below wx.heap.size wx w') : Pst w w' lv ov ts os :=
  ⟨own_below h.l hb (Nat.le_refl _), own_below h.o hb (Nat.le_refl _), bt hb h.kept h.kept.size⟩
theorem Pst.alloc {w wx : World} {lv ov : Value} {ts : List (List UInt8)} {os : List Int} (h : Pst w wx lv ov ts os) (o : Obj) : Pst w (wx.alloc o) lv ov ts os := h.below (below1 wx o)
theorem Pst.more {w wx w7 : World} {lv ov v' : Value} {ts new : List (List UInt8)} {os : List Int} (h : Pst w wx lv ov ts os) (ho : w7.ownsRow w.heap.size 9 1 v' (ts ++ new).length ((ts ++ new).map tokV)) (hg : wx.grownBy w7 lv.ownBlock) : Pst w w7 v' ov (ts ++ new) os :=
  ⟨ho, own_keep h.o (fun j cur _ hj => hg.block j hj.lt (fun e => by obtain ⟨_, cur2, hk⟩ := own_row_of h.l e.symm; exact hj.ne_ hk (by decide) rfl)),
    ⟨hg.os.trans h.kept.os, hg.tape.trans h.kept.tape, hg.output.trans h.kept.output, Nat.le_trans h.kept.size hg.size, fun k hk => (hg.block k (Nat.lt_of_lt_of_le hk h.kept.size) (fun e => by have := (own_row_of h.l e.symm).1; omega)).trans (h.kept.block k hk)⟩⟩
theorem Pst.moreO {w wx w7 : World} {lv ov v' : Value} {ts : List (List UInt8)} {os new : List Int} (h : Pst w wx lv ov ts os) (ho : w7.ownsRow w.heap.size 3 1 v' (os ++ new).length ((os ++ new).map (Value.int .i64))) (hg : wx.grownBy w7 ov.ownBlock) : Pst w w7 lv v' ts (os ++ new) :=
  ⟨own_keep h.l (fun j cur _ hj => hg.block j hj.lt (fun e => by obtain ⟨_, cur2, hk⟩ := own_row_of h.o e.symm; exact hj.ne_ hk (by decide) rfl)), ho,
    ⟨hg.os.trans h.kept.os, hg.tape.trans h.kept.tape, hg.output.trans h.kept.output, Nat.le_trans h.kept.size hg.size, fun k hk => (hg.block k (Nat.lt_of_lt_of_le hk h.kept.size) (fun e => by have := (own_row_of h.o e.symm).1; omega)).trans (h.kept.block k hk)⟩⟩
theorem Pst.put {w wx w7 : World} {lv ov v' : Value} {ts new : List (List UInt8)} {os : List Int} {k : Nat} {cells : List Value} (h : Pst w wx lv ov ts os) (ho : w7.ownsRow w.heap.size 9 1 v' (ts.length + k) (ts.map tokV ++ cells)) (hk : k = new.length) (hc : cells = new.map tokV) (hg : wx.grownBy w7 lv.ownBlock) : Pst w w7 v' ov (ts ++ new) os := by
  subst hk hc
  exact h.more (by rw [List.length_append, List.map_append]; exact ho) hg
theorem Pst.putO {w wx w7 : World} {lv ov v' : Value} {ts : List (List UInt8)} {os new : List Int} {k : Nat} {cells : List Value} (h : Pst w wx lv ov ts os) (ho : w7.ownsRow w.heap.size 3 1 v' (os.length + k) (os.map (Value.int .i64) ++ cells)) (hk : k = new.length) (hc : cells = new.map (Value.int .i64)) (hg : wx.grownBy w7 ov.ownBlock) : Pst w w7 lv v' ts (os ++ new) := by
  subst hk hc
  exact h.moreO (by rw [List.length_append, List.map_append]; exact ho) hg
theorem Pst.box {w wx w7 : World} {lv ov : Value} {ts : List (List UInt8)} {os : List Int} {G : Nat} {t : TypeId} {cs : Array Value} (h : Pst w wx lv ov ts os) (hG : Blk wx G t cs) (h1 : t ≠ 9) (hg : wx.grownBy w7 lv.ownBlock) : Blk w7 G t cs :=
  hG.grown hg (fun e => by obtain ⟨_, cur2, hk⟩ := own_row_of h.l e.symm; exact hG.ne_ hk h1 rfl)
theorem grown_own {W w7 : World} {row : Option Nat} {v : Value} (hg : W.grownBy w7 row) (hr : row = none ∨ ∃ g, row = some g ∧ v.ownBlock = some g) : W.grownBy w7 v.ownBlock := by
  rcases hr with rfl | ⟨g, rfl, h⟩
  · exact ⟨hg.os, hg.tape, hg.output, hg.size, fun k hk _ => hg.block k hk (fun e => by cases e)⟩
  · rw [h]; exact hg
theorem Blk.fst4 {w : World} {g : Nat} {t : TypeId} {a b c d : Value} (h : Blk w g t #[a, b, c, d]) : w.cell? ⟨g, 0, none⟩ = some a := h.cell 0
theorem infoS : (Tryz.prog.info? 9).map (fun i => (i.zero, i.size, i.bytes)) = some (some (.string ⟨#[]⟩), 1, 16) := by kernel_rfl
theorem lawNumber_int (z : Int) (h : 0 ≤ z ∧ z ≤ 999) (w : World) : Calls Tryz.prog 40 #[.int .i64 z] w fun e w' => e = .returned (.string (bs (itoa z))) ∧ w = w' := by
  obtain ⟨n, rfl⟩ := Int.eq_ofNat_of_zero_le h.1
  exact lawNumber_calls n (by omega) w
def Hst (w wx : World) (C : Nat) (cs : Array Value) (ts : List (List UInt8)) (v : Value) : Prop := ∃ lg lc, v = .slice (some ⟨lg, 0, none⟩) ts.length lc ∧ Pst w wx v (.slice none 0 0) ts [] ∧ Blk wx C 25 cs
theorem own_row (w : World) (base : Nat) (t : TypeId) (cs : List Value) (hb : base ≤ w.heap.size) (hl : cs.length ≤ 1000000) : (w.alloc (.cells cs.toArray t)).ownsRow base t 1 (.slice (some ⟨w.heap.size, 0, none⟩) cs.length cs.length) cs.length cs :=
  ⟨by simp, .inr ⟨w.heap.size, cs.length, cs.toArray, rfl, hb, Blk.new w t cs.toArray, Nat.le_refl _, by unfold maxLen; omega, by simp, by simp⟩⟩
theorem arity_le3 (k : Int) : arity k ≤ 3 := by
  unfold arity
  split
  · omega
  · split
    · omega
    · split <;> omega
def Rst (w wx : World) (G : Nat) (cs : Array Value) (v ov : Value) (ts : List (List UInt8)) (os : List Int) : Prop := ∃ lg lc, v = .slice (some ⟨lg, 0, none⟩) ts.length lc ∧ Pst w wx v ov ts os ∧ Blk wx G 61 cs
def ifT (g : Gt) : List (List UInt8) := if 0 < g.ifn then [[105, 102], itoa (g.ifn - 1), [58]] else []
def bitT (g : Gt) : List (List UInt8) := if g.kind = 13 then [itoa g.bit] else []
theorem toksG_eq (g : Gt) : toksG g = ifT g ++ ([wordK g.kind] ++ (g.wires.map itoa ++ (bitT g ++ [[59]]))) := rfl
theorem ifT_len (g : Gt) : (ifT g).length ≤ 3 := by unfold ifT; split <;> simp
theorem bitT_len (g : Gt) : (bitT g).length ≤ 1 := by unfold bitT; split <;> simp
set_option maxRecDepth 100000 in
set_option maxHeartbeats 16000000 in
theorem lawParts_calls (c : Ct) (bb : Bool) (gv : Value) (w : World) (hck : chkC c = 0) (hgl : c.gates.length ≤ 12) (hg : GatesAt w w.heap.size gv c.gates) :
    Calls Tryz.prog 10 #[.agg #[.int .i64 c.wires, .int .i64 c.bits, gv], .bool bb] w fun e w' => ∃ lv ov, e = .returned (.tuple #[lv, ov]) ∧ Pst w w' lv ov (toksAll c bb) (ofC c bb) := by
  obtain ⟨A, cg, rfl, hc1, hc2, hc3⟩ := hg.form
  obtain ⟨hW, hB, _, hgo⟩ := chkC_ok hck
  have HG := Lib.hid hg
  have HGO := Lib.hid hgo
  have HN := Lib.hid (fun z h W' => lawNumber_int z h W')
  have hC := Blk.new w 25 #[.int .i64 c.wires, .int .i64 c.bits, .slice A c.gates.length cg]
  have hk0 := below1 w (.cells #[.int .i64 c.wires, .int .i64 c.bits, .slice A c.gates.length cg] 25)
  obtain ⟨i0, hi, hz0, hz1, hz2⟩ := info_parts infoS
  obtain ⟨j0, hji, hj0, hj1, hj2⟩ := info_parts infoI
  clear hg hc3 hgo
  unfold maxLen at hc2
  go_enter Tryz.func10, Tryz.ntmps10
  go_upto_region 1 with fail
  generalize w.alloc (.cells #[.int .i64 c.wires, .int .i64 c.bits, .slice A c.gates.length cg] 25) = wa at *
  generalize hCn : w.heap.size = C at hC
  have x0 := hC.cell 0
  have x1 := hC.cell 1
  have x2 := hC.cell 2
  simp at x0 x1 x2
  have HW : Hid (0 ≤ c.wires ∧ c.wires ≤ 999) := ⟨by omega, by omega⟩
  have HB : Hid (0 ≤ c.bits ∧ c.bits ≤ 999) := ⟨by omega, by omega⟩
  go_wp2_with fail
  refine (HN.out _ HW.out _).mono ?_
  rintro e w1 ⟨rfl, rfl⟩
  go_upto_region 2 with fail
  have hp1 : Pst w (wa.alloc (.cells #[.string ⟨#[119, 105, 114, 101, 115]⟩, .string (bs (itoa c.wires))] 9)) (.slice (some ⟨wa.heap.size, 0, none⟩) 2 2) (.slice none 0 0) [[119, 105, 114, 101, 115], itoa c.wires] [] :=
    ⟨own_row wa w.heap.size 9 [.string ⟨#[119, 105, 114, 101, 115]⟩, .string (bs (itoa c.wires))] hk0.size (by simp), World.ownsRow_nil _ _ _ _, hk0.alloc hk0.size _⟩
  have hC := hC.alloc (.cells #[.string ⟨#[119, 105, 114, 101, 115]⟩, .string (bs (itoa c.wires))] 9)
  generalize wa.alloc (.cells #[.string ⟨#[119, 105, 114, 101, 115]⟩, .string (bs (itoa c.wires))] 9) = wb at *
  generalize wa.heap.size = X at *
  clear x0 x1 x2 hk0 HW
  have x0 := hC.cell 0
  have x1 := hC.cell 1
  have x2 := hC.cell 2
  simp at x0 x1 x2
  obtain ⟨hd, Hhd⟩ : ∃ b, Hid ((decide (0 < c.bits) || bb) = b) := ⟨_, rfl⟩
  have Hhd2 : Hid ((0 < c.bits ∨ bb = true) ↔ hd = true) := by
    show _ ↔ _
    rw [← Hhd.out]
    simp
  go_cut [21] (fun s21 wx => s21 = .bool hd ∧ wx = wb)
  case first =>
    cases hb : decide (0 < c.bits)
    · have Hv : Hid (hd = bb) := by show _ = _; rw [← Hhd.out, hb]; rfl
      go_wp2_with fail
      go_meet
      exact ⟨by rw [Hv.out] <;> rfl, rfl⟩
    · have Hv : Hid (hd = true) := by show _ = _; rw [← Hhd.out, hb]; rfl
      go_wp2_with fail
      go_meet
      exact ⟨by rw [Hv.out] <;> rfl, rfl⟩
  case rest =>
    obtain ⟨rfl, rfl⟩ := hcut
    go_upto_if 21 with fail
    go_cut [6] (fun s6 wx => Hst w wx C #[.int .i64 c.wires, .int .i64 c.bits, .slice A c.gates.length cg] ([[119, 105, 114, 101, 115], itoa c.wires] ++ (if 0 < c.bits ∨ bb = true then [[98, 105, 116, 115], itoa c.bits] else [])) s6)
    case first =>
      cases hd
      · go_wp2_with fail
        go_meet
        rw [if_neg (fun h => by have := Hhd2.out.1 h; cases this)]
        exact ⟨X, 2, rfl, hp1, hC⟩
      · have HP := Lib.hid hp1
        have HC := Lib.hid hC
        go_wp2_with fail
        refine (HN.out _ HB.out _).mono ?_
        rintro e w1 ⟨rfl, rfl⟩
        go_wp2_with (at_builtin; refine wpList_append_own _ rfl _ _ 29 rfl w.heap.size 9 i0 _ 1 16 Tryz.underlying29 hi hz0 hz1 hz2 rfl (by decide) _ _ _ rfl (own_below HP.out.l (below1 wc (.cells #[.string ⟨#[98, 105, 116, 115]⟩, .string (bs (itoa c.bits))] 9)) (Nat.le_refl _)) ⟨wc.heap.size, 0, none⟩ 2 2 [.string ⟨#[98, 105, 116, 115]⟩, .string (bs (itoa c.bits))] rfl rfl (row_new _ _ _) (by simp [Value.oneCell']) (by unfold maxLen; simp) (by simp) (by have := HP.out.kept.size; simp; omega) ?_; intro v' w5 hown' hgrow _; obtain ⟨g', cap', rfl⟩ := ownsRow_succ hown')
        go_meet
        rw [if_pos (Hhd2.out.2 trivial)]
        have hp2 := HP.out.alloc (.cells #[.string ⟨#[98, 105, 116, 115]⟩, .string (bs (itoa c.bits))] 9)
        have hC2 := HC.out.alloc (.cells #[.string ⟨#[98, 105, 116, 115]⟩, .string (bs (itoa c.bits))] 9)
        exact ⟨g', cap', rfl, hp2.put (new := [[98, 105, 116, 115], itoa c.bits]) hown' rfl rfl hgrow, hp2.box hC2 (by decide) hgrow⟩
    case rest =>
      clear hp1 hC x0 x1 x2 HB
      obtain ⟨T0, HT0, hT0⟩ : ∃ T0, Hid (toksH c bb = T0 ++ [[59]]) ∧ ([[119, 105, 114, 101, 115], itoa c.wires] ++ (if 0 < c.bits ∨ bb = true then [[98, 105, 116, 115], itoa c.bits] else [])) = T0 := ⟨_, by show _ = _; unfold toksH; rw [List.append_assoc], rfl⟩
      rw [hT0] at hcut
      have hT5 : T0.length ≤ 4 := by have := congrArg List.length HT0.out; have := (toksH_len c bb).1; rw [List.length_append] at *; simp at *; omega
      clear hT0 Hhd2 Hhd
      obtain ⟨lg, lc, rfl, hp, hC⟩ := hcut
      have HP := Lib.hid hp
      have HC := Lib.hid hC
      clear hp hC
      go_upto_region 5 with (at_builtin; refine wpList_append_own _ rfl _ _ 29 rfl w.heap.size 9 i0 _ 1 16 Tryz.underlying29 hi hz0 hz1 hz2 rfl (by decide) _ _ _ rfl (own_below HP.out.l (below1 wc (.cells #[.string ⟨#[59]⟩] 9)) (Nat.le_refl _)) ⟨wc.heap.size, 0, none⟩ 1 1 [.string ⟨#[59]⟩] rfl rfl (row_new _ _ _) (by simp [Value.oneCell']) (by unfold maxLen; omega) (by omega) (by have := HP.out.kept.size; simp; omega) ?_; intro v' w5 hown' hgrow _; obtain ⟨g', cap', rfl⟩ := ownsRow_succ hown')
      have hp2 := HP.out.alloc (.cells #[.string ⟨#[59]⟩] 9)
      have hp3 := hp2.put (new := [[59]]) hown' rfl rfl hgrow
      have hC3 := hp2.box (HC.out.alloc _) (by decide) hgrow
      rw [← HT0.out] at hp3
      clear hp2 hown' hgrow HP HC
      have hTl : (toksH c bb).length = T0.length + 1 := by rw [HT0.out]; simp
      have hm1 : (w5.alloc (.cells #[.int .i64 (-1)] 3)).cell? ⟨w5.heap.size, 0, none⟩ = some (.int .i64 (-1)) := (Blk.new w5 _ _).cell 0
      have HRP := Lib.hid (RepInt_calls (-1) (T0.length + 1) w5.heap.size 0 1 (w5.alloc (.cells #[.int .i64 (-1)] 3)) (by omega) hm1)
      have HPa := Lib.hid (hp3.alloc (.cells #[.int .i64 (-1)] 3))
      have HCa := Lib.hid (hC3.alloc (.cells #[.int .i64 (-1)] 3))
      clear hp3 hC3 hm1
      go_wp2_with fail
      refine HRP.out.mono ?_
      rintro e w6 ⟨ov, rfl, ho6, hb6⟩
      have hp6 : Pst w w6 (.slice (some ⟨g', 0, none⟩) (T0.length + 1) cap') ov (toksH c bb) (List.replicate (toksH c bb).length (-1)) :=
        ⟨own_below HPa.out.l hb6 (Nat.le_refl _), by rw [List.length_replicate, List.map_replicate, hTl]; exact own_base ho6 HPa.out.kept.size, bt hb6 HPa.out.kept HPa.out.kept.size⟩
      have hC6 := HCa.out.below hb6 HCa.out.lt
      obtain ⟨og, oc, rfl⟩ : ∃ og oc, ov = .slice og (T0.length + 1) oc := own_form ho6
      clear HRP HPa HCa hb6 ho6
      have x2 := hC6.cell 2
      simp at x2
      have hTt : T0.length + 1 = (toksH c bb).length := hTl.symm
      rw [hTt] at hp6 ⊢
      have hos : (List.replicate (toksH c bb).length (-1 : Int)).length = (toksH c bb).length := List.length_replicate
      have HP6 := Lib.hid hp6
      have HT5 := Lib.hid (toksH_len c bb)
      clear hp6 hC6 hTl hT5 HT0
      go_upto_region 7 with fail
      clear x2 hTt
      go_loopg [38, 6, 7] c.gates.length (fun gk s38 s6 s7 wr => ∃ (k : Nat) (lg lc : Nat) (og : Option Addr) (oc : Nat) (ts : List (List UInt8)) (os : List Int), k + gk = c.gates.length ∧ s38 = .int .i64 k ∧ s6 = .slice (some ⟨lg, 0, none⟩) ts.length lc ∧ s7 = .slice og ts.length oc ∧ os.length = ts.length ∧ Hid (ts = toksH c bb ++ (c.gates.take k).flatMap toksG) ∧ Hid (os = List.replicate (toksH c bb).length (-1) ++ ofG 0 (c.gates.take k)) ∧ Pst w wr s6 s7 ts os)
      case atStart => exact ⟨0, g', cap', og, oc, toksH c bb, List.replicate (toksH c bb).length (-1), by omega, rfl, rfl, rfl, hos, by show _ = _; simp, by show _ = _; simp [ofG], HP6.out⟩
      case round =>
        clear HP6 hos
        obtain ⟨k, lg, lc, og, oc, ts, os, hk, rfl, rfl, rfl, hlen, Hts, Hos, hp⟩ := hrel
        have HP := Lib.hid hp
        clear hp
        cases gk with
        | zero =>
          obtain rfl : k = c.gates.length := by omega
          have hte : ts = toksAll c bb := by rw [Hts.out, List.take_length]; rfl
          have hoe : os = ofC c bb := by rw [Hos.out, List.take_length]; rfl
          rw [hte, hoe] at HP
          clear Hts Hos hlen HG HGO HT5
          go_wp2_with fail
          go_ret2
          refine ⟨_, _, rfl, ?_⟩
          rw [← hte]
          rw [← hte] at HP
          exact HP.out
        | succ g1 =>
          have hlt : k < c.gates.length := by omega
          have hlti : (k : Int) < (c.gates.length : Int) := by omega
          have hk0 : (0 : Int) ≤ (k : Int) := by omega
          have hts : ts.length ≤ 200 := by
            have h1 := toks_len_le (gs := c.gates.take k) (fun g hg => HGO.out g (List.mem_of_mem_take hg))
            have h2 := congrArg List.length Hts.out
            have h3 := HT5.out.1
            rw [List.length_append] at h2
            rw [List.length_take] at h1
            omega
          obtain ⟨g, Hg, hgm⟩ : ∃ g, Hid (c.gates.take (k + 1) = c.gates.take k ++ [g]) ∧ c.gates[k]? = some g := ⟨c.gates[k], by show _ = _; rw [List.take_succ_eq_append_getElem hlt], List.getElem?_eq_getElem hlt⟩
          have hgo := HGO.out g (List.mem_of_getElem? hgm)
          obtain ⟨A', c', e1, _, _, h3⟩ := (HG.out.below HP.out.kept).form
          injection e1 with e1 _ e3
          subst e1 e3
          obtain ⟨gb, go, rfl, hgb, hcell⟩ := h3 (by intro h0; rw [h0] at hgm; cases hgm)
          obtain ⟨wv, hwv, x0, x1, x2, x3⟩ := hcell k g hgm
          obtain ⟨Dv, dv, rfl, hd1, hd2, hd3⟩ := hwv.form
          have hwsw : ∀ W', Below w.heap.size w W' → IntsAt W' w.heap.size (.slice Dv g.wires.length dv) g.wires := fun W' k2 => hwv.keep fun p hp => (k2.cell hp).trans (HP.out.kept.cell hp).symm
          have HWV := Lib.hid hwsw
          have hgk := hgo.kind
          have hgi := hgo.ifn
          have hgbt := hgo.bit
          have HGW := Lib.hid hgo.wires
          have hwl : g.wires.length ≤ 3 := by
            have h1 := hgo.len
            have h2 := arity_le3 g.kind
            omega
          clear hcell h3 hwv hgm hd3 hgo hwsw
          unfold maxLen at hd2
          go_upto_region 9 with fail
          have hp1 := HP.out.alloc (.cells #[.int .i64 g.kind, .slice Dv g.wires.length dv, .int .i64 g.bit, .int .i64 g.ifn] 61)
          have hG1 := Blk.new wr 61 #[.int .i64 g.kind, .slice Dv g.wires.length dv, .int .i64 g.bit, .int .i64 g.ifn]
          clear x0 x1 x2 x3
          generalize wr.alloc (.cells #[.int .i64 g.kind, .slice Dv g.wires.length dv, .int .i64 g.bit, .int .i64 g.ifn] 61) = wx at *
          generalize wr.heap.size = G at *
          obtain ⟨y0, y1, y2, y3, yf⟩ := hG1.cells4
          go_upto_if 45 with fail
          go_cut [6] (fun s6 wx => Rst w wx G #[.int .i64 g.kind, .slice Dv g.wires.length dv, .int .i64 g.bit, .int .i64 g.ifn] s6 (.slice og ts.length oc) (ts ++ ifT g) os)
          case first =>
            by_cases hif : 0 < g.ifn
            · have hifd : decide (0 < g.ifn) = true := decide_eq_true hif
              have Hi : Hid (ifT g = [[105, 102], itoa (g.ifn - 1), [58]]) := by show _ = _; unfold ifT; rw [if_pos hif]
              have HP1 := Lib.hid hp1
              have HG1 := Lib.hid hG1
              clear hp1 hG1
              go_wp2_with fail
              refine (HN.out (g.ifn - 1) ⟨by omega, by omega⟩ _).mono ?_
              rintro e w1 ⟨rfl, rfl⟩
              go_wp2_with (at_builtin; refine wpList_append_own _ rfl _ _ 29 rfl w.heap.size 9 i0 _ 1 16 Tryz.underlying29 hi hz0 hz1 hz2 rfl (by decide) _ _ _ rfl (own_below HP1.out.l (below1 wx (.cells #[.string ⟨#[105, 102]⟩, .string (bs (itoa (g.ifn - 1))), .string ⟨#[58]⟩] 9)) (Nat.le_refl _)) ⟨wx.heap.size, 0, none⟩ 3 3 [.string ⟨#[105, 102]⟩, .string (bs (itoa (g.ifn - 1))), .string ⟨#[58]⟩] rfl rfl (row_new _ _ _) (by simp [Value.oneCell']) (by unfold maxLen; omega) (by omega) (by have := HP1.out.kept.size; simp; omega) ?_; intro v' w5 hown' hgrow _; obtain ⟨g', cap', rfl⟩ := ownsRow_succ hown')
              go_meet
              have hp2 := HP1.out.alloc (.cells #[.string ⟨#[105, 102]⟩, .string (bs (itoa (g.ifn - 1))), .string ⟨#[58]⟩] 9)
              rw [Hi.out]
              refine ⟨g', cap', by rw [List.length_append]; rfl, ?_, hp2.box (HG1.out.alloc _) (by decide) hgrow⟩
              exact hp2.put (new := [[105, 102], itoa (g.ifn - 1), [58]]) hown' rfl rfl hgrow
            · have hifd : decide (0 < g.ifn) = false := decide_eq_false hif
              have Hi : Hid (ifT g = []) := by show _ = _; unfold ifT; rw [if_neg hif]
              go_wp2_with fail
              go_meet
              rw [Hi.out, List.append_nil]
              exact ⟨lg, lc, rfl, hp1, hG1⟩
          case rest =>
            clear hp1 hG1 y0 y1 y2 y3 yf
            obtain ⟨ts1, hts1e⟩ : ∃ t, Hid (ts ++ ifT g = t) := ⟨_, rfl⟩
            have hts1 : (ts ++ ifT g).length ≤ 210 := by rw [List.length_append]; have := ifT_len g; omega
            rw [hts1e.out] at hcut hts1
            obtain ⟨lg1, lc1, rfl, hp1, hG1⟩ := hcut
            have hix := fun W' => lawWords_at g.kind hgk W'
            have HIX := Lib.hid hix
            clear hix
            go_upto_region 11 with fail
            have hix := HIX.out
            have hp1 : Pst w wc.drew (.slice (some ⟨lg1, 0, none⟩) ts1.length lc1) (.slice og ts.length oc) ts1 os := ⟨hp1.l, hp1.o, hp1.kept.drew⟩
            have hG1 : Blk wc.drew G 61 #[.int .i64 g.kind, .slice Dv g.wires.length dv, .int .i64 g.bit, .int .i64 g.ifn] := hG1
            have hS : wc.drew.cell? ⟨G, 0, none⟩ = some (.int .i64 g.kind) := hG1.cell 0
            have hkw : IntKind.i64.wrap (g.kind - 1) = g.kind - 1 := IntWalk.i64_in _ (by omega)
            go_region_held3 (fun W => W.cell? ⟨G, 0, none⟩ = some (.int .i64 g.kind)) (first | (with_reducible exact hS) | (with_reducible exact Lib.cell?_alloc_some _ hS))
              (first
                | (go_at_call 41; ((with_reducible refine (lawWords_calls _).mono ?_); rintro e wq ⟨rfl, kb⟩; have hp1 := hp1.below kb; have hG1 := hG1.below kb hG1.lt; have hS := hG1.fst4))
                | (refine step_append_one rfl (.tmp 53) (.tmp 59) 29 rfl w.heap.size 9 i0 _ 1 16 Tryz.underlying29 hi hz0 hz1 hz2 rfl (by decide) (.slice (some ⟨lg1, 0, none⟩) ts1.length lc1) ts1.length (ts1.map tokV) rfl (own_below hp1.l (below1 wq (.cells #[.string (bs (wordK g.kind))] 9)) (Nat.le_refl _)) ⟨wq.heap.size, 0, none⟩ 1 1 [.string (bs (wordK g.kind))] rfl rfl (row_new wq 9 #[.string (bs (wordK g.kind))]) (by simp [Value.oneCell']) (by unfold maxLen; omega) (by omega) (by have := hp1.kept.size; simp; omega) ?_; intro v' w7 row hown' hgrow hrr; have hgrow := grown_own (v := .slice (some ⟨lg1, 0, none⟩) ts1.length lc1) hgrow (hrr.imp id (fun ⟨g2, cap2, cur2, h2, hv2, _⟩ => ⟨g2, h2, by rw [hv2]; rfl⟩)); obtain ⟨g', cap', rfl⟩ := ownsRow_succ hown'; have hpa := hp1.alloc (.cells #[.string (bs (wordK g.kind))] 9); have hG1 := hpa.box (hG1.alloc (.cells #[.string (bs (wordK g.kind))] 9)) (by decide) hgrow; have hp1 := hpa.put (new := [wordK g.kind]) hown' rfl rfl hgrow; have hS := hG1.fst4))
            obtain ⟨ts2, Hts2, hts2⟩ : ∃ t, Hid (ts1 ++ [wordK g.kind] = t) ∧ t.length = ts1.length + 1 := ⟨_, rfl, by simp⟩
            rw [Hts2.out] at hp1
            have hts2' : ts2.length ≤ 211 := by omega
            rw [← hts2] at hp1 ⊢
            have Hl2 : Hid (ts2.length = ts1.length + 1) := hts2
            clear hown' hgrow hrr hpa hS hts2
            generalize w7 = wy at *
            obtain ⟨y0, y1, y2, y3, yf⟩ := hG1.cells4
            have HP1 := Lib.hid hp1
            have HG1 := Lib.hid hG1
            clear hp1 hG1 HIX
            go_upto_region 13 with fail
            clear y0 y1 y2 y3 yf
            go_loopg [64, 6] g.wires.length (fun gk s64 s6 WR => ∃ (j lg2 lc2 : Nat) (ts3 : List (List UInt8)), j + gk = g.wires.length ∧ s64 = .int .i64 j ∧ s6 = .slice (some ⟨lg2, 0, none⟩) ts3.length lc2 ∧ Hid (ts3.length = ts2.length + j) ∧ Hid (ts3 = ts2 ++ (g.wires.take j).map itoa) ∧ Pst w WR s6 (.slice og ts.length oc) ts3 os ∧ Blk WR G 61 #[.int .i64 g.kind, .slice Dv g.wires.length dv, .int .i64 g.bit, .int .i64 g.ifn])
            case atStart => exact ⟨0, g', cap', ts2, by omega, rfl, rfl, by show _ = _; rfl, by show _ = _; simp, HP1.out, HG1.out⟩
            case round =>
              clear HP1 HG1
              obtain ⟨j, lg2, lc2, ts3, hj, rfl, rfl, Hl3, Hts3, hp3, hG3⟩ := hrel
              have hts3 : ts3.length ≤ 215 := by have := Hl3.out; omega
              cases gk with
              | succ g2 =>
                have hlt2 : j < g.wires.length := by omega
                have hlti2 : (j : Int) < (g.wires.length : Int) := by omega
                have hj0' : (0 : Int) ≤ (j : Int) := by omega
                obtain ⟨z, Hz, hgz⟩ : ∃ z, Hid (g.wires.take (j + 1) = g.wires.take j ++ [z]) ∧ g.wires[j]? = some z := ⟨g.wires[j], by show _ = _; rw [List.take_succ_eq_append_getElem hlt2], List.getElem?_eq_getElem hlt2⟩
                have hzw := Lib.hid (HGW.out z (List.mem_of_getElem? hgz))
                obtain ⟨A2, d2, e2, _, _, h4⟩ := (HWV.out _ hp3.kept).form
                injection e2 with e2a _ e2c
                subst e2a e2c
                obtain ⟨ga, oa, rfl, _, hcell⟩ := h4 (by intro h0; rw [h0] at hlt2; simp at hlt2)
                have xz := hcell j hlt2
                rw [List.getD_eq_getElem?_getD, hgz] at xz
                simp only [Option.getD_some] at xz
                have HP3 := Lib.hid hp3
                have HG3 := Lib.hid hG3
                clear hp3 hG3 hcell h4 hgz
                go_wp2_with fail
                refine (HN.out z hzw.out _).mono ?_
                rintro e w1 ⟨rfl, rfl⟩
                clear xz
                go_wp2_with (at_builtin; refine wpList_append_own _ rfl _ _ 29 rfl w.heap.size 9 i0 _ 1 16 Tryz.underlying29 hi hz0 hz1 hz2 rfl (by decide) _ _ _ rfl (own_below HP3.out.l (below1 wr (.cells #[.string (bs (itoa z))] 9)) (Nat.le_refl _)) ⟨wr.heap.size, 0, none⟩ 1 1 [.string (bs (itoa z))] rfl rfl (row_new _ _ _) (by simp [Value.oneCell']) (by unfold maxLen; omega) (by omega) (by have := HP3.out.kept.size; simp; omega) ?_; intro v' w5 hown' hgrow _; obtain ⟨g', cap', rfl⟩ := ownsRow_succ hown')
                have hp4 := HP3.out.alloc (.cells #[.string (bs (itoa z))] 9)
                have hG4 := hp4.box (HG3.out.alloc _) (by decide) hgrow
                have hp5 := hp4.put (new := [itoa z]) hown' rfl rfl hgrow
                go_roundg g2
                case measure => omega
                case rel =>
                  refine ⟨j + 1, g', cap', ts3 ++ [itoa z], by omega, by go_num, by simp, by show _ = _; have := Hl3.out; simp; omega, ?_, hp5, hG4⟩
                  show _ = _
                  rw [Hz.out, Hts3.out, List.map_append, List.append_assoc]; rfl
              | zero =>
                obtain rfl : j = g.wires.length := by omega
                rw [List.take_length] at Hts3
                clear HWV HGW
                obtain ⟨y0, y1, y2, y3, yf⟩ := hG3.cells4
                go_upto_if 76 with fail
                go_cut [6] (fun s6 wx => Rst w wx G #[.int .i64 g.kind, .slice Dv g.wires.length dv, .int .i64 g.bit, .int .i64 g.ifn] s6 (.slice og ts.length oc) (ts3 ++ bitT g) os)
                case first =>
                  by_cases hif : g.kind = 13
                  · have Hi : Hid (bitT g = [itoa g.bit]) := by show _ = _; unfold bitT; rw [if_pos hif]
                    have HP4 := Lib.hid hp3
                    have HG4 := Lib.hid hG3
                    have hbd := Lib.hid hgbt
                    clear hp3 hG3
                    go_wp2_with fail
                    refine (HN.out g.bit hbd.out _).mono ?_
                    rintro e w1 ⟨rfl, rfl⟩
                    go_wp2_with (at_builtin; refine wpList_append_own _ rfl _ _ 29 rfl w.heap.size 9 i0 _ 1 16 Tryz.underlying29 hi hz0 hz1 hz2 rfl (by decide) _ _ _ rfl (own_below HP4.out.l (below1 wr (.cells #[.string (bs (itoa g.bit))] 9)) (Nat.le_refl _)) ⟨wr.heap.size, 0, none⟩ 1 1 [.string (bs (itoa g.bit))] rfl rfl (row_new _ _ _) (by simp [Value.oneCell']) (by unfold maxLen; omega) (by omega) (by have := HP4.out.kept.size; simp; omega) ?_; intro v' w5 hown' hgrow _; obtain ⟨g', cap', rfl⟩ := ownsRow_succ hown')
                    go_meet
                    have hp2 := HP4.out.alloc (.cells #[.string (bs (itoa g.bit))] 9)
                    rw [Hi.out]
                    refine ⟨g', cap', by rw [List.length_append]; rfl, ?_, hp2.box (HG4.out.alloc _) (by decide) hgrow⟩
                    exact hp2.put (new := [itoa g.bit]) hown' rfl rfl hgrow
                  · have Hi : Hid (bitT g = []) := by show _ = _; unfold bitT; rw [if_neg hif]
                    go_wp2_with fail
                    go_meet
                    rw [Hi.out, List.append_nil]
                    exact ⟨lg2, lc2, rfl, hp3, hG3⟩
                case rest =>
                  clear hp3 hG3 y0 y1 y2 y3 yf
                  obtain ⟨ts4, hts4e⟩ : ∃ t, Hid (ts3 ++ bitT g = t) := ⟨_, rfl⟩
                  have hts4 : (ts3 ++ bitT g).length ≤ 220 := by rw [List.length_append]; have := bitT_len g; omega
                  have hts4' : ts.length ≤ (ts3 ++ bitT g).length := by
                    have h1 := congrArg List.length hts1e.out
                    rw [List.length_append] at h1 ⊢
                    have h2 := Hl3.out
                    have h3 := Hl2.out
                    omega
                  rw [hts4e.out] at hcut hts4 hts4'
                  obtain ⟨lg4, lc4, rfl, hp5, hG5⟩ := hcut
                  have HP5 := Lib.hid hp5
                  clear hp5 hG5
                  go_upto_region 20 with (at_builtin; refine wpList_append_own _ rfl _ _ 29 rfl w.heap.size 9 i0 _ 1 16 Tryz.underlying29 hi hz0 hz1 hz2 rfl (by decide) _ _ _ rfl (own_below HP5.out.l (below1 wc (.cells #[.string ⟨#[59]⟩] 9)) (Nat.le_refl _)) ⟨wc.heap.size, 0, none⟩ 1 1 [.string ⟨#[59]⟩] rfl rfl (row_new _ _ _) (by simp [Value.oneCell']) (by unfold maxLen; omega) (by omega) (by have := HP5.out.kept.size; simp; omega) ?_; intro v' w5 hown' hgrow _; obtain ⟨g', cap', rfl⟩ := ownsRow_succ hown')
                  have hp6 := (HP5.out.alloc (.cells #[.string ⟨#[59]⟩] 9)).put (new := [[59]]) hown' rfl rfl hgrow
                  obtain ⟨ts5, Hts5, hts5⟩ : ∃ t, Hid (ts4 ++ [[59]] = t) ∧ t.length = ts4.length + 1 := ⟨ts4 ++ [[59]], by show _ = _; rfl, by simp⟩
                  rw [Hts5.out] at hp6
                  rw [← hts5] at hp6 ⊢
                  have HE : Hid (ts5 = ts ++ toksG g) := by
                    show _ = _
                    rw [toksG_eq, ← Hts5.out, ← hts4e.out, Hts3.out, ← Hts2.out, ← hts1e.out]
                    simp only [List.append_assoc]
                  have HP6 := Lib.hid hp6
                  have hl5 : ts5.length ≤ 221 := by omega
                  have hl5' : ts.length ≤ ts5.length := by omega
                  clear HP5 hp6 hown' hgrow hts5
                  generalize w5 = wz at *
                  go_loopg [7] (ts5.length - ts.length) (fun gk s7 wr => ∃ (m : Nat) (og : Option Addr) (oc : Nat) (os2 : List Int), m + gk = ts5.length - ts.length ∧ Hid (os2.length = ts.length + m) ∧ s7 = .slice og os2.length oc ∧ Hid (os2 = os ++ List.replicate m (k : Int)) ∧ Pst w wr (.slice (some ⟨g', 0, none⟩) ts5.length cap') s7 ts5 os2)
                  case atStart => exact ⟨0, og, oc, os, by omega, by show _ = _; omega, by rw [hlen], by show _ = _; simp, HP6.out⟩
                  case round =>
                    clear HP6
                    obtain ⟨m, og, oc, os2, hm, Hl2b, rfl, Hos2, hp7⟩ := hrel
                    have HP7 := Lib.hid hp7
                    clear hp7
                    cases gk with
                    | succ g3 =>
                      have hlt3 : (os2.length : Int) < (ts5.length : Int) := by have := Hl2b.out; omega
                      have hl6 : os2.length ≤ 221 := by have := Hl2b.out; omega
                      go_wp2_with (at_builtin; refine wpList_append_own _ rfl _ _ 30 rfl w.heap.size 3 j0 _ 1 8 Tryz.underlying30 hji hj0 hj1 hj2 rfl (by decide) _ _ _ rfl (own_below HP7.out.o (below1 wr (.cells #[.int .i64 (k : Int)] 3)) (Nat.le_refl _)) ⟨wr.heap.size, 0, none⟩ 1 1 [.int .i64 (k : Int)] rfl rfl (row_new _ _ _) (by simp [Value.oneCell']) (by unfold maxLen; omega) (by omega) (by have := HP7.out.kept.size; simp; omega) ?_; intro v' w5 hown' hgrow _; obtain ⟨g', cap', rfl⟩ := ownsRow_succ hown')
                      have hp8 := (HP7.out.alloc (.cells #[.int .i64 (k : Int)] 3)).putO (new := [(k : Int)]) hown' rfl rfl hgrow
                      go_roundg g3
                      case measure => omega
                      case rel =>
                        refine ⟨m + 1, some ⟨g', 0, none⟩, cap', os2 ++ [(k : Int)], by omega, by show _ = _; have := Hl2b.out; simp; omega, by simp, ?_, hp8⟩
                        show _ = _
                        rw [Hos2.out, List.append_assoc, List.replicate_succ']
                    | zero =>
                      have hlt3 : ¬ (os2.length : Int) < (ts5.length : Int) := by have := Hl2b.out; omega
                      have Hl7 : Hid (os2.length = ts5.length) := by show _ = _; have := Hl2b.out; omega
                      have Hg0 : Hid (m = (toksG g).length) := by show _ = _; have := congrArg List.length HE.out; rw [List.length_append] at this; omega
                      go_wp2_with fail
                      go_roundg g1
                      case measure => omega
                      case rel =>
                        refine ⟨k + 1, g', cap', og, oc, ts5, os2, by omega, by go_num, rfl, by rw [Hl7.out], Hl7.out, ?_, ?_, HP7.out⟩
                        · show _ = _
                          rw [HE.out, Hts.out, Hg.out, List.flatMap_append, List.append_assoc]
                          simp
                        · show _ = _
                          rw [Hos2.out, Hos.out, Hg.out, ofG_snoc, Hg0.out, List.append_assoc, List.length_take, Nat.min_eq_left (by omega), Int.zero_add]
end Go.Proofs.YtonnegkpjmhomaaGreatDoor
end
