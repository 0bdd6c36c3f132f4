import Derived.Deep.DeepCutAuto
import Derived.Deep.CutBlock
import Derived.Deep.LoopGhost
import Derived.Deep.RegionHeld3
import Derived.IntWalk
import Derived.Test.YtepdnjjfhbjcjaaGreatDoorC1
import Derived.Test.YtepdnjjfhbjcjaaGreatDoorC2
import Derived.Test.YtepdnjjfhbjcjaaGreatDoorC4
set_option linter.all false
section
namespace Go.Proofs.YtepdnjjfhbjcjaaGreatDoor
open Go.RowKit
def lstOk (r : Pt × Nat) : Bool := wiB r.1.a r.1.b r.1.c r.1.d 1073741824 && decide (r.2 ≤ 60)
theorem memA (w w1 : World) (o1 : Obj) (t t' : TypeId) (cs cs' : Array Value) (hb1 : Below ((w.alloc o1).alloc (.cells cs t)).drew.heap.size ((w.alloc o1).alloc (.cells cs t)).drew w1) :
    w.heap.size + 1 < w1.heap.size ∧ Blk (w1.alloc (.cells cs' t')) w1.heap.size t' cs' ∧ Blk (w1.alloc (.cells cs' t')) (w.heap.size + 1) t cs ∧ Below w.heap.size w (w1.alloc (.cells cs' t')) := by
  have hz : w.heap.size + 1 < w1.heap.size := by have := hb1.size; simp at this; omega
  refine ⟨hz, Blk.new _ _ _, Blk.alloc (Blk.below (Blk.drew (Blk.at_ (w.alloc o1) t cs (by simp))) hb1 (by simp)) _, ?_⟩
  exact (bt hb1 (below2 _ _ _).drew (by simp <;> omega)).alloc (by omega) _
theorem memB (w w1 : World) (o1 : Obj) (t t' : TypeId) (cs : Array Value) (z a b c d : Value)
    (hb1 : Below (((w.alloc o1).alloc (.cells cs t)).alloc (.cells #[z, z, z, z] t')).drew.heap.size (((w.alloc o1).alloc (.cells cs t)).alloc (.cells #[z, z, z, z] t')).drew w1) :
    w.heap.size + 1 < w.heap.size + 1 + 1 ∧ Blk ((((w1.setCell ⟨w.heap.size + 1 + 1, 0, none⟩ a).setCell ⟨w.heap.size + 1 + 1, 1, none⟩ b).setCell ⟨w.heap.size + 1 + 1, 2, none⟩ c).setCell ⟨w.heap.size + 1 + 1, 3, none⟩ d) (w.heap.size + 1 + 1) t' #[a, b, c, d] ∧
      Blk ((((w1.setCell ⟨w.heap.size + 1 + 1, 0, none⟩ a).setCell ⟨w.heap.size + 1 + 1, 1, none⟩ b).setCell ⟨w.heap.size + 1 + 1, 2, none⟩ c).setCell ⟨w.heap.size + 1 + 1, 3, none⟩ d) (w.heap.size + 1) t cs ∧
      Below w.heap.size w ((((w1.setCell ⟨w.heap.size + 1 + 1, 0, none⟩ a).setCell ⟨w.heap.size + 1 + 1, 1, none⟩ b).setCell ⟨w.heap.size + 1 + 1, 2, none⟩ c).setCell ⟨w.heap.size + 1 + 1, 3, none⟩ d) := by
  have h1 : Blk w1 (w.heap.size + 1 + 1) t' #[z, z, z, z] := Blk.below (Blk.drew (Blk.at_ _ _ _ (by simp))) hb1 (by simp)
  have h2 : Blk w1 (w.heap.size + 1) t cs := Blk.below (Blk.drew (Blk.alloc (Blk.at_ (w.alloc o1) t cs (by simp)) _)) hb1 (by simp <;> omega)
  have hb : Below w.heap.size w w1 := bt hb1 (below3 _ _ _ _).drew (by simp <;> omega)
  refine ⟨by omega, h1.put4, (((h2.far (by simp) _).far (by simp) _).far (by simp) _).far (by simp) _, ?_⟩
  exact (((hb.setCell (by simp <;> omega) _).setCell (by simp <;> omega) _).setCell (by simp <;> omega) _).setCell (by simp <;> omega) _
def lstRet (r : Pt × Nat) : Value := if lstOk r then .tuple #[.agg #[.int .i64 r.1.a, .int .i64 r.1.b, .int .i64 r.1.c, .int .i64 r.1.d, .int .i64 r.2], .int .i64 0]
  else .tuple #[.agg #[.int .i64 0, .int .i64 0, .int .i64 0, .int .i64 0, .int .i64 0], .int .i64 8]
attribute [local go_sem high] eqArr
set_option maxHeartbeats 1000000 in
theorem least_calls (p : Pt) (k : Nat) (f : FuncId) (hs : p.sm 4611686018427387904) (hk : k ≤ 1000) (w : World) :
    Calls Tryz.prog 45 #[.agg #[.int .i64 p.a, .int .i64 p.b, .int .i64 p.c, .int .i64 p.d, .int .i64 k, .func (.func f) #[] #[]]] w fun e w' =>
      e = .returned (lstRet (Pt.red k p)) ∧ Below w.heap.size w w' := by
  have Hs := Lib.hid hs
  clear hs
  go_enter Tryz.func45, Tryz.ntmps45
  go_upto_region 1 with fail
  go_cut [4, 5] (fun s4 s5 wx => ∃ B, s4 = .pointer (some ⟨B, 0, none⟩) ∧ s5 = .int .i64 k ∧ w.heap.size + 1 < B ∧ Blk wx B 66 #[.int .i64 p.a, .int .i64 p.b, .int .i64 p.c, .int .i64 p.d] ∧
     Blk wx (w.heap.size + 1) 23 #[.int .i64 0, .int .i64 0, .int .i64 0, .int .i64 0, .int .i64 0] ∧ Below w.heap.size w wx)
  case first =>
    go_region_with (go_at_call 48; refine (parts_calls _ _ _ _ _ _ _).mono ?_; rintro e w1 ⟨rfl, hb1⟩; obtain ⟨hc, hf⟩ := bcell hb1; have hz1 : w.heap.size < w1.heap.size := (by have := hb1.size; simp at this; omega); have hz2 : w.heap.size + 1 < w1.heap.size := (by have := hb1.size; simp at this; omega))
    all_goals (go_wp2_with fail; go_meet)
    all_goals first
      | exact ⟨_, rfl, rfl, memA w w1 _ _ _ _ _ hb1⟩
      | exact ⟨_, rfl, rfl, memB w w1 _ _ _ _ _ _ _ _ _ hb1⟩
  case rest =>
    obtain ⟨B, rfl, rfl, hB, hp, hr, hb⟩ := hcut
    have hBB := hp.lt
    obtain ⟨p0, p1, p2, p3, pf⟩ := hp.cells4
    obtain ⟨r0, r1, r2, r3, r4, rf⟩ := hr.cells5
    have Hp := Lib.hid hp
    have Hr := Lib.hid hr
    clear hp hr
    by_cases hz : p = Pt.zero
    · have Hz : Hid (lstRet (Pt.red k p) = .tuple #[.agg #[.int .i64 0, .int .i64 0, .int .i64 0, .int .i64 0, .int .i64 0], .int .i64 0]) := by
        show _ = _; rw [hz, Pt.red_zero]; rfl
      have z0 : p.a = 0 := by rw [hz]; rfl
      have z1 : p.b = 0 := by rw [hz]; rfl
      have z2 : p.c = 0 := by rw [hz]; rfl
      have z3 : p.d = 0 := by rw [hz]; rfl
      clear hz
      go_wp2_with fail
      refine bodyPost_ret (v := .tuple #[.agg #[.int .i64 0, .int .i64 0, .int .i64 0, .int .i64 0, .int .i64 0], .int .i64 0]) (by simp [results, Tryz.results45, go_sem, r0, r1, r2, r3, r4]) rfl ⟨by rw [Hz.out], ?_⟩
      exact below_put5 hb (by omega) _ _ _ _ _
    · have hnz : (p.a == 0 && (p.b == 0 && (p.c == 0 && p.d == 0))) = false := by
        rw [Bool.eq_false_iff]; intro h; simp at h; exact hz (Pt.ext' h.1 h.2.1 h.2.2.1 h.2.2.2)
      clear hz
      go_upto_region 4 with fail
      go_cut [6, 7] (fun s6 s7 wx => s6 = .func (.func 91) #[.agg #[.int .i64 p.a, .int .i64 p.b, .int .i64 p.c, .int .i64 p.d]] #[] ∧ s7 = .func (.func 92) #[.agg #[.int .i64 p.a, .int .i64 p.b, .int .i64 p.c, .int .i64 p.d]] #[] ∧ wx = wc.drew)
      case first =>
        go_region
        all_goals (go_wp2_with fail; go_meet; exact ⟨rfl, rfl, rfl⟩)
      case rest =>
        obtain ⟨rfl, rfl, rfl⟩ := hcut
        clear p0 p1 p2 p3 pf r0 r1 r2 r3 r4 rf hnz
        go_upto_block 0 with fail
        go_cut [5, 6, 7] (fun s5 _ _ wx => ∃ (q : Pt) (j : Nat), s5 = .int .i64 j ∧ Pt.red k p = (q, j) ∧ Blk wx B 66 #[.int .i64 q.a, .int .i64 q.b, .int .i64 q.c, .int .i64 q.d] ∧
          Blk wx (w.heap.size + 1) 23 #[.int .i64 0, .int .i64 0, .int .i64 0, .int .i64 0, .int .i64 0] ∧ Below w.heap.size w wx ∧ j ≤ k)
        case first =>
          go_wp2_with fail
          go_loopg [5, 6, 7] k (fun g s5 s6 s7 wr => ∃ (q : Pt) (j : Nat), g = j ∧ s5 = .int .i64 j ∧ s6 = .func (.func 91) #[.agg #[.int .i64 q.a, .int .i64 q.b, .int .i64 q.c, .int .i64 q.d]] #[] ∧ s7 = .func (.func 92) #[.agg #[.int .i64 q.a, .int .i64 q.b, .int .i64 q.c, .int .i64 q.d]] #[] ∧
            Blk wr B 66 #[.int .i64 q.a, .int .i64 q.b, .int .i64 q.c, .int .i64 q.d] ∧
            Blk wr (w.heap.size + 1) 23 #[.int .i64 0, .int .i64 0, .int .i64 0, .int .i64 0, .int .i64 0] ∧ Below w.heap.size w wr ∧ Pt.red k p = Pt.red j q ∧ q.sm 4611686018427387904 ∧ j ≤ k)
          case atStart => exact ⟨p, k, rfl, rfl, rfl, rfl, Hp.out.drew, Hr.out.drew, hb.drew, rfl, Hs.out, Nat.le_refl _⟩
          case round =>
            clear Hp Hr hb Hs
            obtain ⟨q, _, rfl, rfl, rfl, rfl, hq, hr, hb, hred, hsm, hjk⟩ := hrel
            have Hred := Lib.hid hred
            clear hred
            have hBB := hq.lt
            obtain ⟨⟨s1, s2⟩, ⟨s3, s4⟩, ⟨s5, s6⟩, ⟨s7, s8⟩⟩ := hsm
            have Hsm : Hid (q.sm 4611686018427387904) := ⟨⟨s1, s2⟩, ⟨s3, s4⟩, ⟨s5, s6⟩, ⟨s7, s8⟩⟩
            by_cases hj : 0 < gk
            · go_wp2_with fail
              refine (even_calls _ _ _ _ (by omega) (by omega) _).mono ?_
              rintro e w1 ⟨rfl, hb1⟩
              have hq1 := hq.below hb1 hq.lt
              have hr1 := hr.below hb1 hr.lt
              have hbw1 : Below w.heap.size w w1 := bt hb1 hb hb.size
              have hBB1 := hq1.lt
              clear hq hr hb hb1 hBB
              cases hev : Pt.ev ⟨q.a, q.b, q.c, q.d⟩
              · have Hfix : Hid (Pt.red k p = (q, gk)) := by show _ = _; rw [Hred.out]; exact Pt.red_of_fix (.inr hev)
                go_wp2_with fail
                go_meet
                exact ⟨q, gk, rfl, Hfix.out, hq1, hr1, hbw1, hjk⟩
              · obtain ⟨e1, e2⟩ := (Pt.ev_iff _).1 hev
                have Hstep : Hid (Pt.red k p = Pt.red (gk - 1) q.half ∧ q.half.sm 4611686018427387904) := by
                  refine ⟨?_, Pt.sm_half hev Hsm.out⟩
                  obtain ⟨i, rfl⟩ : ∃ i, gk = i + 1 := ⟨gk - 1, by omega⟩
                  rw [Hred.out, Pt.red, if_pos hev]; rfl
                go_wp2_with fail
                refine (half_calls _ _ _ _ e1 e2 (by omega) (by omega) (by omega) (by omega) _).mono ?_
                rintro e w2 ⟨rfl, hb2⟩
                have hq2 := hq1.below hb2 hq1.lt
                have hr2 := hr1.below hb2 hr1.lt
                have hbw2 : Below w.heap.size w w2 := bt hb2 hbw1 hbw1.size
                have hBB2 := hq2.lt
                clear hq1 hr1 hbw1 hb2 hBB1 e1 e2
                obtain ⟨q0, q1, q2, q3, qf⟩ := hq2.cells4
                go_wp2_with fail
                go_region
                all_goals go_wp2_with fail
                all_goals go_roundg (gk - 1)
                case measure => omega
                case rel => exact ⟨q.half, gk - 1, rfl, congrArg (Value.int .i64) (by omega), rfl, rfl, hq2.put4.drew, ((((hr2.far (by show w.heap.size + 1 ≠ B; omega) _).far (by show w.heap.size + 1 ≠ B; omega) _).far (by show w.heap.size + 1 ≠ B; omega) _).far (by show w.heap.size + 1 ≠ B; omega) _).drew, (below_put4 hbw2 (by omega) _ _ _ _).drew, Hstep.out.1, Hstep.out.2, by omega⟩
            · have Hfix : Hid (Pt.red k p = (q, gk)) := by show _ = _; rw [Hred.out]; exact Pt.red_of_fix (.inl (by omega))
              go_wp2_with fail
              go_meet
              exact ⟨q, gk, rfl, Hfix.out, hq, hr, hb, hjk⟩
        case rest =>
          clear Hp Hr hb
          obtain ⟨q, j, rfl, hred, hq, hr, hb, hjk⟩ := hcut
          obtain ⟨q0, q1, q2, q3, qf⟩ := hq.cells4
          obtain ⟨r0, r1, r2, r3, r4, rf⟩ := hr.cells5
          have hBB := hq.lt
          have Hred : Hid (lstRet (Pt.red k p) = lstRet (q, j)) := by show _ = _; rw [hred]
          clear hred
          have hj0 : ¬ ((j : Int) < 0) := by omega
          go_wp2_with fail
          refine wp_loop_rounds 1 ?_
          rw [rounds_succ]
          by_cases hj : 60 < j
          · have Hno : Hid (lstRet (q, j) = .tuple #[.agg #[.int .i64 0, .int .i64 0, .int .i64 0, .int .i64 0, .int .i64 0], .int .i64 8]) := by
              show _ = _; unfold lstRet; rw [if_neg]; simp [lstOk]; omega
            go_wp2_with fail
            refine bodyPost_ret (v := .tuple #[.agg #[.int .i64 0, .int .i64 0, .int .i64 0, .int .i64 0, .int .i64 0], .int .i64 8]) (by simp [results, Tryz.results45, go_sem, r0, r1, r2, r3, r4]) rfl ⟨by rw [Hred.out, Hno.out], ?_⟩
            exact below_put5 hb (by omega) _ _ _ _ _
          · go_wp2_with fail
            refine (within_calls _ _ _ _ _ (by omega) (by omega) _).mono ?_
            rintro e w1 ⟨rfl, hb1⟩
            have hq1 := hq.below hb1 hq.lt
            have hr1 := hr.below hb1 hr.lt
            have hbw1 : Below w.heap.size w w1 := bt hb1 hb hb.size
            have hBB1 := hq1.lt
            clear hq hr hb hb1 hBB q0 q1 q2 q3 qf r0 r1 r2 r3 r4 rf
            obtain ⟨q0, q1, q2, q3, qf⟩ := hq1.cells4
            obtain ⟨r0, r1, r2, r3, r4, rf⟩ := hr1.cells5
            cases hwi : wiB q.a q.b q.c q.d 1073741824
            · have Hno : Hid (lstRet (q, j) = .tuple #[.agg #[.int .i64 0, .int .i64 0, .int .i64 0, .int .i64 0, .int .i64 0], .int .i64 8]) := by
                show _ = _; unfold lstRet; rw [if_neg]; simp [lstOk, hwi]
              go_wp2_with fail
              refine bodyPost_ret (v := .tuple #[.agg #[.int .i64 0, .int .i64 0, .int .i64 0, .int .i64 0, .int .i64 0], .int .i64 8]) (by simp [results, Tryz.results45, go_sem, r0, r1, r2, r3, r4]) rfl ⟨by rw [Hred.out, Hno.out], ?_⟩
              exact below_put5 hbw1 (by omega) _ _ _ _ _
            · have Hyes : Hid (lstRet (q, j) = .tuple #[.agg #[.int .i64 q.a, .int .i64 q.b, .int .i64 q.c, .int .i64 q.d, .int .i64 j], .int .i64 0]) := by
                show _ = _; unfold lstRet; rw [if_pos]; simp [lstOk, hwi]; omega
              go_wp2_with fail
              refine (of_calls _ _ _ _ _ _).mono ?_
              rintro e w2 ⟨rfl, hb2⟩
              have hr2 := hr1.below hb2 hr1.lt
              have hbw2 : Below w.heap.size w w2 := bt hb2 hbw1 hbw1.size
              clear hr1 hbw1 hb2 hq1 hBB1 q0 q1 q2 q3 qf r0 r1 r2 r3 r4 rf
              obtain ⟨r0, r1, r2, r3, r4, rf⟩ := hr2.cells5
              go_wp2_with fail
              refine bodyPost_ret (v := .tuple #[.agg #[.int .i64 q.a, .int .i64 q.b, .int .i64 q.c, .int .i64 q.d, .int .i64 j], .int .i64 0]) (by simp [results, Tryz.results45, go_sem, r0, r1, r2, r3, r4]) rfl ⟨by rw [Hred.out, Hyes.out], ?_⟩
              exact below_put5 hbw2 (by omega) _ _ _ _ _
end Go.Proofs.YtepdnjjfhbjcjaaGreatDoor
end
section
namespace Go.Proofs.YtepdnjjfhbjcjaaGreatDoor
open Go.RowKit
structure Nm where
  p : Pt
  k : Int
def Nm.chk (x : Nm) : Int := Go.Proofs.YtepdnjjfhbjcjaaGreatDoor.chk x.p.a x.p.b x.p.c x.p.d x.k
def chks : List Nm → Int
  | [] => 0
  | x :: l => if x.chk = 0 then chks l else x.chk
def rowAt (w : World) (b : Nat) (zs : List Nm) : Prop := ∀ (j : Nat) (x : Nm), zs[j]? = some x →
  w.cell? ⟨b, j * 5, none⟩ = some (.int .i64 x.p.a) ∧ w.cell? ⟨b, j * 5 + 1, none⟩ = some (.int .i64 x.p.b) ∧ w.cell? ⟨b, j * 5 + 2, none⟩ = some (.int .i64 x.p.c) ∧ w.cell? ⟨b, j * 5 + 3, none⟩ = some (.int .i64 x.p.d) ∧ w.cell? ⟨b, j * 5 + 4, none⟩ = some (.int .i64 x.k)
set_option maxHeartbeats 400000 in
theorem checks_calls (zs : List Nm) (b cap : Nat) (hl : zs.length ≤ 1000) (w : World) (hb : b < w.heap.size) (hz : rowAt w b zs) :
    Calls Tryz.prog 32 #[.slice (some ⟨b, 0, none⟩) zs.length cap] w fun e w' => e = .returned (.int .i64 (chks zs)) ∧ Below w.heap.size w w' := by
  have Hz := Lib.hid hz
  clear hz
  go_enter Tryz.func32, Tryz.ntmps32
  go_wp2_with fail
  go_loopg [2, 4, 5, 8] zs.length (fun g s2 _ _ s8 wr => ∃ k : Nat, k ≤ zs.length ∧ g = zs.length - k ∧ s2 = .int .i64 0 ∧ s8 = .int .i64 k ∧ chks zs = chks (zs.drop k) ∧ Below w.heap.size w wr)
  case atStart => exact ⟨0, by omega, rfl, rfl, rfl, rfl, Below.refl _ _⟩
  case round =>
    obtain ⟨k, hk, rfl, rfl, rfl, hf, hbw⟩ := hrel
    have Hf := Lib.hid hf
    have hbs := hbw.size
    clear hf
    by_cases hlt : k < zs.length
    · obtain ⟨x, Hc, hx⟩ : ∃ x, Hid (zs.drop k = x :: zs.drop (k + 1)) ∧ zs[k]? = some x :=
        ⟨zs[k], by show zs.drop k = _; rw [List.drop_eq_getElem_cons hlt], List.getElem?_eq_getElem hlt⟩
      obtain ⟨c0, c1, c2, c3, c4⟩ := Hz.out k x hx
      rw [← hbw.cell hb] at c0 c1 c2 c3 c4
      clear hx
      go_wp2_with fail
      refine (Check_calls _ _ _ _ _ _).mono ?_
      rintro e w1 ⟨rfl, hb1⟩
      have hbw1 : Below w.heap.size w w1 := bt hb1 (hbw.alloc hbs _) (by simp; omega)
      clear c0 c1 c2 c3 c4 hb1 hbw
      obtain ⟨n, hn⟩ : ∃ n : Int, Go.Proofs.YtepdnjjfhbjcjaaGreatDoor.chk x.p.a x.p.b x.p.c x.p.d x.k = n := ⟨_, rfl⟩
      have Hn : Hid (x.chk = n) := hn
      rw [hn]
      clear hn
      by_cases h0 : n = 0
      · have Hr : Hid (chks zs = chks (zs.drop (k + 1))) := by show _ = _; rw [Hf.out, Hc.out, chks, if_pos (Hn.out.trans h0)]
        subst h0
        go_wp2_with fail
        go_roundg (zs.length - (k + 1))
        case measure => omega
        case rel => exact ⟨k + 1, by omega, rfl, rfl, congrArg (Value.int .i64) (by omega), Hr.out, hbw1⟩
      · have Hr : Hid (chks zs = n) := by show _ = _; rw [Hf.out, Hc.out, chks, if_neg (by rw [Hn.out]; exact h0)]; exact Hn.out
        have h0b : (n != 0) = true := by simpa using h0
        clear h0
        go_wp2_with fail
        go_ret
        exact ⟨by rw [Hr.out]; rfl, hbw1⟩
    · have Hr : Hid (chks zs = 0) := by show _ = _; rw [Hf.out, List.drop_of_length_le (by omega)]; rfl
      go_wp2_with fail
      go_ret
      exact ⟨by rw [Hr.out]; rfl, hbw⟩
end Go.Proofs.YtepdnjjfhbjcjaaGreatDoor
end
section
namespace Go.Proofs.YtepdnjjfhbjcjaaGreatDoor
open Go.RowKit
set_option maxRecDepth 100000 in
set_option maxHeartbeats 2000000 in
theorem times_calls (p q : Pt) (P Q : Int) (hp : p.le P) (hq : q.le Q) (hR : P * Q ≤ 2000000000000000000) (w : World) :
    Calls Tryz.prog 56 #[.agg #[.int .i64 p.a, .int .i64 p.b, .int .i64 p.c, .int .i64 p.d], .agg #[.int .i64 q.a, .int .i64 q.b, .int .i64 q.c, .int .i64 q.d]] w fun e w' =>
      e = .returned (.agg #[.int .i64 (p.mul q).a, .int .i64 (p.mul q).b, .int .i64 (p.mul q).c, .int .i64 (p.mul q).d]) ∧ Below w.heap.size w w' := by
  obtain ⟨⟨h1, h2, h3, h4⟩, ⟨h5, h6, h7, h8⟩, ⟨h9, h10, h11, h12⟩, ⟨h13, h14, h15, h16⟩⟩ := Pt.prods hp hq hR
  clear hp hq hR
  have i0 : ∀ x0 x1 x2 x3 w, (Instr.index 66 (.agg #[x0, x1, x2, x3]) (.int .i64 0)).run Tryz.prog w = .ok x0 w := fun _ _ _ _ _ => by kernel_rfl
  have i1 : ∀ x0 x1 x2 x3 w, (Instr.index 66 (.agg #[x0, x1, x2, x3]) (.int .i64 1)).run Tryz.prog w = .ok x1 w := fun _ _ _ _ _ => by kernel_rfl
  have i2 : ∀ x0 x1 x2 x3 w, (Instr.index 66 (.agg #[x0, x1, x2, x3]) (.int .i64 2)).run Tryz.prog w = .ok x2 w := fun _ _ _ _ _ => by kernel_rfl
  have i3 : ∀ x0 x1 x2 x3 w, (Instr.index 66 (.agg #[x0, x1, x2, x3]) (.int .i64 3)).run Tryz.prog w = .ok x3 w := fun _ _ _ _ _ => by kernel_rfl
  go_enter Tryz.func56, Tryz.ntmps56
  go_wp2_with fail
  refine wp_loop_rounds 5 ?_
  rw [rounds_succ]
  go_wp2_with fail
  refine wp_loop_rounds 5 ?_
  rw [rounds_succ]
  go_wp2_with fail
  rw [rounds_succ]
  go_wp2_with fail
  rw [rounds_succ]
  go_wp2_with fail
  rw [rounds_succ]
  go_wp2_with fail
  rw [rounds_succ]
  go_wp2_with fail
  rw [rounds_succ]
  go_wp2_with fail
  refine wp_loop_rounds 5 ?_
  rw [rounds_succ]
  go_wp2_with fail
  rw [rounds_succ]
  go_wp2_with fail
  rw [rounds_succ]
  go_wp2_with fail
  rw [rounds_succ]
  go_wp2_with fail
  rw [rounds_succ]
  go_wp2_with fail
  rw [rounds_succ]
  go_wp2_with fail
  refine wp_loop_rounds 5 ?_
  rw [rounds_succ]
  go_wp2_with fail
  rw [rounds_succ]
  go_wp2_with fail
  rw [rounds_succ]
  go_wp2_with fail
  rw [rounds_succ]
  go_wp2_with fail
  rw [rounds_succ]
  go_wp2_with fail
  rw [rounds_succ]
  go_wp2_with fail
  refine wp_loop_rounds 5 ?_
  rw [rounds_succ]
  go_wp2_with fail
  rw [rounds_succ]
  go_wp2_with fail
  rw [rounds_succ]
  go_wp2_with fail
  rw [rounds_succ]
  go_wp2_with fail
  rw [rounds_succ]
  go_wp2_with fail
  rw [rounds_succ]
  go_wp2_with fail
  refine bodyPost_ret (v := .agg #[.int .i64 (p.mul q).a, .int .i64 (p.mul q).b, .int .i64 (p.mul q).c, .int .i64 (p.mul q).d]) ?_ rfl ⟨rfl, ?_⟩
  · simp [results, Tryz.results56, go_sem, Pt.mul]
  · exact (below3 _ _ _ _).alloc (by simp; omega) _
set_option maxHeartbeats 1000000 in
theorem raised_calls (p : Pt) (K : Int) (m : Nat) (f : FuncId) (hp : p.le 1073741824) (hm : m ≤ 60) (w : World) :
    Calls Tryz.prog 71 #[.agg #[.int .i64 p.a, .int .i64 p.b, .int .i64 p.c, .int .i64 p.d, .int .i64 K, .func (.func f) #[] #[]], .int .i64 (K + m)] w fun e w' =>
      e = .returned (.agg #[.int .i64 (Pt.tw m p).a, .int .i64 (Pt.tw m p).b, .int .i64 (Pt.tw m p).c, .int .i64 (Pt.tw m p).d]) ∧ Below w.heap.size w w' := by
  have Hp := Lib.hid hp
  clear hp
  have hd : K + (m : Int) - K = m := by omega
  go_enter Tryz.func71, Tryz.ntmps71
  go_wp2_with fail
  refine (parts_calls _ _ _ _ _ _ _).mono ?_
  rintro e w1 ⟨rfl, hb1⟩
  have hr1 : Blk w1 (w.heap.size + 1) 66 #[.int .i64 0, .int .i64 0, .int .i64 0, .int .i64 0] := Blk.below (Blk.at_ (w.alloc _) _ _ (by simp)) hb1 (by simp)
  have hx1 : w1.cell? ⟨w.heap.size, 4, none⟩ = some (.int .i64 K) := by rw [hb1.cell (by simp; omega)]; simp [go_sem]
  have hbw1 : Below w.heap.size w w1 := bt hb1 (below2 _ _ _) (by simp; omega)
  have hz0 : w.heap.size < w1.heap.size := by have := hb1.size; simp at this; omega
  have hz1 : w.heap.size + 1 < w1.heap.size := hr1.lt
  clear hb1
  go_wp2_with fail
  clear hd hx1
  have hr2 := hr1.alloc (.cells #[.int .i64 p.a, .int .i64 p.b, .int .i64 p.c, .int .i64 p.d] 66)
  have hp2 := Blk.new w1 66 #[.int .i64 p.a, .int .i64 p.b, .int .i64 p.c, .int .i64 p.d]
  have hb2 := hbw1.alloc (by omega) (.cells #[.int .i64 p.a, .int .i64 p.b, .int .i64 p.c, .int .i64 p.d] 66)
  obtain ⟨B, hB⟩ : ∃ B, w1.heap.size = B := ⟨_, rfl⟩
  rw [hB] at hp2 hz0 hz1 ⊢
  have H2 := Lib.hid (And.intro hr2 (And.intro hp2 hb2))
  clear hr2 hp2 hb2 hr1 hbw1
  go_loopg [13] m (fun g s13 wr => ∃ j : Nat, j ≤ m ∧ g = m - j ∧ s13 = .int .i64 j ∧ Blk wr B 66 #[.int .i64 (Pt.tw j p).a, .int .i64 (Pt.tw j p).b, .int .i64 (Pt.tw j p).c, .int .i64 (Pt.tw j p).d] ∧
    Blk wr (w.heap.size + 1) 66 #[.int .i64 0, .int .i64 0, .int .i64 0, .int .i64 0] ∧ Below w.heap.size w wr)
  case atStart => exact ⟨0, by omega, rfl, rfl, H2.out.2.1, H2.out.1, H2.out.2.2⟩
  case round =>
    clear H2 hB
    obtain ⟨j, hj, rfl, rfl, hq, hr, hb⟩ := hrel
    obtain ⟨q0, q1, q2, q3, qf⟩ := hq.cells4
    obtain ⟨r0, r1, r2, r3, rf⟩ := hr.cells4
    have hBB := hq.lt
    by_cases hlt : j < m
    · have Hs : Hid (Pt.tw (j + 1) p = (Pt.tw j p).twice) := Pt.tw_succ j p
      obtain ⟨⟨a1, a2⟩, ⟨b1, b2⟩, ⟨c1, c2⟩, ⟨d1, d2⟩⟩ := Pt.tw_le (j := j) Hp.out (by omega)
      generalize Pt.tw j p = q at *
      go_wp2_with fail
      refine (twice_calls _ _ _ _ (by omega) (by omega) (by omega) (by omega) _).mono ?_
      rintro e w2 ⟨rfl, hb2⟩
      have hq2 := hq.below hb2 hq.lt
      have hr2 := hr.below hb2 hr.lt
      have hbw2 : Below w.heap.size w w2 := bt hb2 hb hb.size
      have hBB2 := hq2.lt
      clear hq hr hb hb2 hBB q0 q1 q2 q3 qf r0 r1 r2 r3 rf
      obtain ⟨q0, q1, q2, q3, qf⟩ := hq2.cells4
      go_wp2_with fail
      go_roundg (m - (j + 1))
      case measure => omega
      case rel => exact ⟨j + 1, by omega, rfl, congrArg (Value.int .i64) (by omega), by rw [Hs.out]; exact hq2.put4, ((((hr2.far (by show w.heap.size + 1 ≠ B; omega) _).far (by show w.heap.size + 1 ≠ B; omega) _).far (by show w.heap.size + 1 ≠ B; omega) _).far (by show w.heap.size + 1 ≠ B; omega) _), below_put4 hbw2 (by omega) _ _ _ _⟩
    · obtain rfl : j = m := by omega
      go_wp2_with fail
      refine bodyPost_ret (v := .agg #[.int .i64 (Pt.tw j p).a, .int .i64 (Pt.tw j p).b, .int .i64 (Pt.tw j p).c, .int .i64 (Pt.tw j p).d]) (by simp [results, Tryz.results71, go_sem, r0, r1, r2, r3]) rfl ⟨rfl, ?_⟩
      exact below_put4 hb (by omega) _ _ _ _
end Go.Proofs.YtepdnjjfhbjcjaaGreatDoor
end
section
namespace Go.Proofs.YtepdnjjfhbjcjaaGreatDoor
open Go.RowKit
def Nm.zero : Nm := ⟨Pt.zero, 0⟩
def okN (r : Pt × Nat) : Nm × Int := if lstOk r then (⟨r.1, r.2⟩, 0) else (Nm.zero, 8)
theorem lstRet_okN (r : Pt × Nat) : lstRet r = .tuple #[.agg #[.int .i64 (okN r).1.p.a, .int .i64 (okN r).1.p.b, .int .i64 (okN r).1.p.c, .int .i64 (okN r).1.p.d, .int .i64 (okN r).1.k], .int .i64 (okN r).2] := by
  unfold lstRet okN
  by_cases h : lstOk r = true
  · rw [if_pos h, if_pos h]
  · rw [if_neg h, if_neg h]; rfl
theorem inb_iff (n s : Int) : inb n s = true ↔ -s ≤ n ∧ n ≤ s := by simp [inb]; omega
theorem wiB_iff (p : Pt) (s : Int) : wiB p.a p.b p.c p.d s = true ↔ p.le s := by
  unfold wiB
  simp only [Bool.and_eq_true, inb_iff, Pt.le]
  constructor
  · rintro ⟨⟨⟨h1, h2⟩, h3⟩, h4⟩; exact ⟨h1, h2, h3, h4⟩
  · rintro ⟨h1, h2, h3, h4⟩; exact ⟨⟨⟨h1, h2⟩, h3⟩, h4⟩
theorem Nm.chk_ok {x : Nm} (h : x.chk = 0) : x.p.le 1073741824 ∧ 0 ≤ x.k ∧ x.k ≤ 60 := by
  unfold Nm.chk Go.Proofs.YtepdnjjfhbjcjaaGreatDoor.chk at h
  by_cases hk : x.k < 0 ∨ 60 < x.k
  · rw [if_pos hk] at h; simp at h
  · rw [if_neg hk] at h
    by_cases hw : wiB x.p.a x.p.b x.p.c x.p.d 1073741824 = true
    · exact ⟨(wiB_iff _ _).1 hw, by omega, by omega⟩
    · rw [if_neg hw] at h; simp at h
theorem Nm.ok_chk {x : Nm} (h : x.p.le 1073741824) (h0 : 0 ≤ x.k) (h1 : x.k ≤ 60) : x.chk = 0 := by
  unfold Nm.chk Go.Proofs.YtepdnjjfhbjcjaaGreatDoor.chk
  rw [if_neg (by omega), if_pos ((wiB_iff _ _).2 h)]
theorem chks_two {x y : Nm} (h : chks [x, y] = 0) : x.chk = 0 ∧ y.chk = 0 := by
  unfold chks chks at h
  by_cases hx : x.chk = 0
  · rw [if_pos hx] at h
    by_cases hy : y.chk = 0
    · exact ⟨hx, hy⟩
    · rw [if_neg hy] at h; exact absurd h hy
  · rw [if_neg hx] at h; exact absurd h hx
def sLeast (x : Nm) : Nm × Int := if x.chk = 0 then okN (Pt.red x.k.toNat x.p) else (Nm.zero, x.chk)
def sConj (x : Nm) : Nm × Int := if x.chk = 0 then okN (Pt.red x.k.toNat x.p.conj) else (Nm.zero, x.chk)
def sMul (x y : Nm) : Nm × Int := if chks [x, y] = 0 then okN (Pt.red (x.k.toNat + y.k.toNat) (x.p.mul y.p)) else (Nm.zero, chks [x, y])
def sNorm (x : Nm) : Nm × Int := if (sConj x).2 = 0 then sMul x (sConj x).1 else (Nm.zero, (sConj x).2)
theorem least_nm (p : Pt) (k : Nat) (f : FuncId) (hs : p.sm 4611686018427387904) (hk : k ≤ 1000) (w : World) :
    Calls Tryz.prog 45 #[.agg #[.int .i64 p.a, .int .i64 p.b, .int .i64 p.c, .int .i64 p.d, .int .i64 k, .func (.func f) #[] #[]]] w fun e w' =>
      ∃ (y : Nm) (er : Int), e = .returned (.tuple #[.agg #[.int .i64 y.p.a, .int .i64 y.p.b, .int .i64 y.p.c, .int .i64 y.p.d, .int .i64 y.k], .int .i64 er]) ∧ okN (Pt.red k p) = (y, er) ∧ Below w.heap.size w w' :=
  (least_calls p k f hs hk w).mono fun _ _ ⟨he, hb⟩ => ⟨(okN (Pt.red k p)).1, (okN (Pt.red k p)).2, by rw [he, lstRet_okN], rfl, hb⟩
set_option maxHeartbeats 1000000 in
theorem Least_calls (x : Nm) (w : World) :
    Calls Tryz.prog 18 #[.agg #[.int .i64 x.p.a, .int .i64 x.p.b, .int .i64 x.p.c, .int .i64 x.p.d, .int .i64 x.k]] w fun e w' =>
      ∃ (y : Nm) (er : Int), e = .returned (.tuple #[.agg #[.int .i64 y.p.a, .int .i64 y.p.b, .int .i64 y.p.c, .int .i64 y.p.d, .int .i64 y.k], .int .i64 er]) ∧ sLeast x = (y, er) ∧ Below w.heap.size w w' := by
  obtain ⟨n, hn⟩ : ∃ n : Int, x.chk = n := ⟨_, rfl⟩
  have Hn : Hid (Go.Proofs.YtepdnjjfhbjcjaaGreatDoor.chk x.p.a x.p.b x.p.c x.p.d x.k = n) := hn
  have Hn2 : Hid (x.chk = n) := hn
  clear hn
  go_enter Tryz.func18, Tryz.ntmps18
  go_wp2_with fail
  refine (Check_calls _ _ _ _ _ _).mono ?_
  rintro e w1 ⟨rfl, hb1⟩
  rw [Hn.out]
  have hx1 : Blk w1 w.heap.size 23 #[.int .i64 x.p.a, .int .i64 x.p.b, .int .i64 x.p.c, .int .i64 x.p.d, .int .i64 x.k] := Blk.below (Blk.alloc (Blk.new w _ _) _) hb1 (by simp <;> omega)
  have hr1 : Blk w1 (w.heap.size + 1) 23 #[.int .i64 0, .int .i64 0, .int .i64 0, .int .i64 0, .int .i64 0] := Blk.below (Blk.at_ (w.alloc _) _ _ (by simp)) hb1 (by simp)
  have hbw1 : Below w.heap.size w w1 := bt hb1 (below2 _ _ _) (by simp <;> omega)
  clear hb1
  have hz1 := hr1.lt
  by_cases h0 : n = 0
  · obtain ⟨hle, hk0, hk1⟩ := Nm.chk_ok (Hn2.out.trans h0)
    have Hs : Hid (sLeast x = okN (Pt.red x.k.toNat x.p)) := by show _ = _; unfold sLeast; rw [if_pos (Hn2.out.trans h0)]
    obtain ⟨x0, x1, x2, x3, x4, xf⟩ := hx1.cells5
    obtain ⟨k, hk⟩ : ∃ k : Nat, x.k = k := ⟨x.k.toNat, by omega⟩
    rw [hk] at x4
    subst h0
    clear Hn
    go_wp2_with fail
    refine (work_calls _ _ _ _ _ _).mono ?_
    rintro e w2 ⟨rfl, hb2⟩
    have hr2 := hr1.below hb2 hr1.lt
    have hbw2 : Below w.heap.size w w2 := bt hb2 hbw1 hbw1.size
    clear x0 x1 x2 x3 x4 xf hb2
    go_wp2_with fail
    refine (least_nm x.p k _ (Pt.sm_mono (Pt.le_sm hle) (by omega)) (by omega) _).mono ?_
    rintro e w3 ⟨y, er, rfl, hy, hb3⟩
    have hr3 := hr2.below hb3 hr2.lt
    have hbw3 : Below w.heap.size w w3 := bt hb3 hbw2 hbw2.size
    have Hy := Lib.hid hy
    clear hy hb3 hr1 hr2 hbw1 hbw2 hx1
    obtain ⟨r0, r1, r2, r3, r4, rf⟩ := hr3.cells5
    go_wp2_with fail
    refine bodyPost_ret (v := .tuple #[.agg #[.int .i64 y.p.a, .int .i64 y.p.b, .int .i64 y.p.c, .int .i64 y.p.d, .int .i64 y.k], .int .i64 er]) (by simp [results, Tryz.results18, go_sem, r0, r1, r2, r3, r4]) rfl ⟨y, er, rfl, ?_, ?_⟩
    · rw [Hs.out, ← Hy.out, hk]; rfl
    · exact below_put5 hbw3 (by omega) _ _ _ _ _
  · have Hs : Hid (sLeast x = (Nm.zero, n)) := by show _ = _; unfold sLeast; rw [Hn2.out, if_neg h0]
    have h0b : (n != 0) = true := by simpa using h0
    obtain ⟨r0, r1, r2, r3, r4, rf⟩ := hr1.cells5
    clear h0 Hn Hn2
    go_wp2_with fail
    refine bodyPost_ret (v := .tuple #[.agg #[.int .i64 0, .int .i64 0, .int .i64 0, .int .i64 0, .int .i64 0], .int .i64 n]) (by simp [results, Tryz.results18, go_sem, r0, r1, r2, r3, r4]) rfl ⟨Nm.zero, n, rfl, Hs.out, ?_⟩
    exact below_put5 hbw1 (by omega) _ _ _ _ _
end Go.Proofs.YtepdnjjfhbjcjaaGreatDoor
end
section
namespace Go.Proofs.YtepdnjjfhbjcjaaGreatDoor
open Go.RowKit
set_option maxRecDepth 100000 in
set_option maxHeartbeats 4000000 in
theorem mul_calls (p : Pt) (k : Nat) (f : FuncId) (y : Nm) (hp : p.le 1073741824) (hq : y.p.le 1073741824) (hk : k ≤ 1000) (h0 : 0 ≤ y.k) (h1 : y.k ≤ 1000) (w : World) :
    Calls Tryz.prog 46 #[.agg #[.int .i64 p.a, .int .i64 p.b, .int .i64 p.c, .int .i64 p.d, .int .i64 k, .func (.func f) #[] #[]], .agg #[.int .i64 y.p.a, .int .i64 y.p.b, .int .i64 y.p.c, .int .i64 y.p.d, .int .i64 y.k]] w fun e w' =>
      e = .returned (.agg #[.int .i64 (p.mul y.p).a, .int .i64 (p.mul y.p).b, .int .i64 (p.mul y.p).c, .int .i64 (p.mul y.p).d, .int .i64 (k + y.k), .func (.func 70) #[] #[]]) ∧ Below w.heap.size w w' := by
  have HT := Lib.hid (fun W => times_calls p y.p 1073741824 1073741824 hp hq (by omega) W)
  have HW := Lib.hid (IntWalk.i64_in ((k : Int) + y.k) (by omega))
  clear hp hq
  go_enter Tryz.func46, Tryz.ntmps46
  go_upto_region 1 with fail
  have hx1 := Blk.drew (Blk.alloc (Blk.alloc (Blk.new w 55 #[.int .i64 p.a, .int .i64 p.b, .int .i64 p.c, .int .i64 p.d, .int .i64 k, .func (.func f) #[] #[]]) (.cells #[.int .i64 y.p.a, .int .i64 y.p.b, .int .i64 y.p.c, .int .i64 y.p.d, .int .i64 y.k] 23)) (.cells #[.int .i64 0, .int .i64 0, .int .i64 0, .int .i64 0, .int .i64 0, .nilFunc] 55))
  have hy1 := Blk.drew (Blk.alloc (Blk.at_ (w.alloc (.cells #[.int .i64 p.a, .int .i64 p.b, .int .i64 p.c, .int .i64 p.d, .int .i64 k, .func (.func f) #[] #[]] 55)) 23 #[.int .i64 y.p.a, .int .i64 y.p.b, .int .i64 y.p.c, .int .i64 y.p.d, .int .i64 y.k] (n := w.heap.size + 1) (by simp)) (.cells #[.int .i64 0, .int .i64 0, .int .i64 0, .int .i64 0, .int .i64 0, .nilFunc] 55))
  have hr1 := Blk.drew (Blk.at_ ((w.alloc (.cells #[.int .i64 p.a, .int .i64 p.b, .int .i64 p.c, .int .i64 p.d, .int .i64 k, .func (.func f) #[] #[]] 55)).alloc (.cells #[.int .i64 y.p.a, .int .i64 y.p.b, .int .i64 y.p.c, .int .i64 y.p.d, .int .i64 y.k] 23)) 55 #[.int .i64 0, .int .i64 0, .int .i64 0, .int .i64 0, .int .i64 0, .nilFunc] (n := w.heap.size + 2) (by simp))
  have hbw1 := (below3 w (.cells #[.int .i64 p.a, .int .i64 p.b, .int .i64 p.c, .int .i64 p.d, .int .i64 k, .func (.func f) #[] #[]] 55) (.cells #[.int .i64 y.p.a, .int .i64 y.p.b, .int .i64 y.p.c, .int .i64 y.p.d, .int .i64 y.k] 23) (.cells #[.int .i64 0, .int .i64 0, .int .i64 0, .int .i64 0, .int .i64 0, .nilFunc] 55)).drew
  obtain ⟨r0, r1, r2, r3, r4, r5, rf⟩ := hr1.cells6
  go_region_held3 (fun w' => w'.cell? ⟨w.heap.size, 0, none⟩ = some (.int .i64 p.a) ∧ w'.cell? ⟨w.heap.size, 1, none⟩ = some (.int .i64 p.b) ∧ w'.cell? ⟨w.heap.size, 2, none⟩ = some (.int .i64 p.c) ∧ w'.cell? ⟨w.heap.size, 3, none⟩ = some (.int .i64 p.d) ∧ w'.cell? ⟨w.heap.size, 4, none⟩ = some (.int .i64 k) ∧ w'.cell? ⟨w.heap.size, 5, none⟩ = some (.func (.func f) #[] #[]) ∧ w'.cell? ⟨w.heap.size + 1, 0, none⟩ = some (.int .i64 y.p.a) ∧ w'.cell? ⟨w.heap.size + 1, 1, none⟩ = some (.int .i64 y.p.b) ∧ w'.cell? ⟨w.heap.size + 1, 2, none⟩ = some (.int .i64 y.p.c) ∧ w'.cell? ⟨w.heap.size + 1, 3, none⟩ = some (.int .i64 y.p.d) ∧ w'.cell? ⟨w.heap.size + 1, 4, none⟩ = some (.int .i64 y.k)) ((with_reducible refine six_five (t := 55) (t' := 23) ?_ ?_) <;> (repeat (with_reducible refine Blk.far ?_ (by simp <;> omega) _)) <;> (first | (with_reducible exact hx1) | (with_reducible exact hy1)))
    (first
      | (go_at_call 48; (with_reducible refine (parts_calls _ _ _ _ _ _ _).mono ?_); rintro e w1 ⟨rfl, hb1⟩; clear r0 r1 r2 r3 r4 r5 rf; have hx1 := hx1.below hb1 hx1.lt; have hy1 := hy1.below hb1 hy1.lt; have hr1 := hr1.below hb1 hr1.lt; have hbw1 := bt hb1 hbw1 hbw1.size; clear hb1; have hz1 := hr1.lt; obtain ⟨r0, r1, r2, r3, r4, r5, rf⟩ := hr1.cells6; have hz0 : w.heap.size < w1.heap.size := (by omega))
      | (go_at_call 33; (with_reducible refine (work_calls _ _ _ _ _ _).mono ?_); rintro e w1 ⟨rfl, hb1⟩; clear r0 r1 r2 r3 r4 r5 rf; have hx1 := hx1.below hb1 hx1.lt; have hy1 := hy1.below hb1 hy1.lt; have hr1 := hr1.below hb1 hr1.lt; have hbw1 := bt hb1 hbw1 hbw1.size; clear hb1; have hz1 := hr1.lt; obtain ⟨r0, r1, r2, r3, r4, r5, rf⟩ := hr1.cells6; have hz0 : w.heap.size < w1.heap.size := (by omega))
      | (go_at_call 56; (with_reducible refine (HT.out _).mono ?_); rintro e w1 ⟨rfl, hb1⟩; clear r0 r1 r2 r3 r4 r5 rf; have hx1 := hx1.below hb1 hx1.lt; have hy1 := hy1.below hb1 hy1.lt; have hr1 := hr1.below hb1 hr1.lt; have hbw1 := bt hb1 hbw1 hbw1.size; clear hb1; have hz1 := hr1.lt; obtain ⟨r0, r1, r2, r3, r4, r5, rf⟩ := hr1.cells6; have hz0 : w.heap.size < w1.heap.size := (by omega))
      | (go_at_call 47; (with_reducible refine (of_calls _ _ _ _ _ _).mono ?_); rintro e w1 ⟨rfl, hb1⟩; clear r0 r1 r2 r3 r4 r5 rf; have hx1 := hx1.below hb1 hx1.lt; have hy1 := hy1.below hb1 hy1.lt; have hr1 := hr1.below hb1 hr1.lt; have hbw1 := bt hb1 hbw1 hbw1.size; clear hb1; have hz1 := hr1.lt; obtain ⟨r0, r1, r2, r3, r4, r5, rf⟩ := hr1.cells6; have hz0 : w.heap.size < w1.heap.size := (by omega)))
  go_wp2_with fail
  refine bodyPost_ret (v := .agg #[.int .i64 (p.mul y.p).a, .int .i64 (p.mul y.p).b, .int .i64 (p.mul y.p).c, .int .i64 (p.mul y.p).d, .int .i64 (k + y.k), .func (.func 70) #[] #[]]) (by simp [results, Tryz.results46, go_sem, r0, r1, r2, r3, r4, r5, HW.out]) rfl ⟨rfl, ?_⟩
  exact (below_put5 hbw1 (by omega) _ _ _ _ _).setCell (by simp; omega) _
theorem rowAt_two {w : World} {b : Nat} {t : TypeId} {x z : Nm} (h : Blk w b t #[.int .i64 x.p.a, .int .i64 x.p.b, .int .i64 x.p.c, .int .i64 x.p.d, .int .i64 x.k, .int .i64 z.p.a, .int .i64 z.p.b, .int .i64 z.p.c, .int .i64 z.p.d, .int .i64 z.k]) : rowAt w b [x, z] := by
  intro j y hj
  match j, hj with
  | 0, hj => obtain rfl : x = y := by simpa using hj
             exact ⟨h.cell 0, h.cell 1, h.cell 2, h.cell 3, h.cell 4⟩
  | 1, hj => obtain rfl : z = y := by simpa using hj
             exact ⟨h.cell 5, h.cell 6, h.cell 7, h.cell 8, h.cell 9⟩
set_option maxRecDepth 100000 in
set_option maxHeartbeats 4000000 in
theorem Mul_calls (x z : Nm) (w : World) :
    Calls Tryz.prog 19 #[.agg #[.int .i64 x.p.a, .int .i64 x.p.b, .int .i64 x.p.c, .int .i64 x.p.d, .int .i64 x.k], .agg #[.int .i64 z.p.a, .int .i64 z.p.b, .int .i64 z.p.c, .int .i64 z.p.d, .int .i64 z.k]] w fun e w' => ∃ (y : Nm) (er : Int), e = .returned (.tuple #[.agg #[.int .i64 y.p.a, .int .i64 y.p.b, .int .i64 y.p.c, .int .i64 y.p.d, .int .i64 y.k], .int .i64 er]) ∧ sMul x z = (y, er) ∧ Below w.heap.size w w' := by
  obtain ⟨n, hn⟩ : ∃ n : Int, chks [x, z] = n := ⟨_, rfl⟩
  have Hn := Lib.hid hn
  clear hn
  go_enter Tryz.func19, Tryz.ntmps19
  go_wp2_with fail
  refine (checks_calls [x, z] _ _ (by simp) _ (by simp) (rowAt_two (Blk.at_ (((w.alloc _).alloc _).alloc _) _ _ (by simp)))).mono ?_
  rintro e w1 ⟨rfl, hb1⟩
  rw [Hn.out]
  have hx1 : Blk w1 w.heap.size 23 #[.int .i64 x.p.a, .int .i64 x.p.b, .int .i64 x.p.c, .int .i64 x.p.d, .int .i64 x.k] := Blk.below (Blk.alloc (Blk.alloc (Blk.alloc (Blk.new w _ _) _) _) _) hb1 (by simp <;> omega)
  have hy1 : Blk w1 (w.heap.size + 1) 23 #[.int .i64 z.p.a, .int .i64 z.p.b, .int .i64 z.p.c, .int .i64 z.p.d, .int .i64 z.k] := Blk.below (Blk.alloc (Blk.alloc (Blk.at_ (w.alloc _) _ _ (by simp)) _) _) hb1 (by simp <;> omega)
  have hr1 : Blk w1 (w.heap.size + 2) 23 #[.int .i64 0, .int .i64 0, .int .i64 0, .int .i64 0, .int .i64 0] := Blk.below (Blk.alloc (Blk.at_ ((w.alloc _).alloc _) _ _ (by simp)) _) hb1 (by simp <;> omega)
  have hbw1 : Below w.heap.size w w1 := bt hb1 ((below3 _ _ _ _).alloc (by simp <;> omega) _) (by simp <;> omega)
  clear hb1
  have hz1 := hr1.lt
  have hz0 : w.heap.size < w1.heap.size := by omega
  by_cases h0 : n = 0
  · obtain ⟨hcx, hcz⟩ := chks_two (Hn.out.trans h0)
    obtain ⟨hlx, hkx0, hkx1⟩ := Nm.chk_ok hcx
    obtain ⟨hlz, hkz0, hkz1⟩ := Nm.chk_ok hcz
    clear hcx hcz
    have Hs : Hid (sMul x z = okN (Pt.red (x.k.toNat + z.k.toNat) (x.p.mul z.p))) := by show _ = _; unfold sMul; rw [if_pos (Hn.out.trans h0)]
    obtain ⟨k, hk⟩ : ∃ k : Nat, x.k = k := ⟨x.k.toNat, by omega⟩
    obtain ⟨l, hl⟩ : ∃ l : Nat, z.k = l := ⟨z.k.toNat, by omega⟩
    have HM := Lib.hid (fun W => mul_calls x.p k 70 z hlx hlz (by omega) (by omega) (by omega) W)
    have hkl : (k : Int) + z.k = ((k + l : Nat) : Int) := by omega
    have HL := Lib.hid (fun W => least_nm (x.p.mul z.p) (k + l) 70 (Pt.sm_mul hlx hlz) (by omega) W)
    rw [← hkl, ← hk] at HL
    rw [← hk] at HM
    have Hk : Hid (x.k = k ∧ z.k = l) := ⟨hk, hl⟩
    subst h0
    clear hk hl hkl
    go_upto_region 4 with fail
    have hx1 := hx1.drew
    have hy1 := hy1.drew
    have hr1 := hr1.drew
    have hbw1 := hbw1.drew
    obtain ⟨r0, r1, r2, r3, r4, rf⟩ := hr1.cells5
    go_region_held3 (fun w' => w'.cell? ⟨w.heap.size, 0, none⟩ = some (.int .i64 x.p.a) ∧ w'.cell? ⟨w.heap.size, 1, none⟩ = some (.int .i64 x.p.b) ∧ w'.cell? ⟨w.heap.size, 2, none⟩ = some (.int .i64 x.p.c) ∧ w'.cell? ⟨w.heap.size, 3, none⟩ = some (.int .i64 x.p.d) ∧ w'.cell? ⟨w.heap.size, 4, none⟩ = some (.int .i64 x.k) ∧ w'.cell? ⟨w.heap.size + 1, 0, none⟩ = some (.int .i64 z.p.a) ∧ w'.cell? ⟨w.heap.size + 1, 1, none⟩ = some (.int .i64 z.p.b) ∧ w'.cell? ⟨w.heap.size + 1, 2, none⟩ = some (.int .i64 z.p.c) ∧ w'.cell? ⟨w.heap.size + 1, 3, none⟩ = some (.int .i64 z.p.d) ∧ w'.cell? ⟨w.heap.size + 1, 4, none⟩ = some (.int .i64 z.k)) ((with_reducible refine five_five (t := 23) (t' := 23) ?_ ?_) <;> (repeat (with_reducible refine Blk.far ?_ (by simp <;> omega) _)) <;> (first | (with_reducible exact hx1) | (with_reducible exact hy1)))
      (first
        | (go_at_call 33; (with_reducible refine (work_calls _ _ _ _ _ _).mono ?_); rintro e w1 ⟨rfl, hb1⟩; clear r0 r1 r2 r3 r4 rf; have hx1 := hx1.below hb1 hx1.lt; have hy1 := hy1.below hb1 hy1.lt; have hr1 := hr1.below hb1 hr1.lt; have hbw1 := bt hb1 hbw1 hbw1.size; clear hb1; have hz1 := hr1.lt; obtain ⟨r0, r1, r2, r3, r4, rf⟩ := hr1.cells5; have hz0 : w.heap.size < w1.heap.size := (by omega))
        | (go_at_call 46; (with_reducible refine (HM.out _).mono ?_); rintro e w1 ⟨rfl, hb1⟩; clear r0 r1 r2 r3 r4 rf; have hx1 := hx1.below hb1 hx1.lt; have hy1 := hy1.below hb1 hy1.lt; have hr1 := hr1.below hb1 hr1.lt; have hbw1 := bt hb1 hbw1 hbw1.size; clear hb1; have hz1 := hr1.lt; obtain ⟨r0, r1, r2, r3, r4, rf⟩ := hr1.cells5; have hz0 : w.heap.size < w1.heap.size := (by omega))
        | (go_at_call 45; (with_reducible refine (HL.out _).mono ?_); rintro e w1 ⟨y, er, rfl, hy, hb1⟩; clear r0 r1 r2 r3 r4 rf; have Hy := Lib.hid hy; clear hy; have hx1 := hx1.below hb1 hx1.lt; have hy1 := hy1.below hb1 hy1.lt; have hr1 := hr1.below hb1 hr1.lt; have hbw1 := bt hb1 hbw1 hbw1.size; clear hb1; have hz1 := hr1.lt; obtain ⟨r0, r1, r2, r3, r4, rf⟩ := hr1.cells5; have hz0 : w.heap.size < w1.heap.size := (by omega)))
    go_wp2_with fail
    refine bodyPost_ret (v := .tuple #[.agg #[.int .i64 y.p.a, .int .i64 y.p.b, .int .i64 y.p.c, .int .i64 y.p.d, .int .i64 y.k], .int .i64 er]) (by simp [results, Tryz.results19, go_sem, r0, r1, r2, r3, r4]) rfl ⟨y, er, rfl, ?_, ?_⟩
    · rw [Hs.out, ← Hy.out, Hk.out.1, Hk.out.2]; rfl
    · exact below_put5 hbw1 (by omega) _ _ _ _ _
  · have Hs : Hid (sMul x z = (Nm.zero, n)) := by show _ = _; unfold sMul; rw [Hn.out, if_neg h0]
    have h0b : (n != 0) = true := by simpa using h0
    obtain ⟨r0, r1, r2, r3, r4, rf⟩ := hr1.cells5
    clear h0 Hn
    go_wp2_with fail
    refine bodyPost_ret (v := .tuple #[.agg #[.int .i64 0, .int .i64 0, .int .i64 0, .int .i64 0, .int .i64 0], .int .i64 n]) (by simp [results, Tryz.results19, go_sem, r0, r1, r2, r3, r4]) rfl ⟨Nm.zero, n, rfl, Hs.out, ?_⟩
    exact below_put5 hbw1 (by omega) _ _ _ _ _
set_option maxRecDepth 100000 in
set_option maxHeartbeats 4000000 in
theorem Conj_calls (x : Nm) (w : World) :
    Calls Tryz.prog 51 #[.agg #[.int .i64 x.p.a, .int .i64 x.p.b, .int .i64 x.p.c, .int .i64 x.p.d, .int .i64 x.k]] w fun e w' => ∃ (y : Nm) (er : Int), e = .returned (.tuple #[.agg #[.int .i64 y.p.a, .int .i64 y.p.b, .int .i64 y.p.c, .int .i64 y.p.d, .int .i64 y.k], .int .i64 er]) ∧ sConj x = (y, er) ∧ Below w.heap.size w w' := by
  obtain ⟨n, hn⟩ : ∃ n : Int, x.chk = n := ⟨_, rfl⟩
  have Hn : Hid (Go.Proofs.YtepdnjjfhbjcjaaGreatDoor.chk x.p.a x.p.b x.p.c x.p.d x.k = n) := hn
  have Hn2 : Hid (x.chk = n) := hn
  clear hn
  go_enter Tryz.func51, Tryz.ntmps51
  go_wp2_with fail
  refine (Check_calls _ _ _ _ _ _).mono ?_
  rintro e w1 ⟨rfl, hb1⟩
  rw [Hn.out]
  have hx1 : Blk w1 w.heap.size 23 #[.int .i64 x.p.a, .int .i64 x.p.b, .int .i64 x.p.c, .int .i64 x.p.d, .int .i64 x.k] := Blk.below (Blk.alloc (Blk.new w _ _) _) hb1 (by simp <;> omega)
  have hr1 : Blk w1 (w.heap.size + 1) 23 #[.int .i64 0, .int .i64 0, .int .i64 0, .int .i64 0, .int .i64 0] := Blk.below (Blk.at_ (w.alloc _) _ _ (by simp)) hb1 (by simp)
  have hbw1 : Below w.heap.size w w1 := bt hb1 (below2 _ _ _) (by simp <;> omega)
  clear hb1
  have hz1 := hr1.lt
  have hz0 : w.heap.size < w1.heap.size := by omega
  by_cases h0 : n = 0
  · obtain ⟨hle, hk0, hk1⟩ := Nm.chk_ok (Hn2.out.trans h0)
    obtain ⟨k, hk⟩ : ∃ k : Nat, x.k = k := ⟨x.k.toNat, by omega⟩
    have Hs : Hid (sConj x = okN (Pt.red k x.p.conj)) := by show _ = _; unfold sConj; rw [if_pos (Hn2.out.trans h0), hk]; rfl
    obtain ⟨⟨p1, p2⟩, ⟨p3, p4⟩, ⟨p5, p6⟩, ⟨p7, p8⟩⟩ := hle
    have HC := Lib.hid (fun W => conj_calls x.p.a x.p.b x.p.c x.p.d (by omega) (by omega) (by omega) W)
    have HL := Lib.hid (fun W => least_nm ⟨x.p.a, -x.p.d, -x.p.c, -x.p.b⟩ k 70 (by simp only [Pt.sm]; omega) (by omega) W)
    rw [← hk] at HL
    dsimp only at HL
    subst h0
    clear hk Hn Hn2
    go_upto_region 4 with fail
    have hx1 := hx1.drew
    have hr1 := hr1.drew
    have hbw1 := hbw1.drew
    obtain ⟨r0, r1, r2, r3, r4, rf⟩ := hr1.cells5
    go_region_held3 (fun w' => w'.cell? ⟨w.heap.size, 0, none⟩ = some (.int .i64 x.p.a) ∧ w'.cell? ⟨w.heap.size, 1, none⟩ = some (.int .i64 x.p.b) ∧ w'.cell? ⟨w.heap.size, 2, none⟩ = some (.int .i64 x.p.c) ∧ w'.cell? ⟨w.heap.size, 3, none⟩ = some (.int .i64 x.p.d) ∧ w'.cell? ⟨w.heap.size, 4, none⟩ = some (.int .i64 x.k)) ((with_reducible refine Blk.five (t := 23) ?_) <;> (repeat (first | (with_reducible refine Blk.far ?_ (by simp <;> omega) _) | (with_reducible refine Blk.alloc ?_ _))) <;> (with_reducible exact hx1))
      (first
        | (go_at_call 33; (with_reducible refine (work_calls _ _ _ _ _ _).mono ?_); rintro e w1 ⟨rfl, hb1⟩; clear r0 r1 r2 r3 r4 rf; have hx1 := hx1.below hb1 hx1.lt; have hr1 := hr1.below hb1 hr1.lt; have hbw1 := bt hb1 hbw1 hbw1.size; clear hb1; have hz1 := hr1.lt; obtain ⟨r0, r1, r2, r3, r4, rf⟩ := hr1.cells5; have hz0 : w.heap.size < w1.heap.size := (by omega))
        | (go_at_call 48; (with_reducible refine (parts_calls _ _ _ _ _ _ _).mono ?_); rintro e w1 ⟨rfl, hb1⟩; clear r0 r1 r2 r3 r4 rf; have hx1 := hx1.below hb1 hx1.lt; have hr1 := hr1.below hb1 hr1.lt; have hbw1 := bt hb1 hbw1 hbw1.size; clear hb1; have hz1 := hr1.lt; obtain ⟨r0, r1, r2, r3, r4, rf⟩ := hr1.cells5; have hz0 : w.heap.size < w1.heap.size := (by omega))
        | (go_at_call 57; (with_reducible refine (HC.out _).mono ?_); rintro e w1 ⟨rfl, hb1⟩; clear r0 r1 r2 r3 r4 rf; have hx1 := hx1.below hb1 hx1.lt; have hr1 := hr1.below hb1 hr1.lt; have hbw1 := bt hb1 hbw1 hbw1.size; clear hb1; have hz1 := hr1.lt; obtain ⟨r0, r1, r2, r3, r4, rf⟩ := hr1.cells5; have hz0 : w.heap.size < w1.heap.size := (by omega))
        | (go_at_call 47; (with_reducible refine (of_calls _ _ _ _ _ _).mono ?_); rintro e w1 ⟨rfl, hb1⟩; clear r0 r1 r2 r3 r4 rf; have hx1 := hx1.below hb1 hx1.lt; have hr1 := hr1.below hb1 hr1.lt; have hbw1 := bt hb1 hbw1 hbw1.size; clear hb1; have hz1 := hr1.lt; obtain ⟨r0, r1, r2, r3, r4, rf⟩ := hr1.cells5; have hz0 : w.heap.size < w1.heap.size := (by omega))
        | (go_at_call 45; (with_reducible refine (HL.out _).mono ?_); rintro e w1 ⟨y, er, rfl, hy, hb1⟩; clear r0 r1 r2 r3 r4 rf; have Hy := Lib.hid hy; clear hy; have hx1 := hx1.below hb1 hx1.lt; have hr1 := hr1.below hb1 hr1.lt; have hbw1 := bt hb1 hbw1 hbw1.size; clear hb1; have hz1 := hr1.lt; obtain ⟨r0, r1, r2, r3, r4, rf⟩ := hr1.cells5; have hz0 : w.heap.size < w1.heap.size := (by omega)))
    go_wp2_with fail
    refine bodyPost_ret (v := .tuple #[.agg #[.int .i64 y.p.a, .int .i64 y.p.b, .int .i64 y.p.c, .int .i64 y.p.d, .int .i64 y.k], .int .i64 er]) (by simp [results, Tryz.results51, go_sem, r0, r1, r2, r3, r4]) rfl ⟨y, er, rfl, ?_, ?_⟩
    · exact Hs.out.trans Hy.out
    · exact below_put5 hbw1 (by omega) _ _ _ _ _
  · have Hs : Hid (sConj x = (Nm.zero, n)) := by show _ = _; unfold sConj; rw [Hn2.out, if_neg h0]
    have h0b : (n != 0) = true := by simpa using h0
    obtain ⟨r0, r1, r2, r3, r4, rf⟩ := hr1.cells5
    clear h0 Hn Hn2
    go_wp2_with fail
    refine bodyPost_ret (v := .tuple #[.agg #[.int .i64 0, .int .i64 0, .int .i64 0, .int .i64 0, .int .i64 0], .int .i64 n]) (by simp [results, Tryz.results51, go_sem, r0, r1, r2, r3, r4]) rfl ⟨Nm.zero, n, rfl, Hs.out, ?_⟩
    exact below_put5 hbw1 (by omega) _ _ _ _ _
def realB (p : Pt) : Bool := p.b == -p.d && (p.c == -p.c && p.d == -p.b)
set_option maxRecDepth 100000 in
set_option maxHeartbeats 2000000 in
theorem Norm_calls (x : Nm) (w : World) :
    Calls Tryz.prog 21 #[.agg #[.int .i64 x.p.a, .int .i64 x.p.b, .int .i64 x.p.c, .int .i64 x.p.d, .int .i64 x.k]] w fun e w' => ∃ (y : Nm) (er : Int), e = .returned (.tuple #[.agg #[.int .i64 y.p.a, .int .i64 y.p.b, .int .i64 y.p.c, .int .i64 y.p.d, .int .i64 y.k], .int .i64 er]) ∧ sNorm x = (y, er) ∧ Below w.heap.size w w' := by
  go_enter Tryz.func21, Tryz.ntmps21
  go_wp2_with fail
  refine (Conj_calls x _).mono ?_
  rintro e w1 ⟨c, n, rfl, hc, hb1⟩
  have Hc := Lib.hid hc
  have hx1 : Blk w1 w.heap.size 23 #[.int .i64 x.p.a, .int .i64 x.p.b, .int .i64 x.p.c, .int .i64 x.p.d, .int .i64 x.k] := Blk.below (Blk.alloc (Blk.new w _ _) _) hb1 (by simp <;> omega)
  have hr1 : Blk w1 (w.heap.size + 1) 23 #[.int .i64 0, .int .i64 0, .int .i64 0, .int .i64 0, .int .i64 0] := Blk.below (Blk.at_ (w.alloc _) _ _ (by simp)) hb1 (by simp)
  have hbw1 : Below w.heap.size w w1 := bt hb1 (below2 _ _ _) (by simp <;> omega)
  clear hb1 hc
  have hz1 := hr1.lt
  have hz0 : w.heap.size < w1.heap.size := by omega
  obtain ⟨x0, x1, x2, x3, x4, xf⟩ := hx1.cells5
  obtain ⟨r0, r1, r2, r3, r4, rf⟩ := hr1.cells5
  by_cases h0 : n = 0
  · subst h0
    go_wp2_with fail
    refine (Mul_calls x c _).mono ?_
    rintro e w2 ⟨y, er, rfl, hy, hb2⟩
    have Hy := Lib.hid hy
    have hr2 : Blk w2 (w.heap.size + 1) 23 #[.int .i64 0, .int .i64 0, .int .i64 0, .int .i64 0, .int .i64 0] := (hr1.alloc _).below hb2 (by simp; omega)
    have hbw2 : Below w.heap.size w w2 := bt hb2 (hbw1.alloc (by omega) _) (by simp; omega)
    clear hb2 hy hr1 hx1 x0 x1 x2 x3 x4 xf r0 r1 r2 r3 r4 rf
    have hz2 := hr2.lt
    obtain ⟨r0, r1, r2, r3, r4, rf⟩ := hr2.cells5
    go_wp2_with fail
    refine bodyPost_ret (v := .tuple #[.agg #[.int .i64 y.p.a, .int .i64 y.p.b, .int .i64 y.p.c, .int .i64 y.p.d, .int .i64 y.k], .int .i64 er]) (by simp [results, Tryz.results21, go_sem, r0, r1, r2, r3, r4]) rfl ⟨y, er, rfl, ?_, ?_⟩
    · unfold sNorm; rw [Hc.out, if_pos rfl]; exact Hy.out
    · exact below_put5 hbw2 (by omega) _ _ _ _ _
  · have h0b : (n != 0) = true := by simpa using h0
    have Hs : Hid (sNorm x = (Nm.zero, n)) := by show _ = _; unfold sNorm; rw [Hc.out, if_neg h0]
    clear h0
    go_wp2_with fail
    refine bodyPost_ret (v := .tuple #[.agg #[.int .i64 0, .int .i64 0, .int .i64 0, .int .i64 0, .int .i64 0], .int .i64 n]) (by simp [results, Tryz.results21, go_sem, r0, r1, r2, r3, r4, hz1]) rfl ⟨Nm.zero, n, rfl, Hs.out, ?_⟩
    exact (below_put5 hbw1 (by omega) _ _ _ _ _).alloc (by simp [World.setCell]; omega) _
def eqNm (a b : Nm) : Bool := a.p.a == b.p.a && (a.p.b == b.p.b && (a.p.c == b.p.c && (a.p.d == b.p.d && a.k == b.k)))
attribute [local go_sem high] eqNum
end Go.Proofs.YtepdnjjfhbjcjaaGreatDoor
end
section
namespace Go.Proofs.YtepdnjjfhbjcjaaGreatDoor
open Go.RowKit
def negB (a b : Int) : Bool := decide ((a < 0 ∧ b ≤ 0) ∨ (a ≤ 0 ∧ b < 0) ∨ (0 < a ∧ b < 0 ∧ a * a ≤ 2 * b * b) ∨ (a < 0 ∧ 0 < b ∧ 2 * b * b ≤ a * a))
set_option maxHeartbeats 2000000 in
theorem sign_calls (a b : Int) (ha : -1073741824 ≤ a ∧ a ≤ 1073741824) (hb : -1073741824 ≤ b ∧ b ≤ 1073741824) (w : World) :
    Calls Tryz.prog 54 #[.int .i64 a, .int .i64 b] w fun e w' => ∃ s : Int, e = .returned (.int .i64 s) ∧ decide (s < 0) = negB a b ∧ w = w' := by
  have hp := Pt.mul_bd ha ha
  have hq : -2305843009213693952 ≤ 2 * b * b ∧ 2 * b * b ≤ 2305843009213693952 := by
    have := Pt.mul_bd (x := 2 * b) (P := 2147483648) ⟨by omega, by omega⟩ hb
    omega
  have hp' : -1152921504606846976 ≤ a * a ∧ a * a ≤ 1152921504606846976 := by omega
  clear hp
  by_cases h1 : 0 ≤ a
  · by_cases h2 : 0 ≤ b
    · have Hv : Hid (negB a b = false) := by show _ = _; unfold negB; simp; omega
      go_enter Tryz.func54, Tryz.ntmps54
      go_wp2
      all_goals go_ret
      all_goals exact ⟨_, rfl, by rw [Hv.out]; first | rfl | (simp; omega), rfl⟩
    · by_cases h3 : a = 0
      · subst h3
        have Hv : Hid (negB 0 b = true) := by show _ = _; unfold negB; simp; omega
        go_enter Tryz.func54, Tryz.ntmps54
        go_wp2
        all_goals go_ret
        all_goals exact ⟨_, rfl, by rw [Hv.out]; first | rfl | (simp; omega), rfl⟩
      · have h4 : 0 < a := by omega
        clear h3
        by_cases h5 : 2 * b * b < a * a
        · have Hv : Hid (negB a b = false) := by show _ = _; unfold negB; simp; omega
          go_enter Tryz.func54, Tryz.ntmps54
          go_wp2
          all_goals go_ret
          all_goals exact ⟨_, rfl, by rw [Hv.out]; first | rfl | (simp; omega), rfl⟩
        · have Hv : Hid (negB a b = true) := by show _ = _; unfold negB; simp; omega
          go_enter Tryz.func54, Tryz.ntmps54
          go_wp2
          all_goals go_ret
          all_goals exact ⟨_, rfl, by rw [Hv.out]; first | rfl | (simp; omega), rfl⟩
  · by_cases h2 : b ≤ 0
    · have Hv : Hid (negB a b = true) := by show _ = _; unfold negB; simp; omega
      go_enter Tryz.func54, Tryz.ntmps54
      go_wp2
      all_goals go_ret
      all_goals exact ⟨_, rfl, by rw [Hv.out]; first | rfl | (simp; omega), rfl⟩
    · by_cases h5 : a * a < 2 * b * b
      · have Hv : Hid (negB a b = false) := by show _ = _; unfold negB; simp; omega
        go_enter Tryz.func54, Tryz.ntmps54
        go_wp2
        all_goals go_ret
        all_goals exact ⟨_, rfl, by rw [Hv.out]; first | rfl | (simp; omega), rfl⟩
      · have Hv : Hid (negB a b = true) := by show _ = _; unfold negB; simp; omega
        go_enter Tryz.func54, Tryz.ntmps54
        go_wp2
        all_goals go_ret
        all_goals exact ⟨_, rfl, by rw [Hv.out]; first | rfl | (simp; omega), rfl⟩
end Go.Proofs.YtepdnjjfhbjcjaaGreatDoor
end
