import Derived.Lay
import Derived.Test.YtonnegkpjmhomaaGreatDoorDLaid13
import Derived.Test.YtonnegkpjmhomaaGreatDoorDLaid19
set_option linter.all false
section
namespace Go.Proofs.YtonnegkpjmhomaaGreatDoor
open Go.ChangeShapes Go.WideShapes Go.ChangeAt Go.RowKit
set_option linter.all false
set_option maxRecDepth 100000
abbrev LAID2 : List (String × DataW Unit) := [("math/bits.deBruijn32tab", Rows.laid_math_bits_deBruijn32tab), ("math/bits.deBruijn64tab", Rows.laid_math_bits_deBruijn64tab), ("internal/strconv.uint64pow10", Rows.laid_internal_strconv_uint64pow10), ("spoondrift/spoondriftkit.All", Rows.laid_spoondrift_spoondriftkit_All), ("strconv.ErrRange", Rows.laid_strconv_ErrRange), ("strconv.ErrSyntax", Rows.laid_strconv_ErrSyntax)]
theorem door_met2 (os : Os) (args : Array Value) : laidMetH Tryz.prog LAID2 ((World.doorLaid Tryz.prog 77 os).forCall (fun _ _ => 0) ⟨#[], args, []⟩).memory :=
  laidMetH_of_parts3 (fuel := 8) (laidMet_of_run' 8 (by kernel_rfl) (by kernel_rfl)) (by kernel_rfl) (by kernel_rfl)
theorem gAll2 : Tryz.prog.globalNamed "spoondrift/spoondriftkit.All" = some 0 := by kernel_rfl
theorem gAllType2 : (Tryz.prog.globals[0]?).map (·.type) = some 30 := by kernel_rfl
theorem all_of2 {W : World} {rest : List (String × DataW Unit)} (h : laidMet Tryz.prog (("spoondrift/spoondriftkit.All", Rows.laid_spoondrift_spoondriftkit_All) :: rest) W) :
    ∃ kb ko c, W.cell? ⟨0, 0, none⟩ = some (.slice (some ⟨kb, ko, none⟩) 12 c) ∧ IntsAt W W.heap.size (.slice (some ⟨kb, ko, none⟩) 12 c) allK := by
  obtain ⟨ps, ⟨g', t', cs, fuel, p, q, hg', ht', hvar, hd, _, _⟩, _⟩ := h
  obtain rfl := Option.some.inj (gAll2.symm.trans hg')
  obtain rfl := Option.some.inj (gAllType2.symm.trans ht')
  obtain ⟨a, cap, hcs, _, hel⟩ := open_row Tryz.underlying30 (by kernel_rfl) (ds := [.lit (.int .i64 1), .lit (.int .i64 2), .lit (.int .i64 3), .lit (.int .i64 4), .lit (.int .i64 5), .lit (.int .i64 6), .lit (.int .i64 7), .lit (.int .i64 8), .lit (.int .i64 9), .lit (.int .i64 10), .lit (.int .i64 11), .lit (.int .i64 12)]) hd
  obtain ⟨v, zs, hcs2, hI⟩ := ints_open hd
  rw [hcs] at hcs2
  injection hcs2 with hv _
  subst hv
  obtain ⟨A, c, e1, h1, h2, h3⟩ := hI.form
  injection e1 with e1 e2 e3
  have hzl : zs.length = 12 := e2.symm
  obtain ⟨kb, ko, hA, hkb, hc⟩ := h3 (by intro e; rw [e] at hzl; cases hzl)
  subst e1 e3
  injection hA with hA
  subst hA
  have hzs : zs = allK := by
    apply List.ext_getElem?
    intro i
    by_cases hi : i < 12
    · have hd : ∃ d, ([.lit (.int .i64 1), .lit (.int .i64 2), .lit (.int .i64 3), .lit (.int .i64 4), .lit (.int .i64 5), .lit (.int .i64 6), .lit (.int .i64 7), .lit (.int .i64 8), .lit (.int .i64 9), .lit (.int .i64 10), .lit (.int .i64 11), .lit (.int .i64 12)] : List (DataW Unit))[i]? = some (.lit (.int .i64 d)) ∧ allK[i]? = some d := by
        rcases (by omega : i = 0 ∨ i = 1 ∨ i = 2 ∨ i = 3 ∨ i = 4 ∨ i = 5 ∨ i = 6 ∨ i = 7 ∨ i = 8 ∨ i = 9 ∨ i = 10 ∨ i = 11) with rfl | rfl | rfl | rfl | rfl | rfl | rfl | rfl | rfl | rfl | rfl | rfl <;> exact ⟨_, rfl, rfl⟩
      obtain ⟨d, hd1, hd2⟩ := hd
      obtain ⟨v, n, q, hcell, hv⟩ := hel i _ hd1
      obtain ⟨m, hm1, hm2, _⟩ := int_list hv
      injection hm1 with hm1 _
      subst hm1
      have e4 : d = m := by injection hm2 with hm2 _; injection hm2 with hm2; injection hm2
      subst e4
      have hcj := hc i (by omega)
      rw [addr_add] at hcell
      rw [hcell] at hcj
      injection hcj with hcj
      injection hcj with _ hcj
      rw [hd2, List.getElem?_eq_getElem (by omega)]
      rw [List.getD_eq_getElem?_getD, List.getElem?_eq_getElem (by omega)] at hcj
      exact congrArg some hcj.symm
    · rw [List.getElem?_eq_none (by omega), List.getElem?_eq_none (by show 12 ≤ i; omega)]
  subst hzs
  exact ⟨kb, ko, cap, by have := World.var?_cell gAll2 hvar 0; rw [← Array.getElem?_toList, hcs] at this; simpa using this, hI⟩
theorem tabsA_of2 {W : World} (h : laidMetH Tryz.prog LAID2 W) (hs : W.ShapedOpen Tryz.prog) : TabsA W := by
  rw [MakeChecks.laidMetH_plain _ _ _ (by kernel_rfl)] at h
  have h3 := h.tail.tail
  have h4 := h.tail.tail.tail
  have h5 := h.tail.tail.tail.tail.tail
  rw [show (Rows.laid_internal_strconv_uint64pow10 : DataW Unit) = Lib.tabData .u64 Lib.pow10Tab from by kernel_rfl] at h3
  refine ⟨⟨Lib.tabIs_of_head gPow gPowType Tryz.underlying216 Tryz.underlying165 (by kernel_rfl) (by kernel_rfl) h3, ?_, ?_⟩, all_of2 h4⟩
  · exact Go.Proofs.cell_of_shapedOpen_int (zero := #[.int .i64 0]) (t := 3) hs (of_decide_eq_true (by kernel_rfl)) (by kernel_rfl) rfl (by kernel_rfl) (by kernel_rfl) Tryz.underlying3
  · obtain ⟨a, s, hv, _, _, _⟩ := laid_sentinel h5 gErr gErrType Tryz.underlying115 errRow Tryz.underlying233 Tryz.underlying235 rfl rfl Tryz.underlying9 cellsErr cellsStr
    exact ⟨_, by simpa using World.var?_cell gErr hv 0, .inr ⟨_, _, rfl⟩⟩
theorem open_u8s2 {H : Type} {enc : TypeId × Value → H} {W : World} {base b0 : Nat} {sp : Nat → Bool} {held : Bool} {r : Reach} {v : Value} {d : DataW H} {p : List MemPlace}
    (hval : Value.okWide Tryz.prog W r b0 22 v) (h : DataW.Trod enc Tryz.prog W base sp held 22 v d p) :
    ∃ (a : Option Addr) (n c : Nat), v = .slice a n c ∧ BytesAt W a n ∧ (a = none → n = 0) ∧ n ≤ c ∧ n ≤ maxLen := by
  obtain ⟨a1, len, cap, rfl⟩ := okWide_slice Tryz.underlying22 hval
  obtain ⟨fuel, hf⟩ := h
  refine ⟨a1, len, cap, rfl, ?_⟩
  rcases open_ints Tryz.underlying22 Tryz.underlying5 (by kernel_rfl) hf with ⟨hcs, _⟩ | ⟨x, l, c, zs, hcs, _, hl, hm, hz, _, hcell, hwz⟩
  · simp [Value.cells] at hcs
    obtain ⟨rfl, rfl, rfl⟩ := hcs
    exact ⟨.inl rfl, fun _ => rfl, Nat.le_refl _, Nat.zero_le _⟩
  · simp [Value.cells] at hcs
    obtain ⟨rfl, rfl, rfl⟩ := hcs
    refine ⟨?_, (fun e => nomatch e), hl, by omega⟩
    by_cases h0 : len = 0
    · exact .inl h0
    have hz2 : len ≤ zs.length := by split at hz <;> omega
    obtain ⟨ab, ao, spot⟩ := x
    have hspot : spot = none := by simpa [Addr.add] using World.cell?_spot (hcell 0 (by omega))
    subst hspot
    refine .inr ⟨ab, ao, rfl, fun j hj => ?_⟩
    have hcj := hcell j (by omega)
    rw [Addr.add_lit] at hcj
    have hb := range_u8 hwz j
    exact ⟨zs.getD j 0, hb.1, hb.2, hcj⟩
end Go.Proofs.YtonnegkpjmhomaaGreatDoor
end
