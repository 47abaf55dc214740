/- FnExactReadDecimal: for every text the program's ReadDecimal answers what the reference's does; the listed variables start as the program's text lays them. -/
import Derived.Test.YtmkcpkhhlbmgcaaDoorPureFnExactReadDecimal
import Derived.Test.YtmkcpkhhlbmgcaaDoorCards
import Derived.Test.YtmkcpkhhlbmgcaaDoorTie
import Derived.Test.YtmkcpkhhlbmgcaaDoorShelf
import Derived.WalkKit
import Derived.ProofKit
import Derived.OpenShut
import Derived.ShutString
import Derived.ChangeOld
import Derived.Below
import Derived.Deep.DeepHandedRow
import Derived.Lib.LaidTab
import Derived.LaidSub
import Derived.SevenTiedAt
import Derived.LaidLaws
namespace Go.Proofs.YtmkcpkhhlbmgcaaDoor.fnExactReadDecimal
open Go.ChangeShapes Go.WideShapes Go.ChangeAt Go.RowKit Go.Proofs.YtmkcpkhhlbmgcaaDoorW.PrintWords Go.Proofs.YtmkcpkhhlbmgcaaDoor.PFns Go.Proofs.YtmkcpkhhlbmgcaaDoor.Pure
set_option linter.unusedVariables false

theorem own : ownKnob Tryd.prog.godebug = none := by kernel_rfl
theorem laidOut : laidOutB Tryd.prog = true := by kernel_rfl
theorem g2 : Tryd.prog.globalNamed "internal/strconv.uint64pow10" = some 2 := by kernel_rfl
theorem t2 : (Tryd.prog.globals[2]?).map (·.type) = some 70 := by kernel_rfl
theorem c70 : Tryd.prog.cellsOf 70 = 20 := by kernel_rfl
theorem c52 : Tryd.prog.cellsOf 52 = 1 := by kernel_rfl
/-- The named variable's cells are not turned by what lies at or behind B. -/
theorem var_below {P : Program} {B g : Nat} {W W' : World} {n : String} {cs : Array Value} (h : Below B W W') (hg : P.globalNamed n = some g) (hgB : g < B) (hv : W.var? P n = some cs) : W'.var? P n = some cs := by
  unfold World.var? at hv ⊢
  simp only [hg, Option.bind_some] at hv ⊢
  rw [h.block g hgB]
  exact hv
theorem var_lt {P : Program} {g : Nat} {W : World} {n : String} {cs : Array Value} (hg : P.globalNamed n = some g) (hv : W.var? P n = some cs) : g < W.heap.size := by
  unfold World.var? at hv
  simp only [hg, Option.bind_some] at hv
  by_cases h : g < W.heap.size
  · exact h
  · rw [Array.getElem?_eq_none (by omega)] at hv
    cases hv
/-- New blocks and draws turn nothing that was there. -/
theorem below_more (w : World) (k : Nat) (os : Array Obj) : Below w.heap.size w (Go.Sort.grow (w.drewN k) os) := by
  refine ⟨rfl, ?_, rfl, ?_, fun i hi => ?_⟩
  · simp [Go.Sort.grow, World.drewN]
  · simp [Go.Sort.grow, World.drewN]
  · simp only [Go.Sort.grow, World.drewN]
    rw [Array.getElem?_append_left hi]
/-- WHAT THE ROW's LIST GIVES: the table of powers. -/
theorem table {W : World} (h : laidMetH Tryd.prog Rows.fnExactReadDecimalRow.laid W) : Lib.TabIs Tryd.prog W "internal/strconv.uint64pow10" .u64 Lib.pow10Tab :=
  Lib.tabIs_of_head (rest := []) g2 t2 Tryd.underlying70 Tryd.underlying52 c52 c70 (laidMetH.filter (fun x => x.1 == "internal/strconv.uint64pow10") h)
/-- A listed error's variable holds an interface value. -/
theorem errVar {W : World} {name nm : String} {g : Nat} {d : DataW Unit} {rest : List (String × DataW Unit)} (hg : Tryd.prog.globalNamed name = some g) (hty : (Tryd.prog.globals[g]?).map (·.type) = some 37) (h : laidMet Tryd.prog ((name, .iface nm d) :: rest) W) : ∃ u v, W.cell? ⟨g, 0, none⟩ = some (.iface u v) := by
  obtain ⟨ps, ⟨g', t', cs, fuel, p, q, hg', ht', hvar, hd, _, _⟩, _⟩ := h
  obtain rfl := Option.some.inj (hg.symm.trans hg')
  obtain rfl := Option.some.inj (hty.symm.trans ht')
  obtain ⟨l⟩ := cs
  obtain ⟨f1, u, v, e, _⟩ := iface_of_trod Tryd.underlying37 hd
  refine ⟨u, v, ?_⟩
  have := World.var?_cell hg hvar 0
  have e' : l = [.iface u v] := e
  subst e'
  simpa using this
theorem g0 : Tryd.prog.globalNamed "strconv.ErrSyntax" = some 0 := by kernel_rfl
theorem g1 : Tryd.prog.globalNamed "strconv.ErrRange" = some 1 := by kernel_rfl
theorem ty0 : (Tryd.prog.globals[0]?).map (·.type) = some 37 := by kernel_rfl
theorem ty1 : (Tryd.prog.globals[1]?).map (·.type) = some 37 := by kernel_rfl
theorem errS {W : World} (h : laidMetH Tryd.prog Rows.fnExactReadDecimalRow.laid W) : ∃ u v, W.cell? ⟨0, 0, none⟩ = some (.iface u v) :=
  errVar (rest := []) g0 ty0 (laidMetH.filter (fun x => x.1 == "strconv.ErrSyntax") h)
theorem errR {W : World} (h : laidMetH Tryd.prog Rows.fnExactReadDecimalRow.laid W) : ∃ u v, W.cell? ⟨1, 0, none⟩ = some (.iface u v) :=
  errVar (rest := []) g1 ty1 (laidMetH.filter (fun x => x.1 == "strconv.ErrRange") h)
/-- The program's Decimal: the number's decimal text. -/
theorem implDecimal (n : Int) (h0 : -9223372036854775808 ≤ n) (h1 : n ≤ 9223372036854775807) (w : World) (htab : Lib.TabIs Tryd.prog w "internal/strconv.uint64pow10" .u64 Lib.pow10Tab) :
    Calls Tryd.prog 7 #[.int .i64 n] w fun e w' => e = .returned (.string (DT n)) ∧ Below w.heap.size w w' := by
  go_enter Tryd.func7, Tryd.ntmps7
  go_wp2_with (go_at_call 16; refine (Shelf.Tryd.strconv_Itoa n h0 h1 _ htab).mono ?_; rintro e w' ⟨rfl, k, os, rfl⟩)
  go_ret
  exact ⟨rfl, below_more _ _ _⟩
theorem within_yes (a b c : Int) (h : b ≤ a ∧ a ≤ c) (w : World) : Calls Tryd.prog 17 #[.int .i64 a, .int .i64 b, .int .i64 c] w fun e w' => e = .returned (.bool true) ∧ Below w.heap.size w w' := by
  have h1 : decide (a ≥ b) = true := decide_eq_true h.1
  have h2 : decide (a ≤ c) = true := decide_eq_true h.2
  have h3 : decide (b ≤ a) = true := decide_eq_true h.1
  go_enter Tryd.func17, Tryd.ntmps17
  go_wp2
  go_ret
  exact ⟨rfl, qb (Below.refl _ _)⟩
theorem within_no (a b c : Int) (h : ¬ (b ≤ a ∧ a ≤ c)) (w : World) : Calls Tryd.prog 17 #[.int .i64 a, .int .i64 b, .int .i64 c] w fun e w' => e = .returned (.bool false) ∧ Below w.heap.size w w' := by
  by_cases h1 : b ≤ a
  · have h0 : decide (a ≥ b) = true := decide_eq_true h1
    have h3 : decide (b ≤ a) = true := decide_eq_true h1
    have h2 : decide (a ≤ c) = false := decide_eq_false (fun q => h ⟨h1, q⟩)
    go_enter Tryd.func17, Tryd.ntmps17
    go_wp2
    go_ret
    exact ⟨rfl, qb (Below.refl _ _)⟩
  · have h0 : decide (a ≥ b) = false := decide_eq_false h1
    have h3 : decide (b ≤ a) = false := decide_eq_false h1
    go_enter Tryd.func17, Tryd.ntmps17
    go_wp2
    go_ret
    exact ⟨rfl, qb (Below.refl _ _)⟩
theorem atoi_ok (s : ByteArray) (hs : s.size ≤ 140737488351232) (v : Int) (h : Lib.atoiAll s.data.toList = .ok v) (w : World) : Calls Tryd.prog 20 #[.string s] w fun e w' => e = .returned (.tuple #[.int .i64 v, .nilIface]) ∧ Below w.heap.size w w' :=
  (Shelf.Tryd.strconv_Atoi_ok s (by omega) v h w).mono fun e w' ⟨he, hw⟩ => ⟨he, by
    rcases hw with rfl | ⟨t, rfl⟩
    · exact Below.refl _ _
    · exact bytes_below (Below.refl _ _) (Nat.le_refl _) _ _⟩
theorem atoi_err (s : ByteArray) (hs : s.size ≤ 140737488351232) (h : ∀ v, Lib.atoiAll s.data.toList ≠ .ok v) (w : World) (hS : ∃ u v, w.cell? ⟨0, 0, none⟩ = some (.iface u v)) (hR : ∃ u v, w.cell? ⟨1, 0, none⟩ = some (.iface u v)) : Calls Tryd.prog 20 #[.string s] w fun e w' => (∃ n p, e = .returned (.tuple #[.int .i64 n, .iface 48 p])) ∧ Below w.heap.size w w' := by
  cases ha : Lib.atoiAll s.data.toList with
  | ok v => exact absurd ha (h v)
  | «syntax» =>
    obtain ⟨u, v, hc⟩ := hS
    exact (Shelf.Tryd.strconv_Atoi_syntax s (by omega) ha _ w hc (.inr ⟨u, v, rfl⟩)).mono fun e w' ⟨N, he, _, _, hb⟩ => ⟨⟨_, _, he⟩, hb⟩
  | range =>
    obtain ⟨u, v, hc⟩ := hR
    exact (Shelf.Tryd.strconv_Atoi_range s (by omega) ha _ w hc (.inr ⟨u, v, rfl⟩)).mono fun e w' ⟨N, he, _, _, hb⟩ => ⟨⟨_, _, he⟩, hb⟩
/-- The program's ReadDecimal. -/
theorem implRead (s : ByteArray) (hs : s.size ≤ 140737488351232) (w : World) (htab : Lib.TabIs Tryd.prog w "internal/strconv.uint64pow10" .u64 Lib.pow10Tab) (hS : ∃ u v, w.cell? ⟨0, 0, none⟩ = some (.iface u v)) (hR : ∃ u v, w.cell? ⟨1, 0, none⟩ = some (.iface u v)) :
    Calls Tryd.prog 14 #[.string s] w fun e w' => e = .returned (.tuple #[.int .i64 (RDec s).1, .bool (RDec s).2]) ∧ Below w.heap.size w w' := by
  have HT := Aside0.mk htab
  have HS := Aside0.mk hS
  have HR := Aside0.mk hR
  clear htab hS hR
  by_cases hok : ∃ v, Lib.atoiAll s.data.toList = .ok v
  · obtain ⟨v, ha⟩ := hok
    have HA := Aside0.mk ha
    clear ha
    by_cases hr : 0 ≤ v ∧ v ≤ 1000000000
    · have HV := Aside0.mk hr
      clear hr
      by_cases hd : DT v = s
      · have e : Aside0 (RDec s = (v, true)) := ⟨by unfold RDec; rw [HA.out]; exact if_pos ⟨HV.out.1, HV.out.2, hd⟩⟩
        have q1 : ((DT v).toList == s.toList) = true := by rw [hd]; exact beq_self_eq_true _
        have q2 : ((DT v).toList != s.toList) = false := by rw [hd]; exact bne_self_eq_false _
        clear hd
        go_enter Tryd.func14, Tryd.ntmps14
        go_wp2_with (first | (go_at_call 20; refine (atoi_ok s hs v HA.out _).mono ?_; rintro e w1 ⟨rfl, hb1⟩) | (go_at_call 17; refine (within_yes v 0 1000000000 HV.out _).mono ?_; rintro e w2 ⟨rfl, hb2⟩) | (go_at_call 7; refine (implDecimal v (by have := HV.out; omega) (by have := HV.out; omega) _ (var_below (hb1.trans (hb2.mono hb1.size)) g2 (var_lt g2 HT.out) HT.out)).mono ?_; rintro e w3 ⟨rfl, hb3⟩))
        go_ret2
        refine ⟨by rw [e.out]; rfl, ?_⟩
        exact hb1.trans ((hb2.trans (hb3.mono hb2.size)).mono hb1.size)
      · have e : Aside0 (RDec s = (0, false)) := ⟨by unfold RDec; rw [HA.out]; exact if_neg (fun q => hd q.2.2)⟩
        have q0 : ¬ (DT v).toList = s.toList := fun q => hd (Go.Proofs.YtmkcpkhhlbmgcaaDoor.Aid.toList_inj q)
        have q1 : ((DT v).toList == s.toList) = false := beq_eq_false_iff_ne.2 q0
        have q2 : ((DT v).toList != s.toList) = true := bne_iff_ne.2 q0
        clear hd q0
        go_enter Tryd.func14, Tryd.ntmps14
        go_wp2_with (first | (go_at_call 20; refine (atoi_ok s hs v HA.out _).mono ?_; rintro e w1 ⟨rfl, hb1⟩) | (go_at_call 17; refine (within_yes v 0 1000000000 HV.out _).mono ?_; rintro e w2 ⟨rfl, hb2⟩) | (go_at_call 7; refine (implDecimal v (by have := HV.out; omega) (by have := HV.out; omega) _ (var_below (hb1.trans (hb2.mono hb1.size)) g2 (var_lt g2 HT.out) HT.out)).mono ?_; rintro e w3 ⟨rfl, hb3⟩))
        go_ret2
        refine ⟨by rw [e.out]; rfl, ?_⟩
        exact hb1.trans ((hb2.trans (hb3.mono hb2.size)).mono hb1.size)
    · have e : Aside0 (RDec s = (0, false)) := ⟨by unfold RDec; rw [HA.out]; exact if_neg (fun q => hr ⟨q.1, q.2.1⟩)⟩
      have HV := Aside0.mk hr
      clear hr
      go_enter Tryd.func14, Tryd.ntmps14
      go_wp2_with (first | (go_at_call 20; refine (atoi_ok s hs v HA.out _).mono ?_; rintro e w1 ⟨rfl, hb1⟩) | (go_at_call 17; refine (within_no v 0 1000000000 HV.out _).mono ?_; rintro e w2 ⟨rfl, hb2⟩))
      go_ret2
      refine ⟨by rw [e.out]; rfl, ?_⟩
      exact hb1.trans (hb2.mono hb1.size)
  · have hno : ∀ v, Lib.atoiAll s.data.toList ≠ .ok v := fun v q => hok ⟨v, q⟩
    have e : Aside0 (RDec s = (0, false)) := ⟨by
      unfold RDec
      cases ha : Lib.atoiAll s.data.toList with
      | ok v => exact absurd ha (hno v)
      | «syntax» => rfl
      | range => rfl⟩
    have HN := Aside0.mk hno
    clear hno hok
    go_enter Tryd.func14, Tryd.ntmps14
    go_wp2_with (go_at_call 20; refine (atoi_err s hs HN.out _ HS.out HR.out).mono ?_; rintro e w1 ⟨⟨n1, p1, rfl⟩, hb1⟩)
    go_ret2
    exact ⟨by rw [e.out]; rfl, hb1⟩
theorem cell_below {B : Nat} {w W : World} {g : Nat} (h : Below B w W) (hB : g < B) (hc : ∃ u v, w.cell? ⟨g, 0, none⟩ = some (.iface u v)) : ∃ u v, W.cell? ⟨g, 0, none⟩ = some (.iface u v) := by
  obtain ⟨u, v, hc⟩ := hc
  exact ⟨u, v, (h.cell (p := ⟨g, 0, none⟩) hB).trans hc⟩
theorem walk (s : ByteArray) (w : World) (htab : Lib.TabIs Tryd.prog w "internal/strconv.uint64pow10" .u64 Lib.pow10Tab) (hS : ∃ u v, w.cell? ⟨0, 0, none⟩ = some (.iface u v)) (hR : ∃ u v, w.cell? ⟨1, 0, none⟩ = some (.iface u v)) :
    Calls Tryd.prog 5 #[.string s] w fun e w' => e = .returned (.bool true) ∧ Below w.heap.size w w' := by
  have h2 := var_lt g2 htab
  obtain ⟨k, hk⟩ := (spec_readdecimal s).rounds
  have HT := Aside0.mk htab
  have HS := Aside0.mk hS
  have HR := Aside0.mk hR
  have HK := Aside0.mk (show spec_ReadDecimal.f k s = some ((RDec s).1, (RDec s).2) from hk)
  have HG := Aside0.mk h2
  clear htab hS hR hk h2
  by_cases hbig : (s.size : Int) > 1048576
  · have c1 : decide ((s.size : Int) > 1048576) = true := decide_eq_true hbig
    have c2 : decide (1048576 < s.size) = true := decide_eq_true (by omega)
    have c3 : decide (1048576 < (s.size : Int)) = true := decide_eq_true (by omega)
    clear hbig
    go_enter Tryd.func5, Tryd.ntmps5
    go_wp2
    go_ret
    exact ⟨rfl, qb (Below.refl _ _)⟩
  · have c1 : decide ((s.size : Int) > 1048576) = false := decide_eq_false hbig
    have c2 : decide (1048576 < s.size) = false := decide_eq_false (by omega)
    have c3 : decide (1048576 < (s.size : Int)) = false := decide_eq_false (by omega)
    have hs : s.size ≤ 140737488351232 := by omega
    clear hbig
    generalize hr1 : (RDec s).1 = r1 at HK
    generalize hr2 : (RDec s).2 = r2 at HK
    have HI := fun w' htab hS hR => implRead s hs w' htab hS hR
    rw [hr1, hr2] at HI
    have HI' := Aside0.mk HI
    clear HI hr1 hr2
    go_enter Tryd.func5, Tryd.ntmps5
    go_wp2_with (first | (go_at_call 13; refine (spec_ReadDecimal.calls k s r1 r2 _ HK.out).mono ?_; rintro e w1 ⟨rfl, hb1⟩) | (go_at_call 14; refine (HI'.out _ (var_below hb1 g2 HG.out HT.out) (cell_below hb1 (by have := HG.out; omega) HS.out) (cell_below hb1 (by have := HG.out; omega) HR.out)).mono ?_; rintro e w2 ⟨rfl, hb2⟩))
    go_ret
    exact ⟨rfl, hb1.trans (hb2.mono hb1.size)⟩

/-- WHAT THE WALK GIVES, FOR EVERY ARGUMENT AND EVERY WORLD THAT HOLDS THE TABLE. -/
theorem contract (H : Type) (enc : TypeId × Value → H) (W : World) (base : Nat) (args : Array Value) (ds gs : List (DataW H)) (before : List MemPlace)
    (hval : ∀ (j : Nat) t v, Tryd.f5.params[j]? = some t → args[j]? = some v → Value.okWide Tryd.prog W .any base t v)
    (hW : DataW.Whole enc Tryd.prog Tryd.f5.params.toList Rows.fnExactReadDecimalSpec.vars false W args.toList ds gs before) (hL : laidMetH Tryd.prog Rows.fnExactReadDecimalRow.laid W) :
    Calls Tryd.prog 5 args W fun e W' => ∃ v, e = .returned v ∧ Rows.fnExactReadDecimalSpec.post enc Tryd.prog Tryd.f5 false true false false W args v W' := by
  have hW' := hW
  obtain ⟨p, q, hA0, hV, rfl, hfz, hnd⟩ := hW
  have hA : DataW.TrodAll enc Tryd.prog W 0 (fun _ => true) true Tryd.f5.params.toList args.toList ds p := hA0
  rw [Tryd.params5] at hA hval
  obtain ⟨v0, vs0, d0, ds0, p0, q0, hargs, rfl, rfl, h0, r0⟩ := trodAll_cons hA
  obtain ⟨rfl, rfl, rfl⟩ := trodAll_nil r0
  obtain rfl : args = #[v0] := by cases args; simp_all
  obtain ⟨rfl, rfl⟩ := trodVars_none hV
  obtain ⟨a0, rfl, rfl, rfl, y0⟩ := Go.ChangeMaps.open_string Tryd.underlying9 (hval 0 9 v0 rfl rfl) h0
  clear hA0
  refine (walk a0 W (table hL) (errS hL) (errR hL)).mono fun e W' ⟨he, bel⟩ => ?_
  subst he
  exact ⟨_, rfl, _, _, _, [], _, [], hW', trodAll_mk1 (shut_bool Tryd.underlying4 _), (trodAll_cons_mk (Go.ChangeMaps.shut_string Tryd.underlying9 y0) trodAll_mk0), rfl, bel.frame _, fun h => by cases h⟩

/-- A block with other cells. -/
def put (h : Array Obj) (g : Nat) (cs : Array Value) : Array Obj := h.modify g fun
  | .cells _ t frozen => .cells cs t frozen
  | o => o
def deB32 : List Int := [0, 1, 28, 2, 29, 14, 24, 3, 30, 22, 20, 15, 25, 17, 4, 8, 31, 27, 13, 23, 21, 19, 16, 7, 26, 12, 18, 6, 11, 5, 10, 9]
def deB64 : List Int := [0, 1, 56, 2, 57, 49, 28, 3, 61, 58, 42, 50, 38, 29, 17, 4, 62, 47, 59, 36, 45, 43, 51, 22, 53, 39, 33, 30, 24, 18, 12, 5, 63, 55, 48, 27, 60, 41, 37, 16, 46, 35, 44, 21, 52, 32, 23, 11, 54, 26, 40, 15, 34, 20, 31, 10, 25, 14, 19, 9, 13, 8, 7, 6]
/-- A WORLD FOR THE WITNESS: the settled one, the listed tables holding what their initialisers lay. -/
noncomputable def low : Nat := (World.holding Tryd.prog default ⟨#[], #[], []⟩).heap.size
noncomputable def laidWorld (os : Os) : World :=
  { World.holding Tryd.prog os ⟨#[.cells #[.string ⟨#[118, 97, 108, 117, 101, 32, 111, 117, 116, 32, 111, 102, 32, 114, 97, 110, 103, 101]⟩] 78, .cells #[.string ⟨#[105, 110, 118, 97, 108, 105, 100, 32, 115, 121, 110, 116, 97, 120]⟩] 78], #[], []⟩ with heap := put (put (put (put (put (World.holding Tryd.prog os ⟨#[.cells #[.string ⟨#[118, 97, 108, 117, 101, 32, 111, 117, 116, 32, 111, 102, 32, 114, 97, 110, 103, 101]⟩] 78, .cells #[.string ⟨#[105, 110, 118, 97, 108, 105, 100, 32, 115, 121, 110, 116, 97, 120]⟩] 78], #[], []⟩).heap 2 (Lib.pow10Tab.map (Value.int .u64)).toArray) 6 (deB32.map (Value.int .u8)).toArray) 7 (deB64.map (Value.int .u8)).toArray) 1 #[.iface 76 (.pointer (some ⟨low, 0, none⟩))]) 0 #[.iface 76 (.pointer (some ⟨low + 1, 0, none⟩))] }
theorem laid_met (os : Os) : laidMet Tryd.prog Rows.fnExactReadDecimalRow.laid ((laidWorld os).forCall (fun _ _ => 0) ⟨#[], #[.string ⟨#[]⟩], []⟩).memory :=
  laidMet_of_run' 8 (by kernel_rfl) (by kernel_rfl)
theorem reads (os : Os) {H : Type} (enc : TypeId × Value → H) : ∃ places, DataW.whole enc Tryd.prog ((laidWorld os).forCall (fun _ _ => 0) ⟨#[], #[.string ⟨#[]⟩], []⟩).memory Tryd.f5.params.toList Rows.fnExactReadDecimalSpec.vars false #[Value.string ⟨#[]⟩].toList 8 = some ([.lit (.string [])], [], places) :=
  ⟨[], by kernel_rfl⟩

set_option maxRecDepth 100000 in
theorem lifted (os : Os) (started : os.Started) (H : Type) (enc : TypeId × Value → H) (F : Stop.Interp) :
    ReturnsInHanded {} Tryd.checked os 5 .any ((OpenSpec.ofChange Rows.fnExactReadDecimalSpec).preRow enc Tryd.prog Tryd.f5 Rows.fnExactReadDecimalRow.domain false Rows.fnExactReadDecimalRow.laid) (((OpenSpec.ofChange Rows.fnExactReadDecimalSpec).at F).post enc Tryd.prog Tryd.f5 false true false false) := by
  obtain ⟨places, hx⟩ := reads os enc
  refine returnsInHanded_of_row (C := Tryd.checked) (s := OpenSpec.ofChange Rows.fnExactReadDecimalSpec) own started (by kernel_rfl) Tryd.func5
    (witness_row_at (enc := enc) (C := Tryd.checked) false (laidWorld os) #[.string ⟨#[]⟩] rfl (by kernel_rfl) (by kernel_rfl) (by kernel_rfl)
      (OpenSpec.preRow_of_cond 8 hx (by kernel_rfl) (fun k hk => by cases hk) (by kernel_rfl) (laid_met os))) ?_
  intro W base args ds gs before hval hW _ _ _ hL _ _
  exact contract H enc W base args ds gs before hval hW hL
theorem said : Rows.FnExactReadDecimalSaid :=
  OpenClaim.holds_of_cond 5 Tryd.f5 rfl rfl rfl rfl rfl rfl rfl ⟨rfl, rfl, rfl, rfl, rfl⟩ rfl rfl rfl rfl rfl (by kernel_rfl) Tryd.func5 (by kernel_rfl)
    (of_decide_eq_true (by kernel_rfl)) (by unfold Func.isWrapper; first | (rw [if_pos (by decide +kernel)]; kernel_rfl) | (rw [if_neg (by decide +kernel)]; exact ⟨rfl, rfl⟩))
    (fun os started H enc _ F => by rw [OpenClaim.pre_eq_preRow]; exact lifted os started H enc F)
/-- No parameter wants a stand-in; the dump's own looks. -/
theorem plain (f : FuncId) (fn : Func) (hf : Tryd.pinned.checked.prog.funcNamed "loop.example/g00235/laws.FnExactReadDecimal" = some f) (hfn : Tryd.pinned.checked.prog.funcs[f]? = some fn) :
    true = Tryd.pinned.checked.prog.looks [] ∧ ∀ (j : Nat) t, fn.params[j]? = some t → Tryd.pinned.checked.prog.wantsStandIn t = false := by
  obtain rfl : f = 5 := Option.some.inj ((show Tryd.prog.funcNamed "loop.example/g00235/laws.FnExactReadDecimal" = some 5 by kernel_rfl).symm.trans hf) |>.symm
  obtain rfl : fn = Tryd.f5 := (Option.some.inj (Tryd.func5.symm.trans hfn)).symm
  refine ⟨by kernel_rfl, fun j t ht => ?_⟩
  rw [Tryd.params5] at ht
  obtain rfl : t = 9 := by simpa using Array.mem_of_getElem? ht
  exact (show Tryd.prog.wantsStandIn 9 = false by kernel_rfl)
theorem card : Rows.FnExactReadDecimalCardSaid :=
  Claim7.holds_tied_plain_at .later [] _ _ _ _ said (fun _ h => by cases h) (by kernel_rfl) (fun _ h => by cases h) fnExactReadDecimal_row_tie rfl ⟨rfl, rfl⟩ (by kernel_rfl) rfl plain (by kernel_rfl)
#print axioms card
end Go.Proofs.YtmkcpkhhlbmgcaaDoor.fnExactReadDecimal
namespace Go.Proofs.YtmkcpkhhlbmgcaaDoor
/-- The card, under a short name, for the claim. -/
theorem fnExactReadDecimal_holds : Rows.FnExactReadDecimalCardSaid := fnExactReadDecimal.card
end Go.Proofs.YtmkcpkhhlbmgcaaDoor
