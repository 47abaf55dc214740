-- Written by a program of this session (a changed copy of the kit's print: wip/print2). Lean checks it.
import Derived.Test.YtdnbpapolckklaaPax
import Derived.Test.YtdnbpapolckklaaPFnExactDiskOfx0
import Derived.Test.YtdnbpapolckklaaPFnExactDiskOfx16
namespace Go.Proofs.Ytdnbpapolckklaa.PFnExactDiskOf
open Go.RowKit Go.Proofs.YtdnbpapolckklaaW.PrintWords Go.Proofs.YtdnbpapolckklaaW.PrintLast Go.Proofs.YtdnbpapolckklaaW.PrintMore
attribute [local go_sem] max2_int min2_int max_two min_two max_three min_three max_four min_four   -- for this text's walks alone
attribute [local go_sem] Go.Proofs.Ytdnbpapolckklaa.Pad.isSome_setCell
set_option linter.unusedVariables false
set_option linter.unusedSimpArgs false

/-! ### impl_VarText: function 150 -/
def impl_VarText.l0 : Nat → Int → List Int → Option (ByteArray × Bool)
 | 0, _, _ => none
 | k + 1, x0, x4 => if x0 > 127 then (if x4.length < 140737488355328 then (impl_VarText.l0 k (wrap64 (Int.tdiv x0 128)) (x4 ++ [(wrap64 ((Int.tmod x0 128) + 128)) % 256])) else (none)) else (if x4.length < 140737488355328 then (some (strOfNums (x4 ++ [(x0) % 256]), true)) else (none))
def impl_VarText.f (k : Nat) (a0 : Int) : Option (ByteArray × Bool) := (impl_within.f a0 0 1000000000).bind fun t324 => (if t324 = true then (impl_VarText.l0 k a0 (([] : List Int))) else (some ((⟨#[]⟩ : ByteArray), false)))
set_option maxHeartbeats 8000000 in
set_option maxRecDepth 100000 in
theorem impl_VarText.calls (k : Nat) (a0 : Int) (r1 : ByteArray) (r2 : Bool) (w : World) (h : impl_VarText.f k a0 = some (r1, r2)) :
  Calls Try.prog 150 #[.int .i64 a0] w fun e w' => e = .returned (.tuple #[.string r1, .bool r2]) ∧ Below w.heap.size w w' := by
 have HB := vA (Below.refl w.heap.size w)
 have H : ((impl_within.f a0 0 1000000000).bind fun t324 => (if t324 = true then (impl_VarText.l0 k a0 (([] : List Int))) else (some ((⟨#[]⟩ : ByteArray), false)))) = some (r1, r2) := h
 clear h
 replace H := Option.bind_eq_some_iff.mp H
 obtain ⟨t324, A20, H⟩ := H
 have A2 := vA A20
 clear A20
 go_enter Try.func150, Try.ntmps150
 go_wp2_with (first | ((with_reducible refine gate_callee (f := 97) rfl ?_); refine goesL_ (some 6) rfl rfl Try.func97 (by kernel_rfl) rfl #[.int .i64 a0, .int .i64 0, .int .i64 1000000000] rfl qm ?_; (with_reducible refine (impl_within.calls a0 0 1000000000 t324 _ A2.out).mono ?_)))
 first | rintro e w' rfl ⟨nd, rfl⟩ | rintro e w' ⟨rfl, ⟨nd, rfl⟩⟩
 refine ⟨_, rfl, ?_⟩
 by_cases c3 : t324 = true
 ·subst c3
  rw [if_pos rfl] at H; obtain ⟨y325, hy325⟩ : ∃ y_ : List Int, y_ = (([] : List Int)) := ⟨_, rfl⟩
  first | rw [Option.bind_some, ← hy325] at H | rw [← hy325] at H
  have Ny325 := vA hy325; clear hy325; have H' := vA H; clear H
  go_wp2_with (first | ((with_reducible refine gate_dst (N := 8) rfl ?_); refine Kd.R_lit (Kd.int .u8) _ 5 ?hg (N := 8) ?hd (xs := ([] : List Int)) (inner := []) (ok := fun _ => True) (okp := fun _ => True) ?hr ?hp (fun _ hk => hk) trivial (Below.refl _ _) (Nat.le_refl _) (by simp) ?_; (case hd => rfl); (case hg => rfl); (case hr => first | (go_simp; done) | (go_simp; rfl)); (case hp => exact (Reps.none _ _)); intro v326 w4 ho5 hb hg_ hnew_; clear hg_ hnew_; (first | rw [← Ny325.out] at ho5 | (simp only [Int.reduceToNat] at ho5; rw [← Ny325.out] at ho5)); have HO327 := vA (Kd.R_lower ho5 (below_size (qb HB.out))); replace HB := vbs HB hb; clear hb ho5))
  go_loopg [0, 4] k (fun kq v0 v4 w' => ∃ (x0_1 : Int) (x4_1 : List Int), v0 = .int .i64 x0_1 ∧ Aside0 (impl_VarText.l0 kq x0_1 x4_1 = some (r1, r2)) ∧ Aside0 (kq ≤ k) ∧ Aside0 (Kd.R (Kd.int .u8) 5 w' w.heap.size (fun _ => True) v4 x4_1) ∧ Aside0 (Below w.heap.size w w'))
  case atStart => exact ⟨(a0), (y325), qz, H', ⟨Nat.le_refl _⟩, ⟨qr HO327.out⟩, ⟨qb HB.out⟩⟩
  case round =>
   clear H'
   (try clear c1); (try clear p2); (try clear c3)
   obtain ⟨x0_1, x4_1, rfl, HA, HK1, HO_4, HB⟩ := hrel
   cases gk with
   | zero => exact absurd HA.out (by simp [impl_VarText.l0])
   | succ k1 =>
    have H := HA.out; clear HA
    simp only [impl_VarText.l0] at H
    by_cases c6 : x0_1 > 127
    ·rw [if_pos c6] at H
     have c6b0 : decide (127 < x0_1) = true := decide_eq_true c6; clear c6
     by_cases c7 : x4_1.length < 140737488355328
     ·rw [if_pos c7] at H
      have LMc7 := vA c7; clear c7; obtain ⟨y328, hy328⟩ : ∃ y_ : List Int, y_ = (x4_1 ++ [(wrap64 ((Int.tmod x0_1 128) + 128)) % 256]) := ⟨_, rfl⟩
      first | rw [Option.bind_some, ← hy328] at H | rw [← hy328] at H
      have Ny328 := vA hy328; clear hy328; have H' := vA H; clear H
      go_wp2_with (first | ((with_reducible refine gate_builtin (b := .append) (xs := #[.tmp 11, .tmp 16]) rfl ?_); at_builtin; refine Kd.R_append (Kd.int .u8) (w0 := w) w.heap.size rfl (.tmp 11) (.tmp 16) 65 5 (.int .u8 0) 1 rfl Try.underlying65 info5 rfl (by decide) (by omega) u4 x4_1 ((wrap64 ((Int.tmod x0_1 128) + 128)) % 256) [.int .u8 ((wrap64 ((Int.tmod x0_1 128) + 128)) % 256)] (fun _ => True) (fun _ => False) rfl rfl ?aP (fun _ hk => hk.elim) ?aF ?aO ?aB ?aS ?aL ?_; (case aP => exact rfl); (case aB => exact (qb HB.out)); (case aF => exact (fun _ _ => trivial)); (case aO => exact (qr HO_4.out)); (case aS => exact (below_size (qb HB.out))); (case aL => have := LMc7.out; omega); intro v329 w8 ho hb hg hat; rw [← Ny328.out] at ho; replace HB := vA (hb); have HO330 := vA (ho); clear HO_4 ho hb hg hat))
      go_roundg k1
      case measure => have := HK1.out; omega
      case rel => exact ⟨(wrap64 (Int.tdiv x0_1 128)), (y328), qz, H', ⟨by have := HK1.out; omega⟩, ⟨qr HO330.out⟩, ⟨qb HB.out⟩⟩
     ·rw [if_neg c7] at H
      exact absurd H (by simp)
    ·rw [if_neg c6] at H
     have c6b0 : decide (127 < x0_1) = false := decide_eq_false c6; clear c6
     by_cases c9 : x4_1.length < 140737488355328
     ·rw [if_pos c9] at H
      have LMc9 := vA c9; clear c9; obtain ⟨y331, hy331⟩ : ∃ y_ : List Int, y_ = (x4_1 ++ [(x0_1) % 256]) := ⟨_, rfl⟩
      first | rw [Option.bind_some, ← hy331] at H | rw [← hy331] at H
      have Ny331 := vA hy331; clear hy331
      simp only [Option.some.injEq, Prod.mk.injEq] at H
      obtain ⟨rfl, rfl⟩ := H
      go_wp2_with (first | ((with_reducible refine gate_builtin (b := .append) (xs := #[.tmp 20, .tmp 23]) rfl ?_); at_builtin; refine Kd.R_append (Kd.int .u8) (w0 := w) w.heap.size rfl (.tmp 20) (.tmp 23) 65 5 (.int .u8 0) 1 rfl Try.underlying65 info5 rfl (by decide) (by omega) u4 x4_1 ((x0_1) % 256) [.int .u8 ((x0_1) % 256)] (fun _ => True) (fun _ => False) rfl rfl ?aP (fun _ hk => hk.elim) ?aF ?aO ?aB ?aS ?aL ?_; (case aP => exact rfl); (case aB => exact (qb HB.out)); (case aF => exact (fun _ _ => trivial)); (case aO => exact (qr HO_4.out)); (case aS => exact (below_size (qb HB.out))); (case aL => have := LMc9.out; omega); intro v332 w10 ho hb hg hat; rw [← Ny331.out] at ho; replace HB := vA (hb); have HO333 := vA (ho); clear HO_4 ho hb hg hat; have hcv11 := own_string (P := Try.prog) Try.underlying65 Try.underlying5 Try.underlying9 (Kd.own_of_R HO333.out)))
      go_ret2
      exact ⟨qe, qb HB.out⟩
     ·rw [if_neg c9] at H
      exact absurd H (by simp)
 ·replace c3 := Bool.eq_false_iff.mpr c3
  subst c3
  rw [if_neg (show ¬ (false = true) by decide)] at H
  simp only [Option.some.injEq, Prod.mk.injEq] at H
  obtain ⟨rfl, rfl⟩ := H
  go_wp2
  go_ret2
  exact ⟨qe, qb HB.out⟩

/-! ### impl_ShortText: function 103 -/
def impl_ShortText.f (k : Nat) (a0 : ByteArray) : Option (ByteArray × Bool) := if (a0.size : Int) > 20000 then (some ((⟨#[]⟩ : ByteArray), false)) else ((impl_VarText.f k (a0.size : Int)).bind fun bt334 => (if bt334.1.size + a0.size ≤ 9223372036854775807 then (some (bt334.1 ++ a0, true)) else (none)))
set_option maxHeartbeats 8000000 in
set_option maxRecDepth 100000 in
theorem impl_ShortText.calls (k : Nat) (a0 : ByteArray) (r1 : ByteArray) (r2 : Bool) (w : World) (h : impl_ShortText.f k a0 = some (r1, r2)) :
  Calls Try.prog 103 #[.string a0] w fun e w' => e = .returned (.tuple #[.string r1, .bool r2]) ∧ Below w.heap.size w w' := by
 have HB := vA (Below.refl w.heap.size w)
 have H : (if (a0.size : Int) > 20000 then (some ((⟨#[]⟩ : ByteArray), false)) else ((impl_VarText.f k (a0.size : Int)).bind fun bt334 => (if bt334.1.size + a0.size ≤ 9223372036854775807 then (some (bt334.1 ++ a0, true)) else (none)))) = some (r1, r2) := h
 clear h
 by_cases c2 : (a0.size : Int) > 20000
 ·rw [if_pos c2] at H
  have c2b0 : decide (20000 < (a0.size : Int)) = true := decide_eq_true c2
  have c2b1 : decide (20000 < a0.size) = true := decide_eq_true (by omega)
  clear c2
  simp only [Option.some.injEq, Prod.mk.injEq] at H
  obtain ⟨rfl, rfl⟩ := H
  go_enter Try.func103, Try.ntmps103
  go_wp2
  go_ret2
  exact ⟨qe, qb HB.out⟩
 ·rw [if_neg c2] at H
  have c2b0 : decide (20000 < (a0.size : Int)) = false := decide_eq_false c2
  have c2b1 : decide (20000 < a0.size) = false := decide_eq_false (by omega)
  clear c2; replace H := Option.bind_eq_some_iff.mp H; obtain ⟨⟨t334, t335⟩, A30, H⟩ := H
  dsimp only at H
  have A3 := vA A30; clear A30
  by_cases c4 : t334.size + a0.size ≤ 9223372036854775807
  ·rw [if_pos c4] at H
   have c4b0 := eq_true c4; have c4b1 : decide (t334.size + a0.size ≤ 9223372036854775807) = true := decide_eq_true c4
   try have c4b2 : (9223372036854775807 < t334.size + a0.size) = False := eq_false (Nat.not_lt.2 c4)
   simp only [Option.some.injEq, Prod.mk.injEq] at H
   obtain ⟨rfl, rfl⟩ := H
   go_enter Try.func103, Try.ntmps103
   go_wp2_with (first | ((with_reducible refine gate_callee (f := 150) rfl ?_); refine goesL_ (some 12) rfl rfl Try.func150 (by kernel_rfl) rfl #[.int .i64 (a0.size : Int)] rfl qm ?_; (with_reducible refine (impl_VarText.calls k (a0.size : Int) t334 t335 _ A3.out).mono ?_); rintro e w5 ⟨rfl, hb⟩; refine ⟨_, rfl, ?_⟩; replace HB := vbs HB hb; clear hb))
   go_ret2
   exact ⟨qe, qb HB.out⟩
  ·rw [if_neg c4] at H
   exact absurd H (by simp)

/-! ### impl_BlockText: function 43 -/
def impl_BlockText.l0 : Nat → ByteArray → List (S69) → Int → Int → Option (ByteArray × Bool)
 | 0, _, _, _, _ => none
 | k + 1, x4, x19, x20, x21 => if x21 < x20 then (if 0 ≤ x21 then (if x21 < (x19.length : Int) then ((impl_ShortText.f k ((rd_T69 x19 x21).f0)).bind fun bt340 => ((impl_byteTexts.f k (([(rd_T69 x19 x21).f1] : List Int))).bind fun t345 => (if t345.size + bt340.1.size ≤ 9223372036854775807 then (if x4.size + (t345 ++ bt340.1).size ≤ 9223372036854775807 then (impl_BlockText.l0 k (x4 ++ (t345 ++ bt340.1)) x19 x20 (wrap64 (x21 + 1))) else (none)) else (none)))) else (none)) else (none)) else (some (x4, true))
def impl_BlockText.f (k : Nat) (a0_0 : Bool) (l0_1 : List (S69)) (a0_2 : ByteArray) : Option (ByteArray × Bool) := (impl_BlockOk.f k a0_0 l0_1 a0_2).bind fun t337 => (if t337 = true then (if a0_0 = true then (impl_BlockText.l0 k (⟨#[100]⟩ : ByteArray) l0_1 (l0_1.length : Int) 0) else (if 1 + a0_2.size ≤ 9223372036854775807 then (some ((⟨#[116]⟩ : ByteArray) ++ a0_2, true)) else (none))) else (some ((⟨#[]⟩ : ByteArray), false)))
set_option maxHeartbeats 8000000 in
set_option maxRecDepth 100000 in
theorem impl_BlockText.calls (k : Nat) (a0_0 : Bool) (A0_1 : Option Addr) (c0_1 : Nat) (l0_1 : List (S69)) (a0_2 : ByteArray) (r1 : ByteArray) (r2 : Bool) (w : World) (hr0_1 : Kd.C k69 w A0_1 l0_1.length l0_1) (hc0_1 : l0_1.length ≤ c0_1) (h : impl_BlockText.f k a0_0 l0_1 a0_2 = some (r1, r2)) :
  Calls Try.prog 43 #[.agg #[.bool a0_0, .slice A0_1 l0_1.length c0_1, .string a0_2]] w fun e w' => e = .returned (.tuple #[.string r1, .bool r2]) ∧ Below w.heap.size w w' := by
 have hu59 := Try.underlying59
 have hu69 := Try.underlying69
 have HR0_1 := vA hr0_1
 have HC0_1 := vA hc0_1
 clear hr0_1 hc0_1
 have HB := vA (Below.refl w.heap.size w)
 have H : ((impl_BlockOk.f k a0_0 l0_1 a0_2).bind fun t337 => (if t337 = true then (if a0_0 = true then (impl_BlockText.l0 k (⟨#[100]⟩ : ByteArray) l0_1 (l0_1.length : Int) 0) else (if 1 + a0_2.size ≤ 9223372036854775807 then (some ((⟨#[116]⟩ : ByteArray) ++ a0_2, true)) else (none))) else (some ((⟨#[]⟩ : ByteArray), false)))) = some (r1, r2) := h
 clear h
 replace H := Option.bind_eq_some_iff.mp H
 obtain ⟨t337, A20, H⟩ := H
 have A2 := vA A20
 clear A20
 go_enter Try.func43, Try.ntmps43
 go_wp2_with (first | ((with_reducible refine gate_dst (N := 1) rfl ?_); refine vx (N := 1) (cs := #[.bool a0_0, .slice A0_1 l0_1.length c0_1, .string a0_2]) (t := 59) ?_; intro gb336 hg w3 hbox hb; have BK336 := vA (hbox); have GW336 := vA ((vg hg (qb HB.out))); have GE336 := GW336; replace HB := vbs HB hb; clear hb hbox hg; obtain ⟨hcz4_0, hcz4_1, hcz4_2⟩ := v3c BK336.out; obtain ⟨hfz4_0, hfz4_1, hfz4_2⟩ := v3f BK336.out) | ((with_reducible refine gate_callee (f := 34) rfl ?_); refine goesL_ (some 10) rfl rfl Try.func34 (by kernel_rfl) rfl #[.agg #[.bool a0_0, .slice A0_1 l0_1.length c0_1, .string a0_2]] rfl qm ?_; (with_reducible refine (impl_BlockOk.calls k a0_0 _ _ l0_1 a0_2 t337 _ (vc HR0_1 HB) HC0_1.out A2.out).mono ?_)))
 first | rintro e w5 rfl hb | rintro e w5 ⟨rfl, hb⟩
 refine ⟨_, rfl, ?_⟩
 replace BK336 := vw BK336 hb
 replace HB := vbs HB hb
 (try clear hb)
 (try clear hb2)
 (try clear hk)
 (try clear hi)
 by_cases c6 : t337 = true
 ·subst c6
  rw [if_pos rfl] at H
  by_cases c7 : a0_0 = true
  ·subst c7
   rw [if_pos rfl] at H; have H' := vA H; clear H; obtain ⟨hcz8_0, hcz8_1, hcz8_2⟩ := v3c BK336.out; obtain ⟨hfz8_0, hfz8_1, hfz8_2⟩ := v3f BK336.out
   go_wp2
   go_loopg [4, 21] k (fun kq v4 v21 w' => ∃ (x4_1 : ByteArray) (x21_1 : Int), v4 = .string x4_1 ∧ v21 = .int .i64 x21_1 ∧ Aside0 (impl_BlockText.l0 kq x4_1 l0_1 (l0_1.length : Int) x21_1 = some (r1, r2)) ∧ Aside0 (kq ≤ k) ∧ Aside0 (w'.heap[gb336]? = some (.cells #[.bool true, (.slice A0_1 l0_1.length c0_1), .string a0_2] 59 (0, 0))) ∧ Aside0 (Below w.heap.size w w'))
   case atStart => exact ⟨((⟨#[100]⟩ : ByteArray)), (0), qz, qz, H', ⟨Nat.le_refl _⟩, ⟨qk BK336.out⟩, ⟨qb1 HB.out GE336.out⟩⟩
   case round =>
    clear H'
    (try clear p2); (try clear c3); (try clear c4); (try clear c6); (try clear c7); (try clear hcz4_0); (try clear hcz4_1); (try clear hcz4_2); (try clear hcz8_0); (try clear hcz8_1); (try clear hcz8_2); (try clear hfz4_0); (try clear hfz4_1); (try clear hfz4_2); (try clear hfz8_0); (try clear hfz8_1); (try clear hfz8_2)
    obtain ⟨x4_1, x21_1, rfl, rfl, HA, HK1, BK336, HB⟩ := hrel
    cases gk with
    | zero => exact absurd HA.out (by simp [impl_BlockText.l0])
    | succ k1 =>
     have H := HA.out; clear HA
     simp only [impl_BlockText.l0] at H
     by_cases c9 : x21_1 < (l0_1.length : Int)
     ·rw [if_pos c9] at H
      have c9b0 : decide (x21_1 < (l0_1.length : Int)) = true := decide_eq_true c9; clear c9
      by_cases c10 : 0 ≤ x21_1
      ·rw [if_pos c10] at H
       have c10b0 : decide (0 ≤ x21_1) = true := decide_eq_true c10; clear c10
       by_cases c11 : x21_1 < (l0_1.length : Int)
       ·rw [if_pos c11] at H
        have c11b0 : decide (x21_1 < (l0_1.length : Int)) = true := decide_eq_true c11; clear c11; replace H := Option.bind_eq_some_iff.mp H; obtain ⟨⟨t340, t341⟩, A120, H⟩ := H
        dsimp only at H
        have A12 := vA A120; clear A120; obtain ⟨y342, hy342⟩ : ∃ y_ : List Int, y_ = (([(rd_T69 l0_1 x21_1).f1] : List Int)) := ⟨_, rfl⟩
        first | rw [Option.bind_some, ← hy342] at H | rw [← hy342] at H
        have Ny342 := vA hy342; clear hy342; replace H := Option.bind_eq_some_iff.mp H; obtain ⟨t345, A130, H⟩ := H; have A13 := vA A130; clear A130
        by_cases c14 : t345.size + t340.size ≤ 9223372036854775807
        ·rw [if_pos c14] at H
         have c14b0 := eq_true c14; have c14b1 : decide (t345.size + t340.size ≤ 9223372036854775807) = true := decide_eq_true c14
         try have c14b2 : (9223372036854775807 < t345.size + t340.size) = False := eq_false (Nat.not_lt.2 c14)
         by_cases c15 : x4_1.size + (t345 ++ t340).size ≤ 9223372036854775807
         ·rw [if_pos c15] at H
          have c15b0 := eq_true c15; have c15b1 : decide (x4_1.size + (t345 ++ t340).size ≤ 9223372036854775807) = true := decide_eq_true c15
          try have c15b2 : (9223372036854775807 < x4_1.size + (t345 ++ t340).size) = False := eq_false (Nat.not_lt.2 c15)
          try have c15b3 : (9223372036854775807 < x4_1.size + t345.size + t340.size) = False := eq_false (by have h_ := c15; simp only [ByteArray.size_append, ByteArray.size_extract] at h_; omega)
          have H' := vA H; clear H; have p338 : 0 ≤ (x21_1 : Int) := qo; have q338 : x21_1 < (l0_1.length : Int) := qo; obtain ⟨ad338, e338, hx338_0, hx338_1⟩ := at_T69 HR0_1.out x21_1 p338 q338
          cases e338
          replace hx338_0 := qc HB.out hx338_0; replace hx338_1 := qc HB.out hx338_1; replace p338 := eq_true p338; replace q338 := eq_true q338
          go_wp2_with (first | ((with_reducible refine gate_dst (N := 6) rfl ?_); refine vx (N := 6) (cs := #[.string (⟨#[]⟩ : ByteArray), .int .i64 0]) (t := 69) ?_; intro gb339 hg w16 hbox hb; have BK339 := vA (hbox); have GW339 := vA ((vg hg (vh HB))); have GE339 := GW339; replace HB := vbs HB hb; have NB336_339 := vn hg BK336; have NB339_336 := vN hg BK336; replace BK336 := vw BK336 hb; clear hb hbox hg; have hnb17 := NB339_336.out; have hnc17 := NB336_339.out; obtain ⟨hcz18_0, hcz18_1⟩ := v2c BK339.out; obtain ⟨hfz18_0, hfz18_1⟩ := v2f BK339.out) | ((with_reducible refine gate_callee (f := 103) rfl ?_); refine goesL_ (some 28) rfl rfl Try.func103 (by kernel_rfl) rfl #[.string ((rd_T69 l0_1 x21_1).f0)] rfl qm ?_; (with_reducible refine (impl_ShortText.calls k1 ((rd_T69 l0_1 x21_1).f0) t340 t341 _ A12.out).mono ?_); rintro e w19 ⟨rfl, hb⟩; refine ⟨_, rfl, ?_⟩; replace BK336 := vB BK336 NB336_339 hb; replace BK339 := vA (blk_below (g := gb339) (o := .cells #[.string ((rd_T69 l0_1 x21_1).f0), .int .i64 ((rd_T69 l0_1 x21_1).f1)] 69 (0, 0)) (blk_put (blk_put BK339.out 0 _ rfl) 1 _ rfl) hb); replace HB := vbs HB hb; clear hb; obtain ⟨hcz20_0, hcz20_1⟩ := v2c BK339.out; obtain ⟨hfz20_0, hfz20_1⟩ := v2f BK339.out) | ((with_reducible refine gate_dst (N := 34) rfl ?_); refine Kd.R_lit (Kd.int .i64) _ 3 ?hg (N := 34) ?hd (xs := ([(rd_T69 l0_1 x21_1).f1] : List Int)) (inner := [.int .i64 ((rd_T69 l0_1 x21_1).f1)]) (ok := fun _ => True) (okp := fun _ => True) ?hr ?hp (fun _ hk => hk) trivial (Below.refl _ _) (Nat.le_refl _) (by simp) ?_; (case hd => rfl); (case hg => rfl); (case hr => first | (go_simp; done) | (go_simp; rfl)); (case hp => exact (Reps.one (show Kd.M (Kd.int .i64) _ _ _ ((rd_T69 l0_1 x21_1).f1) [.int .i64 ((rd_T69 l0_1 x21_1).f1)] from rfl) (Reps.none _ _))); intro v343 w21 ho22 hb hg_ hnew_; clear hg_ hnew_; (first | rw [← Ny342.out] at ho22 | (simp only [Int.reduceToNat] at ho22; rw [← Ny342.out] at ho22)); have HO344 := vA (Kd.R_lower ho22 (below_size (vh HB))); replace BK336 := vw BK336 hb; replace BK339 := vw BK339 hb; replace HB := vbs HB hb; clear hb ho22; obtain ⟨Ao23, co23, eo23⟩ := Kd.R_slice HO344.out; subst eo23) | ((with_reducible refine gate_callee (f := 83) rfl ?_); refine goesL_ (some 35) rfl rfl Try.func83 (by kernel_rfl) rfl #[.slice Ao23 y342.length co23] rfl qm ?_; (with_reducible refine (impl_byteTexts.calls k1 _ _ y342 t345 _ (vd (Kd.R_reads' HO344.out).2.2) ((Kd.R_reads' HO344.out).2.1) A13.out).mono ?_); rintro e w24 ⟨rfl, hb⟩; refine ⟨_, rfl, ?_⟩; replace HO344 := vrb HO344 hb; replace BK336 := vw BK336 hb; replace BK339 := vw BK339 hb; replace HB := vbs HB hb; clear hb))
          go_roundg k1
          case measure => have := HK1.out; omega
          case rel => exact ⟨(x4_1 ++ (t345 ++ t340)), (wrap64 (x21_1 + 1)), qz, qz, H', ⟨by have := HK1.out; omega⟩, ⟨qk BK336.out⟩, ⟨qb2 HB.out GE336.out GE339.out⟩⟩
         ·rw [if_neg c15] at H
          exact absurd H (by simp)
        ·rw [if_neg c14] at H
         exact absurd H (by simp)
       ·rw [if_neg c11] at H
        exact absurd H (by simp)
      ·rw [if_neg c10] at H
       exact absurd H (by simp)
     ·rw [if_neg c9] at H
      have c9b0 : decide (x21_1 < (l0_1.length : Int)) = false := decide_eq_false c9; clear c9
      simp only [Option.some.injEq, Prod.mk.injEq] at H
      obtain ⟨rfl, rfl⟩ := H
      go_wp2
      go_ret2
      exact ⟨qe, qb1 HB.out GE336.out⟩
  ·replace c7 := Bool.eq_false_iff.mpr c7
   subst c7
   rw [if_neg (show ¬ (false = true) by decide)] at H
   by_cases c25 : 1 + a0_2.size ≤ 9223372036854775807
   ·rw [if_pos c25] at H
    have c25b0 := eq_true c25; have c25b1 : decide (1 + a0_2.size ≤ 9223372036854775807) = true := decide_eq_true c25
    try have c25b2 : (9223372036854775807 < 1 + a0_2.size) = False := eq_false (Nat.not_lt.2 c25)
    simp only [Option.some.injEq, Prod.mk.injEq] at H
    obtain ⟨rfl, rfl⟩ := H; obtain ⟨hcz26_0, hcz26_1, hcz26_2⟩ := v3c BK336.out; obtain ⟨hfz26_0, hfz26_1, hfz26_2⟩ := v3f BK336.out
    go_wp2
    go_ret2
    exact ⟨qe, qb1 HB.out GE336.out⟩
   ·rw [if_neg c25] at H
    exact absurd H (by simp)
 ·replace c6 := Bool.eq_false_iff.mpr c6
  subst c6
  rw [if_neg (show ¬ (false = true) by decide)] at H
  simp only [Option.some.injEq, Prod.mk.injEq] at H
  obtain ⟨rfl, rfl⟩ := H
  go_wp2
  go_ret2
  exact ⟨qe, qb1 HB.out GE336.out⟩

/-! ### impl_ReadVar: function 152 -/
mutual
def impl_ReadVar.l0 : Nat → ByteArray → Int → Int → Int → Option (Int × Int × Bool)
 | 0, _, _, _, _ => none
 | k + 1, x0, x1, x7, x8 => if x8 < 5 then (impl_ReadVar.j1 k x0 x1 x7 x8 (decide ((wrap64 (x1 + x8)) < (x0.size : Int)))) else (impl_ReadVar.j1 k x0 x1 x7 x8 false)
def impl_ReadVar.j1 : Nat → ByteArray → Int → Int → Int → Bool → Option (Int × Int × Bool)
 | 0, _, _, _, _, _ => none
 | k + 1, x0, x1, x7, x8, x24 => if x24 = true then (if 0 ≤ (wrap64 (x1 + x8)) then (if (wrap64 (x1 + x8)) < (x0.size : Int) then (if 0 ≤ (wrap64 (7 * x8)) then (if (wrap64 (bt x0 (wrap64 (x1 + x8)))) > 127 then (impl_ReadVar.l0 k x0 x1 (wrap64 (x7 + (shl .i64 (Int.tmod (wrap64 (bt x0 (wrap64 (x1 + x8)))) 128) (wrap64 (7 * x8))))) (wrap64 (x8 + 1))) else (if x8 > 0 then (if (wrap64 (bt x0 (wrap64 (x1 + x8)))) = 0 then (some (0, 0, false)) else (if (wrap64 (x7 + (shl .i64 (Int.tmod (wrap64 (bt x0 (wrap64 (x1 + x8)))) 128) (wrap64 (7 * x8))))) > 1000000000 then (some (0, 0, false)) else (some (wrap64 (x7 + (shl .i64 (Int.tmod (wrap64 (bt x0 (wrap64 (x1 + x8)))) 128) (wrap64 (7 * x8)))), wrap64 ((wrap64 (x1 + x8)) + 1), true)))) else (if (wrap64 (x7 + (shl .i64 (Int.tmod (wrap64 (bt x0 (wrap64 (x1 + x8)))) 128) (wrap64 (7 * x8))))) > 1000000000 then (some (0, 0, false)) else (some (wrap64 (x7 + (shl .i64 (Int.tmod (wrap64 (bt x0 (wrap64 (x1 + x8)))) 128) (wrap64 (7 * x8)))), wrap64 ((wrap64 (x1 + x8)) + 1), true))))) else (none)) else (none)) else (none)) else (some (0, 0, false))
end
def impl_ReadVar.f (k : Nat) (a0 : ByteArray) (a1 : Int) : Option (Int × Int × Bool) := (impl_within.f a1 0 (a0.size : Int)).bind fun t346 => (if t346 = true then (impl_ReadVar.l0 k a0 a1 0 0) else (some (0, 0, false)))
set_option maxHeartbeats 8000000 in
set_option maxRecDepth 100000 in
theorem impl_ReadVar.calls (k : Nat) (a0 : ByteArray) (a1 : Int) (r1 : Int) (r2 : Int) (r3 : Bool) (w : World) (h : impl_ReadVar.f k a0 a1 = some (r1, r2, r3)) :
  Calls Try.prog 152 #[.string a0, .int .i64 a1] w fun e w' => e = .returned (.tuple #[.int .i64 r1, .int .i64 r2, .bool r3]) ∧ Drawn0 w w' := by
 have H : ((impl_within.f a1 0 (a0.size : Int)).bind fun t346 => (if t346 = true then (impl_ReadVar.l0 k a0 a1 0 0) else (some (0, 0, false)))) = some (r1, r2, r3) := h
 clear h
 replace H := Option.bind_eq_some_iff.mp H
 obtain ⟨t346, A30, H⟩ := H
 have A3 := vA A30
 clear A30
 go_enter Try.func152, Try.ntmps152
 go_wp2_with (first | ((with_reducible refine gate_callee (f := 97) rfl ?_); refine goesL_ (some 13) rfl rfl Try.func97 (by kernel_rfl) rfl #[.int .i64 a1, .int .i64 0, .int .i64 (a0.size : Int)] rfl qm ?_; (with_reducible refine (impl_within.calls a1 0 (a0.size : Int) t346 _ A3.out).mono ?_)))
 first | rintro e w' rfl ⟨nd, rfl⟩ | rintro e w' ⟨rfl, ⟨nd, rfl⟩⟩
 refine ⟨_, rfl, ?_⟩
 by_cases c4 : t346 = true
 ·subst c4
  rw [if_pos rfl] at H; have H' := vA H; clear H
  go_wp2
  go_loopg [7, 8] k (fun kq v7 v8 w' => ∃ (x7_1 : Int) (x8_1 : Int), v7 = .int .i64 x7_1 ∧ v8 = .int .i64 x8_1 ∧ Aside0 (impl_ReadVar.l0 kq a0 a1 x7_1 x8_1 = some (r1, r2, r3)) ∧ Aside0 (kq ≤ k) ∧ Drawn0 w w')
  case atStart => exact ⟨(0), (0), qz, qz, H', ⟨Nat.le_refl _⟩, qd⟩
  case round =>
   clear H'
   (try clear c1); (try clear p2); (try clear c4)
   obtain ⟨x7_1, x8_1, rfl, rfl, HA, HK1, ⟨m1, rfl⟩⟩ := hrel
   cases gk with
   | zero => exact absurd HA.out (by simp [impl_ReadVar.l0])
   | succ k1 =>
    have H := HA.out; clear HA
    simp only [impl_ReadVar.l0] at H
    have HC5 := vA H; clear H
    go_upto_region 5 with (fail)
    go_cut [24] (fun v24 wc => ∃ (kq : Nat) (x24_4 : Bool), v24 = .bool x24_4 ∧ Aside0 (impl_ReadVar.j1 kq a0 a1 x7_1 x8_1 x24_4 = some (r1, r2, r3)) ∧ Aside0 (kq ≤ k1) ∧ Drawn0 w wc)
    case first =>
     have H := HC5.out; clear HC5
     by_cases c6 : x8_1 < 5
     ·rw [if_pos c6] at H
      have c6b0 : decide (x8_1 < 5) = true := decide_eq_true c6; clear c6
      (first | rw [c6b0] | (simp only [i64_w, i32_w]; rw [c6b0]) | skip)
      have H' := vA H; clear H
      go_wp2
      go_meet
      case rel => exact ⟨_, (decide ((wrap64 (a1 + x8_1)) < (a0.size : Int))), qz, H', ⟨by have := HK1.out; first | omega | exact Nat.le_refl _⟩, qd⟩
     ·rw [if_neg c6] at H
      have c6b0 : decide (x8_1 < 5) = false := decide_eq_false c6; clear c6
      (first | rw [c6b0] | (simp only [i64_w, i32_w]; rw [c6b0]) | skip)
      have H' := vA H; clear H
      go_wp2
      go_meet
      case rel => exact ⟨_, (false), qz, H', ⟨by have := HK1.out; first | omega | exact Nat.le_refl _⟩, qd⟩
    case rest =>
     clear HC5
     (try clear c1); (try clear p2); (try clear c4); (try clear c6); (try clear c6b0); (try clear p6); (try clear p2)
     obtain ⟨kq, x24_4, rfl, HA, HJ4, ⟨mc4, rfl⟩⟩ := hcut
     cases kq with
     | zero => exact absurd HA.out (by simp [impl_ReadVar.j1])
     | succ kj4 =>
      have H := HA.out; clear HA
      simp only [impl_ReadVar.j1] at H
      by_cases c7 : x24_4 = true
      ·subst c7
       rw [if_pos rfl] at H; obtain ⟨ji8, hji8⟩ : ∃ j_ : Int, (wrap64 (a1 + x8_1)) = j_ := ⟨_, rfl⟩
       replace H : (if 0 ≤ (ji8) then (if (ji8) < (a0.size : Int) then (if 0 ≤ (wrap64 (7 * x8_1)) then (if (wrap64 (bt a0 (ji8))) > 127 then (impl_ReadVar.l0 kj4 a0 a1 (wrap64 (x7_1 + (shl .i64 (Int.tmod (wrap64 (bt a0 (ji8))) 128) (wrap64 (7 * x8_1))))) (wrap64 (x8_1 + 1))) else (if x8_1 > 0 then (if (wrap64 (bt a0 (ji8))) = 0 then (some (0, 0, false)) else (if (wrap64 (x7_1 + (shl .i64 (Int.tmod (wrap64 (bt a0 (ji8))) 128) (wrap64 (7 * x8_1))))) > 1000000000 then (some (0, 0, false)) else (some (wrap64 (x7_1 + (shl .i64 (Int.tmod (wrap64 (bt a0 (ji8))) 128) (wrap64 (7 * x8_1)))), wrap64 ((ji8) + 1), true)))) else (if (wrap64 (x7_1 + (shl .i64 (Int.tmod (wrap64 (bt a0 (ji8))) 128) (wrap64 (7 * x8_1))))) > 1000000000 then (some (0, 0, false)) else (some (wrap64 (x7_1 + (shl .i64 (Int.tmod (wrap64 (bt a0 (ji8))) 128) (wrap64 (7 * x8_1)))), wrap64 ((ji8) + 1), true))))) else (none)) else (none)) else (none)) = some (r1, r2, r3) := by first | (rw [hji8] at H; exact H) | (simp only [hji8] at H ⊢; exact H)
       have hji8w : (IntKind.i64.wrap (a1 + x8_1)) = ji8 := (i64_w _).trans hji8
       by_cases c9 : 0 ≤ (ji8)
       ·rw [if_pos c9] at H
        have c9b0 : decide (0 ≤ (ji8)) = true := decide_eq_true c9; clear c9
        by_cases c10 : (ji8) < (a0.size : Int)
        ·rw [if_pos c10] at H
         have c10b0 : decide ((ji8) < (a0.size : Int)) = true := decide_eq_true c10; clear c10; obtain ⟨ji12, hji12⟩ : ∃ j_ : Int, (wrap64 (7 * x8_1)) = j_ := ⟨_, rfl⟩
         replace H : (if 0 ≤ (ji12) then (if (wrap64 (bt a0 (ji8))) > 127 then (impl_ReadVar.l0 kj4 a0 a1 (wrap64 (x7_1 + (shl .i64 (Int.tmod (wrap64 (bt a0 (ji8))) 128) (ji12)))) (wrap64 (x8_1 + 1))) else (if x8_1 > 0 then (if (wrap64 (bt a0 (ji8))) = 0 then (some (0, 0, false)) else (if (wrap64 (x7_1 + (shl .i64 (Int.tmod (wrap64 (bt a0 (ji8))) 128) (ji12)))) > 1000000000 then (some (0, 0, false)) else (some (wrap64 (x7_1 + (shl .i64 (Int.tmod (wrap64 (bt a0 (ji8))) 128) (ji12))), wrap64 ((ji8) + 1), true)))) else (if (wrap64 (x7_1 + (shl .i64 (Int.tmod (wrap64 (bt a0 (ji8))) 128) (ji12)))) > 1000000000 then (some (0, 0, false)) else (some (wrap64 (x7_1 + (shl .i64 (Int.tmod (wrap64 (bt a0 (ji8))) 128) (ji12))), wrap64 ((ji8) + 1), true))))) else (none)) = some (r1, r2, r3) := by first | (rw [hji12] at H; exact H) | (simp only [hji12] at H ⊢; exact H)
         have hji12w : (IntKind.i64.wrap (7 * x8_1)) = ji12 := (i64_w _).trans hji12
         by_cases c13 : 0 ≤ (ji12)
         ·rw [if_pos c13] at H
          have c13b0 := eq_true c13; have c13b1 : decide (0 ≤ (ji12)) = true := decide_eq_true c13; clear c13; obtain ⟨ji14, hji14⟩ : ∃ j_ : Int, (shl .i64 (Int.tmod (wrap64 (bt a0 (ji8))) 128) (ji12)) = j_ := ⟨_, rfl⟩
          replace H : (if (wrap64 (bt a0 (ji8))) > 127 then (impl_ReadVar.l0 kj4 a0 a1 (wrap64 (x7_1 + (ji14))) (wrap64 (x8_1 + 1))) else (if x8_1 > 0 then (if (wrap64 (bt a0 (ji8))) = 0 then (some (0, 0, false)) else (if (wrap64 (x7_1 + (ji14))) > 1000000000 then (some (0, 0, false)) else (some (wrap64 (x7_1 + (ji14)), wrap64 ((ji8) + 1), true)))) else (if (wrap64 (x7_1 + (ji14))) > 1000000000 then (some (0, 0, false)) else (some (wrap64 (x7_1 + (ji14)), wrap64 ((ji8) + 1), true))))) = some (r1, r2, r3) := by first | (rw [hji14] at H; exact H) | (simp only [hji14] at H ⊢; exact H)
          have hji14_ : (IntKind.i64.wrap ((Int.tmod (wrap64 (bt a0 (ji8))) 128) * 2 ^ min (ji12).toNat 64)) = ji14 := hji14; have hji14z : (ji12) ≤ 64 → (IntKind.i64.wrap ((Int.tmod (wrap64 (bt a0 (ji8))) 128) * 2 ^ (ji12).toNat)) = ji14 := shl_small hji14; have hji14y : (wrap64 ((Int.tmod (wrap64 (bt a0 (ji8))) 128) * 2 ^ min (ji12).toNat 64)) = ji14 := (i64_w _).symm.trans hji14_
          have hji14x : (ji12) ≤ 64 → (wrap64 ((Int.tmod (wrap64 (bt a0 (ji8))) 128) * 2 ^ (ji12).toNat)) = ji14 := fun h_ => (i64_w _).symm.trans (hji14z h_)
          by_cases c15 : (wrap64 (bt a0 (ji8))) > 127
          ·rw [if_pos c15] at H
           have c15b0 : decide (127 < (wrap64 (bt a0 (ji8)))) = true := decide_eq_true c15; clear c15; have H' := vA H; clear H; have p11 : 0 ≤ ((ji8) : Int) := qo; have q11 : (ji8) < (a0.size : Int) := qo; have hx11 := bt_at a0 (ji8); replace p11 := eq_true p11; replace q11 := eq_true q11
           go_wp2
           go_roundg kj4
           case measure => have := HK1.out; have := HJ4.out; omega
           case rel => exact ⟨(wrap64 (x7_1 + (ji14))), (wrap64 (x8_1 + 1)), (by first | rfl | (simp; done) | (simp only [← hji14] <;> (first | rfl | simp)) | (simp [*]; done) | (simp; generalize ByteArray.toList _ = l_; cases l_ <;> rfl)), qz, H', ⟨by have := HK1.out; have := HJ4.out; omega⟩, qd⟩
          ·rw [if_neg c15] at H
           have c15b0 : decide (127 < (wrap64 (bt a0 (ji8)))) = false := decide_eq_false c15; clear c15
           by_cases c16 : x8_1 > 0
           ·rw [if_pos c16] at H
            have c16b0 : decide (0 < x8_1) = true := decide_eq_true c16; clear c16
            by_cases c17 : (wrap64 (bt a0 (ji8))) = 0
            ·rw [if_pos c17] at H
             have c17b0 : ((wrap64 (bt a0 (ji8))) == 0) = true := beq_iff_eq.mpr c17; have c17b1 : ((wrap64 (bt a0 (ji8))) != 0) = false := bne_eq_false_iff_eq.mpr c17; clear c17
             simp only [Option.some.injEq, Prod.mk.injEq] at H
             obtain ⟨rfl, rfl, rfl⟩ := H; have p11 : 0 ≤ ((ji8) : Int) := qo; have q11 : (ji8) < (a0.size : Int) := qo; have hx11 := bt_at a0 (ji8); replace p11 := eq_true p11; replace q11 := eq_true q11
             go_wp2
             go_ret3
             exact ⟨by first | rfl | (simp; done) | (simp only [← hji8, ← hji12, ← hji14] <;> (first | rfl | simp)) | (simp [*]; done) | (simp; generalize ByteArray.toList _ = l_; cases l_ <;> rfl), qd⟩
            ·rw [if_neg c17] at H
             have c17b0 : ((wrap64 (bt a0 (ji8))) == 0) = false := beq_eq_false_iff_ne.mpr c17; have c17b1 : ((wrap64 (bt a0 (ji8))) != 0) = true := bne_iff_ne.mpr c17
             by_cases c18 : (wrap64 (x7_1 + (ji14))) > 1000000000
             ·rw [if_pos c18] at H
              have c18b0 : decide (1000000000 < (wrap64 (x7_1 + (ji14)))) = true := decide_eq_true c18; clear c18
              simp only [Option.some.injEq, Prod.mk.injEq] at H
              obtain ⟨rfl, rfl, rfl⟩ := H; have p11 : 0 ≤ ((ji8) : Int) := qo; have q11 : (ji8) < (a0.size : Int) := qo; have hx11 := bt_at a0 (ji8); replace p11 := eq_true p11; replace q11 := eq_true q11
              go_wp2
              go_ret3
              exact ⟨by first | rfl | (simp; done) | (simp only [← hji8, ← hji12, ← hji14] <;> (first | rfl | simp)) | (simp [*]; done) | (simp; generalize ByteArray.toList _ = l_; cases l_ <;> rfl), qd⟩
             ·rw [if_neg c18] at H
              have c18b0 : decide (1000000000 < (wrap64 (x7_1 + (ji14)))) = false := decide_eq_false c18; clear c18
              simp only [Option.some.injEq, Prod.mk.injEq] at H
              obtain ⟨rfl, rfl, rfl⟩ := H; have p11 : 0 ≤ ((ji8) : Int) := qo; have q11 : (ji8) < (a0.size : Int) := qo; have hx11 := bt_at a0 (ji8); replace p11 := eq_true p11; replace q11 := eq_true q11
              go_wp2
              go_ret3
              exact ⟨by first | rfl | (simp; done) | (simp only [← hji8, ← hji12, ← hji14] <;> (first | rfl | simp)) | (simp [*]; done) | (simp; generalize ByteArray.toList _ = l_; cases l_ <;> rfl), qd⟩
           ·rw [if_neg c16] at H
            have c16b0 : decide (0 < x8_1) = false := decide_eq_false c16; clear c16
            by_cases c19 : (wrap64 (x7_1 + (ji14))) > 1000000000
            ·rw [if_pos c19] at H
             have c19b0 : decide (1000000000 < (wrap64 (x7_1 + (ji14)))) = true := decide_eq_true c19; clear c19
             simp only [Option.some.injEq, Prod.mk.injEq] at H
             obtain ⟨rfl, rfl, rfl⟩ := H; have p11 : 0 ≤ ((ji8) : Int) := qo; have q11 : (ji8) < (a0.size : Int) := qo; have hx11 := bt_at a0 (ji8); replace p11 := eq_true p11; replace q11 := eq_true q11
             go_wp2
             go_ret3
             exact ⟨by first | rfl | (simp; done) | (simp only [← hji8, ← hji12, ← hji14] <;> (first | rfl | simp)) | (simp [*]; done) | (simp; generalize ByteArray.toList _ = l_; cases l_ <;> rfl), qd⟩
            ·rw [if_neg c19] at H
             have c19b0 : decide (1000000000 < (wrap64 (x7_1 + (ji14)))) = false := decide_eq_false c19; clear c19
             simp only [Option.some.injEq, Prod.mk.injEq] at H
             obtain ⟨rfl, rfl, rfl⟩ := H; have p11 : 0 ≤ ((ji8) : Int) := qo; have q11 : (ji8) < (a0.size : Int) := qo; have hx11 := bt_at a0 (ji8); replace p11 := eq_true p11; replace q11 := eq_true q11
             go_wp2
             go_ret3
             exact ⟨by first | rfl | (simp; done) | (simp only [← hji8, ← hji12, ← hji14] <;> (first | rfl | simp)) | (simp [*]; done) | (simp; generalize ByteArray.toList _ = l_; cases l_ <;> rfl), qd⟩
         ·rw [if_neg c13] at H
          exact absurd H (by simp)
        ·rw [if_neg c10] at H
         exact absurd H (by simp)
       ·rw [if_neg c9] at H
        exact absurd H (by simp)
      ·replace c7 := Bool.eq_false_iff.mpr c7
       subst c7
       rw [if_neg (show ¬ (false = true) by decide)] at H
       simp only [Option.some.injEq, Prod.mk.injEq] at H
       obtain ⟨rfl, rfl, rfl⟩ := H
       go_wp2
       go_ret3
       exact ⟨qz, qd⟩
 ·replace c4 := Bool.eq_false_iff.mpr c4
  subst c4
  rw [if_neg (show ¬ (false = true) by decide)] at H
  simp only [Option.some.injEq, Prod.mk.injEq] at H
  obtain ⟨rfl, rfl, rfl⟩ := H
  go_wp2
  go_ret3
  exact ⟨qz, qd⟩

/-! ### impl_ReadShort: function 105 -/
def impl_ReadShort.f (k : Nat) (a0 : ByteArray) (a1 : Int) : Option (ByteArray × Int × Bool) := (impl_ReadVar.f k a0 a1).bind fun bt347 => (if bt347.2.2 = true then (if bt347.1 > 20000 then (some ((⟨#[]⟩ : ByteArray), 0, false)) else (if bt347.1 > (wrap64 ((a0.size : Int) - bt347.2.1)) then (some ((⟨#[]⟩ : ByteArray), 0, false)) else (if 0 ≤ bt347.2.1 then (if bt347.2.1 ≤ (wrap64 (bt347.2.1 + bt347.1)) then (if (wrap64 (bt347.2.1 + bt347.1)) ≤ (a0.size : Int) then (some (a0.extract (bt347.2.1 : Int).toNat ((wrap64 (bt347.2.1 + bt347.1)) : Int).toNat, wrap64 (bt347.2.1 + bt347.1), true)) else (none)) else (none)) else (none)))) else (some ((⟨#[]⟩ : ByteArray), 0, false)))
set_option maxHeartbeats 8000000 in
set_option maxRecDepth 100000 in
theorem impl_ReadShort.calls (k : Nat) (a0 : ByteArray) (a1 : Int) (r1 : ByteArray) (r2 : Int) (r3 : Bool) (w : World) (h : impl_ReadShort.f k a0 a1 = some (r1, r2, r3)) :
  Calls Try.prog 105 #[.string a0, .int .i64 a1] w fun e w' => e = .returned (.tuple #[.string r1, .int .i64 r2, .bool r3]) ∧ Drawn0 w w' := by
 have H : ((impl_ReadVar.f k a0 a1).bind fun bt347 => (if bt347.2.2 = true then (if bt347.1 > 20000 then (some ((⟨#[]⟩ : ByteArray), 0, false)) else (if bt347.1 > (wrap64 ((a0.size : Int) - bt347.2.1)) then (some ((⟨#[]⟩ : ByteArray), 0, false)) else (if 0 ≤ bt347.2.1 then (if bt347.2.1 ≤ (wrap64 (bt347.2.1 + bt347.1)) then (if (wrap64 (bt347.2.1 + bt347.1)) ≤ (a0.size : Int) then (some (a0.extract (bt347.2.1 : Int).toNat ((wrap64 (bt347.2.1 + bt347.1)) : Int).toNat, wrap64 (bt347.2.1 + bt347.1), true)) else (none)) else (none)) else (none)))) else (some ((⟨#[]⟩ : ByteArray), 0, false)))) = some (r1, r2, r3) := h
 clear h
 replace H := Option.bind_eq_some_iff.mp H
 obtain ⟨⟨t347, t348, t349⟩, A30, H⟩ := H
 dsimp only at H
 have A3 := vA A30
 clear A30
 go_enter Try.func105, Try.ntmps105
 go_wp2_with (first | ((with_reducible refine gate_callee (f := 152) rfl ?_); refine goesL_ (some 13) rfl rfl Try.func152 (by kernel_rfl) rfl #[.string a0, .int .i64 a1] rfl qm ?_; (with_reducible refine (impl_ReadVar.calls k a0 a1 t347 t348 t349 _ A3.out).mono ?_)))
 first | rintro e w' rfl ⟨nd, rfl⟩ | rintro e w' ⟨rfl, ⟨nd, rfl⟩⟩
 refine ⟨_, rfl, ?_⟩
 by_cases c4 : t349 = true
 ·subst c4
  rw [if_pos rfl] at H
  by_cases c5 : t347 > 20000
  ·rw [if_pos c5] at H
   have c5b0 : decide (20000 < t347) = true := decide_eq_true c5; clear c5
   simp only [Option.some.injEq, Prod.mk.injEq] at H
   obtain ⟨rfl, rfl, rfl⟩ := H
   go_wp2
   go_ret3
   exact ⟨qz, qd⟩
  ·rw [if_neg c5] at H
   have c5b0 : decide (20000 < t347) = false := decide_eq_false c5; clear c5
   by_cases c6 : t347 > (wrap64 ((a0.size : Int) - t348))
   ·rw [if_pos c6] at H
    have c6b0 : decide ((wrap64 ((a0.size : Int) - t348)) < t347) = true := decide_eq_true c6; clear c6
    simp only [Option.some.injEq, Prod.mk.injEq] at H
    obtain ⟨rfl, rfl, rfl⟩ := H
    go_wp2
    go_ret3
    exact ⟨qz, qd⟩
   ·rw [if_neg c6] at H
    have c6b0 : decide ((wrap64 ((a0.size : Int) - t348)) < t347) = false := decide_eq_false c6; clear c6
    by_cases c7 : 0 ≤ t348
    ·rw [if_pos c7] at H
     have c7b0 := eq_true c7; have c7b1 : decide (0 ≤ t348) = true := decide_eq_true c7; clear c7
     by_cases c8 : t348 ≤ (wrap64 (t348 + t347))
     ·rw [if_pos c8] at H
      have c8b0 := eq_true c8; have c8b1 : decide (t348 ≤ (wrap64 (t348 + t347))) = true := decide_eq_true c8
      by_cases c9 : (wrap64 (t348 + t347)) ≤ (a0.size : Int)
      ·rw [if_pos c9] at H
       have c9b0 := eq_true c9; have c9b1 : decide ((wrap64 (t348 + t347)) ≤ (a0.size : Int)) = true := decide_eq_true c9
       simp only [Option.some.injEq, Prod.mk.injEq] at H
       obtain ⟨rfl, rfl, rfl⟩ := H
       go_wp2
       go_ret3
       exact ⟨qz, qd⟩
      ·rw [if_neg c9] at H
       exact absurd H (by simp)
     ·rw [if_neg c8] at H
      exact absurd H (by simp)
    ·rw [if_neg c7] at H
     exact absurd H (by simp)
 ·replace c4 := Bool.eq_false_iff.mpr c4
  subst c4
  rw [if_neg (show ¬ (false = true) by decide)] at H
  simp only [Option.some.injEq, Prod.mk.injEq] at H
  obtain ⟨rfl, rfl, rfl⟩ := H
  go_wp2
  go_ret3
  exact ⟨qz, qd⟩

end Go.Proofs.Ytdnbpapolckklaa.PFnExactDiskOf
