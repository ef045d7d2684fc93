/-
  Decimal of the program and of the reference.
-/
import Derived.Test.YteaelbgnnlgnfaaApp
namespace Go.Proofs.Yteaelbgnnlgnfaa
open Go.ChangeShapes Go.WideShapes Go.ChangeAt Go.RowKit
set_option linter.unusedVariables false
set_option linter.unusedSimpArgs false
set_option maxRecDepth 20000

/-- The decimal digits of a number that is not 0. -/
def dz (n : Nat) : List UInt8 := if h : n = 0 then [] else dz (n / 10) ++ [UInt8.ofNat (48 + n % 10)]
termination_by n
decreasing_by omega
theorem dz_zero : dz 0 = [] := by unfold dz; simp
theorem dz_step (n : Nat) (h : n ≠ 0) : dz n = dz (n / 10) ++ [UInt8.ofNat (48 + n % 10)] := by
  rw [dz]; simp [h]
def dec (n : Int) : List UInt8 := (if n < 0 then [45] else []) ++ (if n = 0 then [48] else dz n.natAbs)
theorem figure_any (d : Int) (w : World) (h0 : 0 ≤ d) (h9 : d ≤ 9) :
    Calls Try.prog 43 #[.int .i64 d] w fun e w' => e = .returned (.int .u8 (48 + d)) ∧ w = w' := by
  go_enter Try.func43, Try.ntmps43
  go_wp2
  go_ret
  exact ⟨rfl, rfl⟩

theorem byte_eq (v : Int) (k : Nat) (h : v = (48 + k : Nat)) (hk : k ≤ 9) : byteCell (UInt8.ofNat (48 + k)) = [.int .u8 v] := by
  subst h
  unfold byteCell
  simp; omega
theorem u8Row : (Try.prog.info? 5).map (fun i => (i.zero, i.size, i.bytes)) = some (some (.int .u8 0), 1, 1) := by kernel_rfl
theorem byteCell_one (x : UInt8) : ∀ u ∈ byteCell x, u.oneCell' = true := by intro u hu; simp [byteCell] at hu; subst hu; rfl

theorem tdiv_bd (n : Int) (h : I64 n) : I64 (n.tdiv 10) ∧ IntKind.i64.wrap (n.tdiv 10) = n.tdiv 10 := by
  obtain ⟨a, b⟩ := h
  have e : (n.tdiv 10).natAbs = n.natAbs / 10 := by rw [Int.natAbs_tdiv]; rfl
  have h1 : I64 (n.tdiv 10) := by unfold I64; omega
  refine ⟨h1, ?_⟩
  obtain ⟨c, d⟩ := h1
  exact IntWalk.i64_in _ (by omega)
theorem tmod_bd (n : Int) : (-9 ≤ n.tmod 10 ∧ n.tmod 10 ≤ 9) ∧ (n.tmod 10).natAbs = n.natAbs % 10 := by
  have h : (n.tmod 10).natAbs = n.natAbs % 10 := by rw [Int.natAbs_tmod]; rfl
  exact ⟨by omega, h⟩

theorem dz_len : ∀ (k n : Nat), n < 10 ^ k → (dz n).length ≤ k
  | 0, n, h => by
    have : n = 0 := by simpa using h
    subst this; simp [dz_zero]
  | k + 1, n, h => by
    by_cases h0 : n = 0
    · subst h0; simp [dz_zero]
    · rw [dz_step n h0, List.length_append]
      have := dz_len k (n / 10) (by rw [Nat.pow_succ] at h; omega)
      simp; omega
theorem dz_len20 (n : Int) (h : I64 n) : (dz n.natAbs).length ≤ 19 := by
  obtain ⟨a, b⟩ := h
  exact dz_len 19 _ (by omega)
theorem dec_len (n : Int) (h : I64 n) : (dec n).length ≤ 20 := by
  have := dz_len20 n h
  unfold dec
  split <;> split <;> simp <;> omega

theorem spec_dec (n : Int) (w : World) (hn : I64 n) :
    Calls Try.prog 29 #[.int .i64 n] w fun e w' => e = .returned (.string (B (dec n))) ∧ Below w.heap.size w w' := by
  by_cases h0 : n = 0
  · subst h0
    go_enter Try.func29, Try.ntmps29
    go_wp2_with fail
    go_ret
    exact ⟨rfl, Below.refl _ _⟩
  · have h0' : (n == 0) = false := by simpa using h0
    have hd20 := dz_len20 n hn
    go_enter Try.func29, Try.ntmps29
    go_wp2_with fail
    go_loopw [0, 4] (fun m s wr => ∃ (q : Int) (l : List UInt8), I64 q ∧ m = .int .i64 q ∧ s = .string (B l) ∧ dz n.natAbs = dz q.natAbs ++ l ∧ Below w.heap.size w wr) (fun m _ _ => (intOf m).natAbs)
    case atStart => exact ⟨n, [], hn, rfl, rfl, by simp, Below.refl _ _⟩
    case round =>
      obtain ⟨q, l, hq, rfl, rfl, hd, hb⟩ := hrel
      have hl : (B l).size ≤ 20 := by
        have := congrArg List.length hd
        rw [List.length_append] at this
        show l.toArray.size ≤ 20
        rw [List.size_toArray]; omega
      by_cases hz : q = 0
      · subst hz
        have hfin : dec n = (if n < 0 then [45] else []) ++ l := by
          unfold dec
          rw [if_neg h0, hd]
          simp [dz_zero]
        clear hd
        have Hfin := Lib.hid hfin; clear hfin
        by_cases hneg : n < 0
        · go_wp2_with fail
          go_ret
          refine ⟨ret_str ?_, hb⟩
          rw [Hfin.out, if_pos hneg]
          exact B_append [45] l
        · go_wp2_with fail
          go_ret
          refine ⟨ret_str ?_, hb⟩
          rw [Hfin.out, if_neg (by omega)]; rfl
      · have hz' : (q == 0) = false := by simpa using hz
        have hstep := dz_step q.natAbs (by omega)
        rw [hstep] at hd
        clear hstep
        have Hd := Lib.hid hd; clear hd
        obtain ⟨⟨m1, m2⟩, m3⟩ := tmod_bd q
        obtain ⟨q1, q2⟩ := tdiv_bd q hq
        have q3 : (q.tdiv 10).natAbs = q.natAbs / 10 := by rw [Int.natAbs_tdiv]; rfl
        have q4 : q.natAbs / 10 < q.natAbs := by omega
        have Q1 := Lib.hid q1; clear q1
        have Q3 := Lib.hid q3; clear q3
        have M3 := Lib.hid m3; clear m3
        go_wp2_with fail
        · have hm : q.tmod 10 < 0 := by assumption
          refine (figure_any _ _ (by omega) (by omega)).mono ?_
          rintro e w' ⟨rfl, rfl⟩
          dsimp only
          have hbyte := byte_eq (48 + (-q.tmod 10)) (q.natAbs % 10) (by rw [← M3.out]; omega) (by omega)
          generalize (48 : Int) + (-q.tmod 10) = v at hbyte
          generalize UInt8.ofNat (48 + q.natAbs % 10) = c at hbyte Hd
          have hs1 : (B [c]).size = 1 := B_size _
          have Hbyte := Lib.hid hbyte; clear hbyte
          go_wp2_with ((with_reducible refine at_conv 34 9 ?_); refine wpl_str Try.underlying34 Try.underlying5 Try.underlying9 (by rfl) [c] rfl (Arr.built (by simp [Hbyte.out]) byteCell_len) ?_)
          rw [B_append]
          go_roundw
          case rel => exact ⟨q.tdiv 10, _, Q1.out, rfl, rfl, by rw [Hd.out, Q3.out, List.append_assoc], by repeat' (first | (with_reducible exact Below.refl _ _) | (with_reducible assumption) | (with_reducible refine Below.alloc ?_ ?_ _) | (with_reducible refine Below.ext ?_ ?_ _ _) | (with_reducible refine Below.drew ?_) | (with_reducible refine Below.setCell ?_ ?_ _) | (with_reducible refine below_setRow ?_ ?_ _) | omega | (have hsz_ := hb.size; omega) | (simp only [World.size_alloc, World.size_setCell, size_ext, size_setRow, size_drew]; first | omega | (have hsz_ := hb.size; omega)))⟩
          case measure =>
            show (q.tdiv 10).natAbs < q.natAbs
            rw [Q3.out]; exact q4
        · have hm : 0 ≤ q.tmod 10 := by assumption
          refine (figure_any _ _ (by omega) (by omega)).mono ?_
          rintro e w' ⟨rfl, rfl⟩
          dsimp only
          have hbyte := byte_eq (48 + (q.tmod 10)) (q.natAbs % 10) (by rw [← M3.out]; omega) (by omega)
          generalize (48 : Int) + (q.tmod 10) = v at hbyte
          generalize UInt8.ofNat (48 + q.natAbs % 10) = c at hbyte Hd
          have hs1 : (B [c]).size = 1 := B_size _
          have Hbyte := Lib.hid hbyte; clear hbyte
          go_wp2_with ((with_reducible refine at_conv 34 9 ?_); refine wpl_str Try.underlying34 Try.underlying5 Try.underlying9 (by rfl) [c] rfl (Arr.built (by simp [Hbyte.out]) byteCell_len) ?_)
          rw [B_append]
          go_roundw
          case rel => exact ⟨q.tdiv 10, _, Q1.out, rfl, rfl, by rw [Hd.out, Q3.out, List.append_assoc], by repeat' (first | (with_reducible exact Below.refl _ _) | (with_reducible assumption) | (with_reducible refine Below.alloc ?_ ?_ _) | (with_reducible refine Below.ext ?_ ?_ _ _) | (with_reducible refine Below.drew ?_) | (with_reducible refine Below.setCell ?_ ?_ _) | (with_reducible refine below_setRow ?_ ?_ _) | omega | (have hsz_ := hb.size; omega) | (simp only [World.size_alloc, World.size_setCell, size_ext, size_setRow, size_drew]; first | omega | (have hsz_ := hb.size; omega)))⟩
          case measure =>
            show (q.tdiv 10).natAbs < q.natAbs
            rw [Q3.out]; exact q4

theorem dec_eq (n : Int) (m : Nat) (l : List UInt8) (hm : m = n.natAbs) (hl : dz m = l ∨ (m = 0 ∧ l = [48])) (h0 : m = 0 → l = [48]) : (if n < 0 then [45] else []) ++ l = dec n := by
  subst hm
  unfold dec
  by_cases h : n = 0
  · subst h
    rw [h0 rfl]; rfl
  · rw [if_neg h]
    rcases hl with rfl | ⟨h1, _⟩
    · rfl
    · omega

theorem impl_dec (n : Int) (w : World) (hn : I64 n) :
    Calls Try.prog 30 #[.int .i64 n] w fun e w' => e = .returned (.string (B (dec n))) ∧ Below w.heap.size w w' := by
  have hd20 := dz_len20 n hn
  by_cases hn0 : n = 0
  · subst hn0
    go_enter Try.func30, Try.ntmps30
    go_wp2_with fail
    refine wp_loop_rounds 1 ?_
    rw [rounds_succ]
    go_wp2_with (first | ((with_reducible refine at_append 34 ?_); refine wpl_append (f := byteCell) (sz := 1) w.heap.size Try.underlying34 u8Row rfl (by decide) byteCell_len byteCell_one (by rfl) [(48 : UInt8)] rfl (OwnSl.built rfl byteCell_len (Nat.le_refl _) (by simp [maxLen])) (by rfl) [] rfl (bd := 0) (.inl rfl) (by simp [maxLen]) (by simp) (by simp) ?_; intro a' c' w' ho' hg ha; have hgb : Below w.heap.size w w' := grown_below ((Below.refl _ _).alloc (Nat.le_refl _) _) hg (by simp) (OwnSl.built (E := 5) (f := byteCell) (sz := 1) (xs := [48]) rfl byteCell_len (Nat.le_refl _) (by simp [maxLen])) rfl (Nat.le_refl _); have Har := Lib.hid (ho'.slAt byteCell_len).2.2; clear ho' hg ha) | ((with_reducible refine at_conv 34 9 ?_); refine wpl_str Try.underlying34 Try.underlying5 Try.underlying9 (by rfl) ([48] ++ []) rfl Har.out ?_))
    go_ret
    exact ⟨rfl, hgb⟩
  go_enter Try.func30, Try.ntmps30
  go_wp2_with fail
  -- q: what is still to be written; l: the digits behind it
  go_loopw [0, 3] (fun m s wr => ∃ (q : Int) (l : List UInt8) (a : Option Addr) (c : Nat), I64 q ∧ m = .int .i64 q ∧ s = .slice a l.length c ∧ OwnSl wr w.heap.size 5 byteCell 1 ⟨a, c, l⟩ ∧ dz n.natAbs = dz q.natAbs ++ l ∧ q ≠ 0 ∧ l.length ≤ 19 ∧ Below w.heap.size w wr) (fun m _ _ => (intOf m).natAbs)
  case atStart => exact ⟨n, [], none, 0, hn, rfl, rfl, OwnSl.nil, by simp, hn0, by simp, Below.refl _ _⟩
  case round =>
    obtain ⟨q, l, a, c, hq, rfl, rfl, ho, hd, hz, hl, hb⟩ := hrel
    obtain ⟨⟨m1, m2⟩, m3⟩ := tmod_bd q
    obtain ⟨q1, q2⟩ := tdiv_bd q hq
    have q3 : (q.tdiv 10).natAbs = q.natAbs / 10 := by rw [Int.natAbs_tdiv]; rfl
    have Q1 := Lib.hid q1; clear q1
    have Q3 := Lib.hid q3; clear q3
    have M3 := Lib.hid m3; clear m3
    have Hd := Lib.hid hd; clear hd
    have Hz := Lib.hid hz; clear hz
    have Ho := Lib.hid ho; clear ho
    -- the digits with the next one ahead
    have hnext : dz n.natAbs = dz (q.tdiv 10).natAbs ++ ([UInt8.ofNat (48 + q.natAbs % 10)] ++ l) := by
      rw [Hd.out, Q3.out, dz_step q.natAbs (by have := Hz.out; omega)]; simp
    have hfin : (q.tdiv 10).natAbs = 0 → (if n < 0 then [45] else []) ++ ([UInt8.ofNat (48 + q.natAbs % 10)] ++ l) = dec n := by
      intro h
      rw [h, dz_zero, List.nil_append] at hnext
      unfold dec
      rw [if_neg hn0, hnext]
    have q5 : wrap64 (q.tdiv 10) = q.tdiv 10 := IntWalk.wrap64_in _ (by obtain ⟨x1, x2⟩ := Q1.out; omega)
    have hdd : ∃ q', q.tdiv 10 = q' := ⟨_, rfl⟩
    obtain ⟨q', hqq⟩ := hdd
    rw [hqq] at Q1 Q3 hnext hfin
    have q2' : IntKind.i64.wrap (q.tdiv 10) = q' := q2.trans hqq
    have q5' : wrap64 (q.tdiv 10) = q' := q5.trans hqq
    clear q2 q5
    have Hqq := Lib.hid hqq; clear hqq
    by_cases hm : q.tmod 10 < 0
    · have hbyte := byte_eq (48 + (-q.tmod 10)) (q.natAbs % 10) (by rw [← M3.out]; omega) (by omega)
      generalize UInt8.ofNat (48 + q.natAbs % 10) = ch at hbyte hnext hfin
      have Hbyte := Lib.hid hbyte; clear hbyte
      have Hnext := Lib.hid hnext; clear hnext
      have Hfin := Lib.hid hfin; clear hfin
      have hsize := hb.size
      by_cases hz0 : q' = 0
      · have hz1 : (q' == 0) = true := by simpa using hz0
        have Hz0 := Lib.hid hz0; clear hz0
        go_wp2_with (first | ((with_reducible refine at_append 34 ?_); refine wpl_append (f := byteCell) (sz := 1) w.heap.size Try.underlying34 u8Row rfl (by decide) byteCell_len byteCell_one (by rfl) [ch] rfl (OwnSl.built (by simp [Hbyte.out]) byteCell_len hsize (by simp [maxLen])) (by rfl) l rfl (((Ho.out.slAt byteCell_len).2.2).keep (Below.alloc (Below.refl _ _) (Nat.le_refl _) _)) (by simp [maxLen]; omega) (by simp; omega) (by simp; omega) ?_; intro a' c' w' ho' hg ha; have hgb : Below w.heap.size w w' := grown_below (hb.alloc hsize _) hg (by simp; omega) (OwnSl.built (E := 5) (f := byteCell) (sz := 1) (xs := [ch]) (by simp [Hbyte.out]) byteCell_len hsize (by simp [maxLen])) rfl (Nat.le_refl _); have Har := Lib.hid (ho'.slAt byteCell_len).2.2; have hs2 : (B (ch :: l)).size ≤ 30 := (by rw [B_size, List.length_cons]; omega); clear ho' hg ha) | ((with_reducible refine at_conv 34 9 ?_); refine wpl_str Try.underlying34 Try.underlying5 Try.underlying9 (by rfl) (ch :: l) rfl Har.out ?_))
        all_goals
          go_ret
          refine ⟨ret_str ?_, hgb⟩
          rw [← Hfin.out (by rw [Hz0.out]; rfl)]
        · rw [if_pos (by assumption)]; exact B_append [45] _
        · rw [if_neg (by omega)]; rfl
      · have hz1 : (q' == 0) = false := by simpa using hz0
        have Hz0 := Lib.hid hz0; clear hz0
        go_wp2_with ((with_reducible refine at_append 34 ?_); refine wpl_append (f := byteCell) (sz := 1) w.heap.size Try.underlying34 u8Row rfl (by decide) byteCell_len byteCell_one (by rfl) [ch] rfl (OwnSl.built (by simp [Hbyte.out]) byteCell_len hsize (by simp [maxLen])) (by rfl) l rfl (((Ho.out.slAt byteCell_len).2.2).keep (Below.alloc (Below.refl _ _) (Nat.le_refl _) _)) (by simp [maxLen]; omega) (by simp; omega) (by simp; omega) ?_; intro a' c' w' ho' hg ha)
        have hgb : Below w.heap.size w w' := grown_below (hb.alloc hsize _) hg (by simp; omega) (OwnSl.built (E := 5) (f := byteCell) (sz := 1) (xs := [ch]) (by simp [Hbyte.out]) byteCell_len hsize (by simp [maxLen])) rfl (Nat.le_refl _)
        have Ho' := Lib.hid ho'
        clear ho' hg ha
        go_wp2_with fail
        go_roundw
        case rel => exact ⟨q', [ch] ++ l, a', c', Q1.out, rfl, rfl, Ho'.out, Hnext.out, Hz0.out, by have := congrArg List.length Hnext.out; rw [List.length_append] at this; omega, hgb⟩
        case measure =>
          show (q').natAbs < q.natAbs
          rw [Q3.out]
          have := Hz.out
          omega
    · have hbyte := byte_eq (48 + (q.tmod 10)) (q.natAbs % 10) (by rw [← M3.out]; omega) (by omega)
      generalize UInt8.ofNat (48 + q.natAbs % 10) = ch at hbyte hnext hfin
      have Hbyte := Lib.hid hbyte; clear hbyte
      have Hnext := Lib.hid hnext; clear hnext
      have Hfin := Lib.hid hfin; clear hfin
      have hsize := hb.size
      by_cases hz0 : q' = 0
      · have hz1 : (q' == 0) = true := by simpa using hz0
        have Hz0 := Lib.hid hz0; clear hz0
        go_wp2_with (first | ((with_reducible refine at_append 34 ?_); refine wpl_append (f := byteCell) (sz := 1) w.heap.size Try.underlying34 u8Row rfl (by decide) byteCell_len byteCell_one (by rfl) [ch] rfl (OwnSl.built (by simp [Hbyte.out]) byteCell_len hsize (by simp [maxLen])) (by rfl) l rfl (((Ho.out.slAt byteCell_len).2.2).keep (Below.alloc (Below.refl _ _) (Nat.le_refl _) _)) (by simp [maxLen]; omega) (by simp; omega) (by simp; omega) ?_; intro a' c' w' ho' hg ha; have hgb : Below w.heap.size w w' := grown_below (hb.alloc hsize _) hg (by simp; omega) (OwnSl.built (E := 5) (f := byteCell) (sz := 1) (xs := [ch]) (by simp [Hbyte.out]) byteCell_len hsize (by simp [maxLen])) rfl (Nat.le_refl _); have Har := Lib.hid (ho'.slAt byteCell_len).2.2; have hs2 : (B (ch :: l)).size ≤ 30 := (by rw [B_size, List.length_cons]; omega); clear ho' hg ha) | ((with_reducible refine at_conv 34 9 ?_); refine wpl_str Try.underlying34 Try.underlying5 Try.underlying9 (by rfl) (ch :: l) rfl Har.out ?_))
        all_goals
          go_ret
          refine ⟨ret_str ?_, hgb⟩
          rw [← Hfin.out (by rw [Hz0.out]; rfl)]
        · rw [if_pos (by assumption)]; exact B_append [45] _
        · rw [if_neg (by omega)]; rfl
      · have hz1 : (q' == 0) = false := by simpa using hz0
        have Hz0 := Lib.hid hz0; clear hz0
        go_wp2_with ((with_reducible refine at_append 34 ?_); refine wpl_append (f := byteCell) (sz := 1) w.heap.size Try.underlying34 u8Row rfl (by decide) byteCell_len byteCell_one (by rfl) [ch] rfl (OwnSl.built (by simp [Hbyte.out]) byteCell_len hsize (by simp [maxLen])) (by rfl) l rfl (((Ho.out.slAt byteCell_len).2.2).keep (Below.alloc (Below.refl _ _) (Nat.le_refl _) _)) (by simp [maxLen]; omega) (by simp; omega) (by simp; omega) ?_; intro a' c' w' ho' hg ha)
        have hgb : Below w.heap.size w w' := grown_below (hb.alloc hsize _) hg (by simp; omega) (OwnSl.built (E := 5) (f := byteCell) (sz := 1) (xs := [ch]) (by simp [Hbyte.out]) byteCell_len hsize (by simp [maxLen])) rfl (Nat.le_refl _)
        have Ho' := Lib.hid ho'
        clear ho' hg ha
        go_wp2_with fail
        go_roundw
        case rel => exact ⟨q', [ch] ++ l, a', c', Q1.out, rfl, rfl, Ho'.out, Hnext.out, Hz0.out, by have := congrArg List.length Hnext.out; rw [List.length_append] at this; omega, hgb⟩
        case measure =>
          show (q').natAbs < q.natAbs
          rw [Q3.out]
          have := Hz.out
          omega
end Go.Proofs.Yteaelbgnnlgnfaa
