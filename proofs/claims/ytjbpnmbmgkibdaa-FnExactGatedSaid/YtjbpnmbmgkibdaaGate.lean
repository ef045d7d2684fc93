/-
  BucketOk, BucketNew and MostIn at the bucket of rate 1 and burst 3, Gated of the program and of the reference, and the law's walk.
-/
import Derived.Test.YtjbpnmbmgkibdaaMostW
import Derived.Test.YtjbpnmbmgkibdaaTo
import Derived.Deep.RegionHeld3
namespace Go.Proofs.Ytjbpnmbmgkibdaa
open Go.ChangeShapes Go.WideShapes Go.ChangeAt Go.RowKit
set_option linter.unusedVariables false
set_option linter.unusedSimpArgs false
set_option maxRecDepth 20000

def bucketOk (b : BucketD) : Bool := inB b.rate 0 100 && inB b.burst 1 100 && inB b.cur 0 b.burst

theorem impl_bucketOk (b : BucketD) (w : World) :
    Calls Try.prog 59 #[b.val] w fun e w' => e = .returned (.bool (bucketOk b)) ∧ Below w.heap.size w w' := by
  unfold BucketD.val
  go_enter Try.func59, Try.ntmps59
  go_wp2_with (go_at_call 30; refine (within_any _ _ _ _).mono ?_; rintro e w' ⟨rfl, rfl⟩; dsimp only)
  all_goals
    go_ret
    refine ⟨ret_bool ?_, by repeat' (first | (with_reducible exact Below.refl _ _) | (with_reducible assumption) | (with_reducible refine Below.alloc ?_ ?_ _) | (with_reducible refine Below.ext ?_ ?_ _ _) | (with_reducible refine Below.drew ?_) | (with_reducible refine Below.setCell ?_ ?_ _) | (with_reducible refine below_setRow ?_ ?_ _) | omega | (have hsz_ := hb.size; omega) | (simp only [World.size_alloc, World.size_setCell, size_ext, size_setRow, size_drew]; first | omega | (have hsz_ := hb.size; omega)))⟩
    unfold bucketOk
    simp_all
theorem spec_bucketOk (b : BucketD) (w : World) :
    Calls Try.prog 58 #[b.val] w fun e w' => e = .returned (.bool (bucketOk b)) ∧ Below w.heap.size w w' := by
  unfold BucketD.val
  go_enter Try.func58, Try.ntmps58
  go_wp2_with (go_at_call 27; refine (l01In_any _ _ _ _).mono ?_; rintro e w' ⟨rfl, rfl⟩; dsimp only)
  all_goals
    go_ret
    refine ⟨ret_bool ?_, by repeat' (first | (with_reducible exact Below.refl _ _) | (with_reducible assumption) | (with_reducible refine Below.alloc ?_ ?_ _) | (with_reducible refine Below.ext ?_ ?_ _ _) | (with_reducible refine Below.drew ?_) | (with_reducible refine Below.setCell ?_ ?_ _) | (with_reducible refine below_setRow ?_ ?_ _) | omega | (have hsz_ := hb.size; omega) | (simp only [World.size_alloc, World.size_setCell, size_ext, size_setRow, size_drew]; first | omega | (have hsz_ := hb.size; omega)))⟩
    unfold bucketOk
    simp_all

theorem ok13 (c : Int) (h : 0 ≤ c) (h' : c ≤ 3) : bucketOk ⟨1, 3, c⟩ = true := by
  unfold bucketOk inB; simp; omega

theorem impl_mostIn (c t : Int) (w : World) (h : 0 ≤ c) (h' : c ≤ 3) (ht : 0 ≤ t) (ht' : t ≤ 1000) :
    Calls Try.prog 33 #[.agg #[.int .i64 1, .int .i64 3, .int .i64 c], .int .i64 t] w fun e w' => e = .returned (.int .i64 (3 + t)) ∧ Below w.heap.size w w' := by
  have h1 := ok13 c h h'
  have h2 : inB t 0 100000 = true := inB_iff.2 (by omega)
  go_enter Try.func33, Try.ntmps33
  go_wp2_with (first | fail | ((with_reducible refine at_load 36 ?_); refine wpl_load_blk sz_laws_Letter (by rfl) (by simp (disch := ((try simp only [World.size_alloc, World.size_setCell, size_ext, size_setRow, size_drew]); first | done | omega)) only [heap_at, heap_past, heap_ext, heap_ext_drew]; rfl) (by rfl) ?_) | ((with_reducible refine at_store 36 ?_); refine wpl_store_blk sz_laws_Letter (by rfl) (by rfl) (by simp (disch := ((try simp only [World.size_alloc, World.size_setCell, size_ext, size_setRow, size_drew]); first | done | omega)) only [heap_at, heap_past, heap_ext, heap_ext_drew]; rfl) (by rfl) (by rfl) (by rfl) ?_; simp (disch := ((try simp only [World.size_alloc, World.size_setCell, size_ext, size_setRow, size_drew]); first | done | omega)) only [setRow_at, setRow_past, setRow_ext, setRow_drew]) | ((with_reducible refine at_load 36 ?_); refine wpl_load_part sz_laws_Letter (by rfl) (by simp (disch := ((try simp only [World.size_alloc, World.size_setCell, size_ext, size_setRow, size_drew]); first | done | omega)) only [heap_at, heap_past, heap_ext, heap_ext_drew]; rfl) (by simp only [List.toList_toArray, List.take_succ_cons, List.take_zero, List.take_nil, List.drop_succ_cons, List.drop_zero, List.drop_nil, List.cons_append, List.nil_append, List.append_nil, Nat.reduceAdd]; rfl) (by rfl) ?_) | ((with_reducible refine at_store 36 ?_); refine wpl_store_part sz_laws_Letter (by rfl) (by rfl) (by simp (disch := ((try simp only [World.size_alloc, World.size_setCell, size_ext, size_setRow, size_drew]); first | done | omega)) only [heap_at, heap_past, heap_ext, heap_ext_drew]; rfl) (by simp) (by rfl) (by rfl) (by simp only [List.toList_toArray, List.take_succ_cons, List.take_zero, List.take_nil, List.drop_succ_cons, List.drop_zero, List.drop_nil, List.cons_append, List.nil_append, List.append_nil, Nat.reduceAdd]; rfl) ?_; simp (disch := ((try simp only [World.size_alloc, World.size_setCell, size_ext, size_setRow, size_drew]); first | done | omega)) only [setRow_at, setRow_past, setRow_ext, setRow_drew]) | ((with_reducible refine at_load 41 ?_); refine wpl_load_blk sz_impl_Letter (by rfl) (by simp (disch := ((try simp only [World.size_alloc, World.size_setCell, size_ext, size_setRow, size_drew]); first | done | omega)) only [heap_at, heap_past, heap_ext, heap_ext_drew]; rfl) (by rfl) ?_) | ((with_reducible refine at_store 41 ?_); refine wpl_store_blk sz_impl_Letter (by rfl) (by rfl) (by simp (disch := ((try simp only [World.size_alloc, World.size_setCell, size_ext, size_setRow, size_drew]); first | done | omega)) only [heap_at, heap_past, heap_ext, heap_ext_drew]; rfl) (by rfl) (by rfl) (by rfl) ?_; simp (disch := ((try simp only [World.size_alloc, World.size_setCell, size_ext, size_setRow, size_drew]); first | done | omega)) only [setRow_at, setRow_past, setRow_ext, setRow_drew]) | ((with_reducible refine at_load 41 ?_); refine wpl_load_part sz_impl_Letter (by rfl) (by simp (disch := ((try simp only [World.size_alloc, World.size_setCell, size_ext, size_setRow, size_drew]); first | done | omega)) only [heap_at, heap_past, heap_ext, heap_ext_drew]; rfl) (by simp only [List.toList_toArray, List.take_succ_cons, List.take_zero, List.take_nil, List.drop_succ_cons, List.drop_zero, List.drop_nil, List.cons_append, List.nil_append, List.append_nil, Nat.reduceAdd]; rfl) (by rfl) ?_) | ((with_reducible refine at_store 41 ?_); refine wpl_store_part sz_impl_Letter (by rfl) (by rfl) (by simp (disch := ((try simp only [World.size_alloc, World.size_setCell, size_ext, size_setRow, size_drew]); first | done | omega)) only [heap_at, heap_past, heap_ext, heap_ext_drew]; rfl) (by simp) (by rfl) (by rfl) (by simp only [List.toList_toArray, List.take_succ_cons, List.take_zero, List.take_nil, List.drop_succ_cons, List.drop_zero, List.drop_nil, List.cons_append, List.nil_append, List.append_nil, Nat.reduceAdd]; rfl) ?_; simp (disch := ((try simp only [World.size_alloc, World.size_setCell, size_ext, size_setRow, size_drew]); first | done | omega)) only [setRow_at, setRow_past, setRow_ext, setRow_drew]))
  refine (impl_bucketOk ⟨1, 3, c⟩ _).mono ?_
  rintro e w1 ⟨rfl, hb⟩
  obtain ⟨g, n, rfl⟩ := below_ext hb
  clear hb
  dsimp only
  go_wp2_with (first | fail | ((with_reducible refine at_load 36 ?_); refine wpl_load_blk sz_laws_Letter (by rfl) (by simp (disch := ((try simp only [World.size_alloc, World.size_setCell, size_ext, size_setRow, size_drew]); first | done | omega)) only [heap_at, heap_past, heap_ext, heap_ext_drew]; rfl) (by rfl) ?_) | ((with_reducible refine at_store 36 ?_); refine wpl_store_blk sz_laws_Letter (by rfl) (by rfl) (by simp (disch := ((try simp only [World.size_alloc, World.size_setCell, size_ext, size_setRow, size_drew]); first | done | omega)) only [heap_at, heap_past, heap_ext, heap_ext_drew]; rfl) (by rfl) (by rfl) (by rfl) ?_; simp (disch := ((try simp only [World.size_alloc, World.size_setCell, size_ext, size_setRow, size_drew]); first | done | omega)) only [setRow_at, setRow_past, setRow_ext, setRow_drew]) | ((with_reducible refine at_load 36 ?_); refine wpl_load_part sz_laws_Letter (by rfl) (by simp (disch := ((try simp only [World.size_alloc, World.size_setCell, size_ext, size_setRow, size_drew]); first | done | omega)) only [heap_at, heap_past, heap_ext, heap_ext_drew]; rfl) (by simp only [List.toList_toArray, List.take_succ_cons, List.take_zero, List.take_nil, List.drop_succ_cons, List.drop_zero, List.drop_nil, List.cons_append, List.nil_append, List.append_nil, Nat.reduceAdd]; rfl) (by rfl) ?_) | ((with_reducible refine at_store 36 ?_); refine wpl_store_part sz_laws_Letter (by rfl) (by rfl) (by simp (disch := ((try simp only [World.size_alloc, World.size_setCell, size_ext, size_setRow, size_drew]); first | done | omega)) only [heap_at, heap_past, heap_ext, heap_ext_drew]; rfl) (by simp) (by rfl) (by rfl) (by simp only [List.toList_toArray, List.take_succ_cons, List.take_zero, List.take_nil, List.drop_succ_cons, List.drop_zero, List.drop_nil, List.cons_append, List.nil_append, List.append_nil, Nat.reduceAdd]; rfl) ?_; simp (disch := ((try simp only [World.size_alloc, World.size_setCell, size_ext, size_setRow, size_drew]); first | done | omega)) only [setRow_at, setRow_past, setRow_ext, setRow_drew]) | ((with_reducible refine at_load 41 ?_); refine wpl_load_blk sz_impl_Letter (by rfl) (by simp (disch := ((try simp only [World.size_alloc, World.size_setCell, size_ext, size_setRow, size_drew]); first | done | omega)) only [heap_at, heap_past, heap_ext, heap_ext_drew]; rfl) (by rfl) ?_) | ((with_reducible refine at_store 41 ?_); refine wpl_store_blk sz_impl_Letter (by rfl) (by rfl) (by simp (disch := ((try simp only [World.size_alloc, World.size_setCell, size_ext, size_setRow, size_drew]); first | done | omega)) only [heap_at, heap_past, heap_ext, heap_ext_drew]; rfl) (by rfl) (by rfl) (by rfl) ?_; simp (disch := ((try simp only [World.size_alloc, World.size_setCell, size_ext, size_setRow, size_drew]); first | done | omega)) only [setRow_at, setRow_past, setRow_ext, setRow_drew]) | ((with_reducible refine at_load 41 ?_); refine wpl_load_part sz_impl_Letter (by rfl) (by simp (disch := ((try simp only [World.size_alloc, World.size_setCell, size_ext, size_setRow, size_drew]); first | done | omega)) only [heap_at, heap_past, heap_ext, heap_ext_drew]; rfl) (by simp only [List.toList_toArray, List.take_succ_cons, List.take_zero, List.take_nil, List.drop_succ_cons, List.drop_zero, List.drop_nil, List.cons_append, List.nil_append, List.append_nil, Nat.reduceAdd]; rfl) (by rfl) ?_) | ((with_reducible refine at_store 41 ?_); refine wpl_store_part sz_impl_Letter (by rfl) (by rfl) (by simp (disch := ((try simp only [World.size_alloc, World.size_setCell, size_ext, size_setRow, size_drew]); first | done | omega)) only [heap_at, heap_past, heap_ext, heap_ext_drew]; rfl) (by simp) (by rfl) (by rfl) (by simp only [List.toList_toArray, List.take_succ_cons, List.take_zero, List.take_nil, List.drop_succ_cons, List.drop_zero, List.drop_nil, List.cons_append, List.nil_append, List.append_nil, Nat.reduceAdd]; rfl) ?_; simp (disch := ((try simp only [World.size_alloc, World.size_setCell, size_ext, size_setRow, size_drew]); first | done | omega)) only [setRow_at, setRow_past, setRow_ext, setRow_drew]))
  refine (within_any _ _ _ _).mono ?_
  rintro e w' ⟨rfl, rfl⟩
  dsimp only
  go_wp2_with fail
  go_ret
  exact ⟨rfl, by repeat' (first | (with_reducible exact Below.refl _ _) | (with_reducible assumption) | (with_reducible refine Below.alloc ?_ ?_ _) | (with_reducible refine Below.ext ?_ ?_ _ _) | (with_reducible refine Below.drew ?_) | (with_reducible refine Below.setCell ?_ ?_ _) | (with_reducible refine below_setRow ?_ ?_ _) | omega | (have hsz_ := hb.size; omega) | (simp only [World.size_alloc, World.size_setCell, size_ext, size_setRow, size_drew]; first | omega | (have hsz_ := hb.size; omega)))⟩
theorem spec_mostIn (c t : Int) (w : World) (h : 0 ≤ c) (h' : c ≤ 3) (ht : 0 ≤ t) (ht' : t ≤ 1000) :
    Calls Try.prog 29 #[.agg #[.int .i64 1, .int .i64 3, .int .i64 c], .int .i64 t] w fun e w' => e = .returned (.int .i64 (3 + t)) ∧ Below w.heap.size w w' := by
  have h1 := ok13 c h h'
  have h2 : inB t 0 100000 = true := inB_iff.2 (by omega)
  go_enter Try.func29, Try.ntmps29
  go_wp2_with (first | fail | ((with_reducible refine at_load 36 ?_); refine wpl_load_blk sz_laws_Letter (by rfl) (by simp (disch := ((try simp only [World.size_alloc, World.size_setCell, size_ext, size_setRow, size_drew]); first | done | omega)) only [heap_at, heap_past, heap_ext, heap_ext_drew]; rfl) (by rfl) ?_) | ((with_reducible refine at_store 36 ?_); refine wpl_store_blk sz_laws_Letter (by rfl) (by rfl) (by simp (disch := ((try simp only [World.size_alloc, World.size_setCell, size_ext, size_setRow, size_drew]); first | done | omega)) only [heap_at, heap_past, heap_ext, heap_ext_drew]; rfl) (by rfl) (by rfl) (by rfl) ?_; simp (disch := ((try simp only [World.size_alloc, World.size_setCell, size_ext, size_setRow, size_drew]); first | done | omega)) only [setRow_at, setRow_past, setRow_ext, setRow_drew]) | ((with_reducible refine at_load 36 ?_); refine wpl_load_part sz_laws_Letter (by rfl) (by simp (disch := ((try simp only [World.size_alloc, World.size_setCell, size_ext, size_setRow, size_drew]); first | done | omega)) only [heap_at, heap_past, heap_ext, heap_ext_drew]; rfl) (by simp only [List.toList_toArray, List.take_succ_cons, List.take_zero, List.take_nil, List.drop_succ_cons, List.drop_zero, List.drop_nil, List.cons_append, List.nil_append, List.append_nil, Nat.reduceAdd]; rfl) (by rfl) ?_) | ((with_reducible refine at_store 36 ?_); refine wpl_store_part sz_laws_Letter (by rfl) (by rfl) (by simp (disch := ((try simp only [World.size_alloc, World.size_setCell, size_ext, size_setRow, size_drew]); first | done | omega)) only [heap_at, heap_past, heap_ext, heap_ext_drew]; rfl) (by simp) (by rfl) (by rfl) (by simp only [List.toList_toArray, List.take_succ_cons, List.take_zero, List.take_nil, List.drop_succ_cons, List.drop_zero, List.drop_nil, List.cons_append, List.nil_append, List.append_nil, Nat.reduceAdd]; rfl) ?_; simp (disch := ((try simp only [World.size_alloc, World.size_setCell, size_ext, size_setRow, size_drew]); first | done | omega)) only [setRow_at, setRow_past, setRow_ext, setRow_drew]) | ((with_reducible refine at_load 41 ?_); refine wpl_load_blk sz_impl_Letter (by rfl) (by simp (disch := ((try simp only [World.size_alloc, World.size_setCell, size_ext, size_setRow, size_drew]); first | done | omega)) only [heap_at, heap_past, heap_ext, heap_ext_drew]; rfl) (by rfl) ?_) | ((with_reducible refine at_store 41 ?_); refine wpl_store_blk sz_impl_Letter (by rfl) (by rfl) (by simp (disch := ((try simp only [World.size_alloc, World.size_setCell, size_ext, size_setRow, size_drew]); first | done | omega)) only [heap_at, heap_past, heap_ext, heap_ext_drew]; rfl) (by rfl) (by rfl) (by rfl) ?_; simp (disch := ((try simp only [World.size_alloc, World.size_setCell, size_ext, size_setRow, size_drew]); first | done | omega)) only [setRow_at, setRow_past, setRow_ext, setRow_drew]) | ((with_reducible refine at_load 41 ?_); refine wpl_load_part sz_impl_Letter (by rfl) (by simp (disch := ((try simp only [World.size_alloc, World.size_setCell, size_ext, size_setRow, size_drew]); first | done | omega)) only [heap_at, heap_past, heap_ext, heap_ext_drew]; rfl) (by simp only [List.toList_toArray, List.take_succ_cons, List.take_zero, List.take_nil, List.drop_succ_cons, List.drop_zero, List.drop_nil, List.cons_append, List.nil_append, List.append_nil, Nat.reduceAdd]; rfl) (by rfl) ?_) | ((with_reducible refine at_store 41 ?_); refine wpl_store_part sz_impl_Letter (by rfl) (by rfl) (by simp (disch := ((try simp only [World.size_alloc, World.size_setCell, size_ext, size_setRow, size_drew]); first | done | omega)) only [heap_at, heap_past, heap_ext, heap_ext_drew]; rfl) (by simp) (by rfl) (by rfl) (by simp only [List.toList_toArray, List.take_succ_cons, List.take_zero, List.take_nil, List.drop_succ_cons, List.drop_zero, List.drop_nil, List.cons_append, List.nil_append, List.append_nil, Nat.reduceAdd]; rfl) ?_; simp (disch := ((try simp only [World.size_alloc, World.size_setCell, size_ext, size_setRow, size_drew]); first | done | omega)) only [setRow_at, setRow_past, setRow_ext, setRow_drew]))
  refine (spec_bucketOk ⟨1, 3, c⟩ _).mono ?_
  rintro e w1 ⟨rfl, hb⟩
  obtain ⟨g, n, rfl⟩ := below_ext hb
  clear hb
  dsimp only
  go_wp2_with (first | fail | ((with_reducible refine at_load 36 ?_); refine wpl_load_blk sz_laws_Letter (by rfl) (by simp (disch := ((try simp only [World.size_alloc, World.size_setCell, size_ext, size_setRow, size_drew]); first | done | omega)) only [heap_at, heap_past, heap_ext, heap_ext_drew]; rfl) (by rfl) ?_) | ((with_reducible refine at_store 36 ?_); refine wpl_store_blk sz_laws_Letter (by rfl) (by rfl) (by simp (disch := ((try simp only [World.size_alloc, World.size_setCell, size_ext, size_setRow, size_drew]); first | done | omega)) only [heap_at, heap_past, heap_ext, heap_ext_drew]; rfl) (by rfl) (by rfl) (by rfl) ?_; simp (disch := ((try simp only [World.size_alloc, World.size_setCell, size_ext, size_setRow, size_drew]); first | done | omega)) only [setRow_at, setRow_past, setRow_ext, setRow_drew]) | ((with_reducible refine at_load 36 ?_); refine wpl_load_part sz_laws_Letter (by rfl) (by simp (disch := ((try simp only [World.size_alloc, World.size_setCell, size_ext, size_setRow, size_drew]); first | done | omega)) only [heap_at, heap_past, heap_ext, heap_ext_drew]; rfl) (by simp only [List.toList_toArray, List.take_succ_cons, List.take_zero, List.take_nil, List.drop_succ_cons, List.drop_zero, List.drop_nil, List.cons_append, List.nil_append, List.append_nil, Nat.reduceAdd]; rfl) (by rfl) ?_) | ((with_reducible refine at_store 36 ?_); refine wpl_store_part sz_laws_Letter (by rfl) (by rfl) (by simp (disch := ((try simp only [World.size_alloc, World.size_setCell, size_ext, size_setRow, size_drew]); first | done | omega)) only [heap_at, heap_past, heap_ext, heap_ext_drew]; rfl) (by simp) (by rfl) (by rfl) (by simp only [List.toList_toArray, List.take_succ_cons, List.take_zero, List.take_nil, List.drop_succ_cons, List.drop_zero, List.drop_nil, List.cons_append, List.nil_append, List.append_nil, Nat.reduceAdd]; rfl) ?_; simp (disch := ((try simp only [World.size_alloc, World.size_setCell, size_ext, size_setRow, size_drew]); first | done | omega)) only [setRow_at, setRow_past, setRow_ext, setRow_drew]) | ((with_reducible refine at_load 41 ?_); refine wpl_load_blk sz_impl_Letter (by rfl) (by simp (disch := ((try simp only [World.size_alloc, World.size_setCell, size_ext, size_setRow, size_drew]); first | done | omega)) only [heap_at, heap_past, heap_ext, heap_ext_drew]; rfl) (by rfl) ?_) | ((with_reducible refine at_store 41 ?_); refine wpl_store_blk sz_impl_Letter (by rfl) (by rfl) (by simp (disch := ((try simp only [World.size_alloc, World.size_setCell, size_ext, size_setRow, size_drew]); first | done | omega)) only [heap_at, heap_past, heap_ext, heap_ext_drew]; rfl) (by rfl) (by rfl) (by rfl) ?_; simp (disch := ((try simp only [World.size_alloc, World.size_setCell, size_ext, size_setRow, size_drew]); first | done | omega)) only [setRow_at, setRow_past, setRow_ext, setRow_drew]) | ((with_reducible refine at_load 41 ?_); refine wpl_load_part sz_impl_Letter (by rfl) (by simp (disch := ((try simp only [World.size_alloc, World.size_setCell, size_ext, size_setRow, size_drew]); first | done | omega)) only [heap_at, heap_past, heap_ext, heap_ext_drew]; rfl) (by simp only [List.toList_toArray, List.take_succ_cons, List.take_zero, List.take_nil, List.drop_succ_cons, List.drop_zero, List.drop_nil, List.cons_append, List.nil_append, List.append_nil, Nat.reduceAdd]; rfl) (by rfl) ?_) | ((with_reducible refine at_store 41 ?_); refine wpl_store_part sz_impl_Letter (by rfl) (by rfl) (by simp (disch := ((try simp only [World.size_alloc, World.size_setCell, size_ext, size_setRow, size_drew]); first | done | omega)) only [heap_at, heap_past, heap_ext, heap_ext_drew]; rfl) (by simp) (by rfl) (by rfl) (by simp only [List.toList_toArray, List.take_succ_cons, List.take_zero, List.take_nil, List.drop_succ_cons, List.drop_zero, List.drop_nil, List.cons_append, List.nil_append, List.append_nil, Nat.reduceAdd]; rfl) ?_; simp (disch := ((try simp only [World.size_alloc, World.size_setCell, size_ext, size_setRow, size_drew]); first | done | omega)) only [setRow_at, setRow_past, setRow_ext, setRow_drew]))
  refine (l01In_any _ _ _ _).mono ?_
  rintro e w' ⟨rfl, rfl⟩
  dsimp only
  go_wp2_with fail
  go_ret
  exact ⟨rfl, by repeat' (first | (with_reducible exact Below.refl _ _) | (with_reducible assumption) | (with_reducible refine Below.alloc ?_ ?_ _) | (with_reducible refine Below.ext ?_ ?_ _ _) | (with_reducible refine Below.drew ?_) | (with_reducible refine Below.setCell ?_ ?_ _) | (with_reducible refine below_setRow ?_ ?_ _) | omega | (have hsz_ := hb.size; omega) | (simp only [World.size_alloc, World.size_setCell, size_ext, size_setRow, size_drew]; first | omega | (have hsz_ := hb.size; omega)))⟩
theorem impl_bucketNew13 (w : World) :
    Calls Try.prog 31 #[.int .i64 1, .int .i64 3] w fun e w' => e = .returned (.tuple #[.agg #[.int .i64 1, .int .i64 3, .int .i64 3], .bool true]) ∧ Below w.heap.size w w' := by
  have h1 := ok13 3 (by omega) (by omega)
  go_enter Try.func31, Try.ntmps31
  go_wp2_with (first | fail | ((with_reducible refine at_load 36 ?_); refine wpl_load_blk sz_laws_Letter (by rfl) (by simp (disch := ((try simp only [World.size_alloc, World.size_setCell, size_ext, size_setRow, size_drew]); first | done | omega)) only [heap_at, heap_past, heap_ext, heap_ext_drew]; rfl) (by rfl) ?_) | ((with_reducible refine at_store 36 ?_); refine wpl_store_blk sz_laws_Letter (by rfl) (by rfl) (by simp (disch := ((try simp only [World.size_alloc, World.size_setCell, size_ext, size_setRow, size_drew]); first | done | omega)) only [heap_at, heap_past, heap_ext, heap_ext_drew]; rfl) (by rfl) (by rfl) (by rfl) ?_; simp (disch := ((try simp only [World.size_alloc, World.size_setCell, size_ext, size_setRow, size_drew]); first | done | omega)) only [setRow_at, setRow_past, setRow_ext, setRow_drew]) | ((with_reducible refine at_load 36 ?_); refine wpl_load_part sz_laws_Letter (by rfl) (by simp (disch := ((try simp only [World.size_alloc, World.size_setCell, size_ext, size_setRow, size_drew]); first | done | omega)) only [heap_at, heap_past, heap_ext, heap_ext_drew]; rfl) (by simp only [List.toList_toArray, List.take_succ_cons, List.take_zero, List.take_nil, List.drop_succ_cons, List.drop_zero, List.drop_nil, List.cons_append, List.nil_append, List.append_nil, Nat.reduceAdd]; rfl) (by rfl) ?_) | ((with_reducible refine at_store 36 ?_); refine wpl_store_part sz_laws_Letter (by rfl) (by rfl) (by simp (disch := ((try simp only [World.size_alloc, World.size_setCell, size_ext, size_setRow, size_drew]); first | done | omega)) only [heap_at, heap_past, heap_ext, heap_ext_drew]; rfl) (by simp) (by rfl) (by rfl) (by simp only [List.toList_toArray, List.take_succ_cons, List.take_zero, List.take_nil, List.drop_succ_cons, List.drop_zero, List.drop_nil, List.cons_append, List.nil_append, List.append_nil, Nat.reduceAdd]; rfl) ?_; simp (disch := ((try simp only [World.size_alloc, World.size_setCell, size_ext, size_setRow, size_drew]); first | done | omega)) only [setRow_at, setRow_past, setRow_ext, setRow_drew]) | ((with_reducible refine at_load 41 ?_); refine wpl_load_blk sz_impl_Letter (by rfl) (by simp (disch := ((try simp only [World.size_alloc, World.size_setCell, size_ext, size_setRow, size_drew]); first | done | omega)) only [heap_at, heap_past, heap_ext, heap_ext_drew]; rfl) (by rfl) ?_) | ((with_reducible refine at_store 41 ?_); refine wpl_store_blk sz_impl_Letter (by rfl) (by rfl) (by simp (disch := ((try simp only [World.size_alloc, World.size_setCell, size_ext, size_setRow, size_drew]); first | done | omega)) only [heap_at, heap_past, heap_ext, heap_ext_drew]; rfl) (by rfl) (by rfl) (by rfl) ?_; simp (disch := ((try simp only [World.size_alloc, World.size_setCell, size_ext, size_setRow, size_drew]); first | done | omega)) only [setRow_at, setRow_past, setRow_ext, setRow_drew]) | ((with_reducible refine at_load 41 ?_); refine wpl_load_part sz_impl_Letter (by rfl) (by simp (disch := ((try simp only [World.size_alloc, World.size_setCell, size_ext, size_setRow, size_drew]); first | done | omega)) only [heap_at, heap_past, heap_ext, heap_ext_drew]; rfl) (by simp only [List.toList_toArray, List.take_succ_cons, List.take_zero, List.take_nil, List.drop_succ_cons, List.drop_zero, List.drop_nil, List.cons_append, List.nil_append, List.append_nil, Nat.reduceAdd]; rfl) (by rfl) ?_) | ((with_reducible refine at_store 41 ?_); refine wpl_store_part sz_impl_Letter (by rfl) (by rfl) (by simp (disch := ((try simp only [World.size_alloc, World.size_setCell, size_ext, size_setRow, size_drew]); first | done | omega)) only [heap_at, heap_past, heap_ext, heap_ext_drew]; rfl) (by simp) (by rfl) (by rfl) (by simp only [List.toList_toArray, List.take_succ_cons, List.take_zero, List.take_nil, List.drop_succ_cons, List.drop_zero, List.drop_nil, List.cons_append, List.nil_append, List.append_nil, Nat.reduceAdd]; rfl) ?_; simp (disch := ((try simp only [World.size_alloc, World.size_setCell, size_ext, size_setRow, size_drew]); first | done | omega)) only [setRow_at, setRow_past, setRow_ext, setRow_drew]))
  refine (impl_bucketOk ⟨1, 3, 3⟩ _).mono ?_
  rintro e w1 ⟨rfl, hb⟩
  obtain ⟨g, n, rfl⟩ := below_ext hb
  clear hb
  dsimp only
  go_wp2_with (first | fail | ((with_reducible refine at_load 36 ?_); refine wpl_load_blk sz_laws_Letter (by rfl) (by simp (disch := ((try simp only [World.size_alloc, World.size_setCell, size_ext, size_setRow, size_drew]); first | done | omega)) only [heap_at, heap_past, heap_ext, heap_ext_drew]; rfl) (by rfl) ?_) | ((with_reducible refine at_store 36 ?_); refine wpl_store_blk sz_laws_Letter (by rfl) (by rfl) (by simp (disch := ((try simp only [World.size_alloc, World.size_setCell, size_ext, size_setRow, size_drew]); first | done | omega)) only [heap_at, heap_past, heap_ext, heap_ext_drew]; rfl) (by rfl) (by rfl) (by rfl) ?_; simp (disch := ((try simp only [World.size_alloc, World.size_setCell, size_ext, size_setRow, size_drew]); first | done | omega)) only [setRow_at, setRow_past, setRow_ext, setRow_drew]) | ((with_reducible refine at_load 36 ?_); refine wpl_load_part sz_laws_Letter (by rfl) (by simp (disch := ((try simp only [World.size_alloc, World.size_setCell, size_ext, size_setRow, size_drew]); first | done | omega)) only [heap_at, heap_past, heap_ext, heap_ext_drew]; rfl) (by simp only [List.toList_toArray, List.take_succ_cons, List.take_zero, List.take_nil, List.drop_succ_cons, List.drop_zero, List.drop_nil, List.cons_append, List.nil_append, List.append_nil, Nat.reduceAdd]; rfl) (by rfl) ?_) | ((with_reducible refine at_store 36 ?_); refine wpl_store_part sz_laws_Letter (by rfl) (by rfl) (by simp (disch := ((try simp only [World.size_alloc, World.size_setCell, size_ext, size_setRow, size_drew]); first | done | omega)) only [heap_at, heap_past, heap_ext, heap_ext_drew]; rfl) (by simp) (by rfl) (by rfl) (by simp only [List.toList_toArray, List.take_succ_cons, List.take_zero, List.take_nil, List.drop_succ_cons, List.drop_zero, List.drop_nil, List.cons_append, List.nil_append, List.append_nil, Nat.reduceAdd]; rfl) ?_; simp (disch := ((try simp only [World.size_alloc, World.size_setCell, size_ext, size_setRow, size_drew]); first | done | omega)) only [setRow_at, setRow_past, setRow_ext, setRow_drew]) | ((with_reducible refine at_load 41 ?_); refine wpl_load_blk sz_impl_Letter (by rfl) (by simp (disch := ((try simp only [World.size_alloc, World.size_setCell, size_ext, size_setRow, size_drew]); first | done | omega)) only [heap_at, heap_past, heap_ext, heap_ext_drew]; rfl) (by rfl) ?_) | ((with_reducible refine at_store 41 ?_); refine wpl_store_blk sz_impl_Letter (by rfl) (by rfl) (by simp (disch := ((try simp only [World.size_alloc, World.size_setCell, size_ext, size_setRow, size_drew]); first | done | omega)) only [heap_at, heap_past, heap_ext, heap_ext_drew]; rfl) (by rfl) (by rfl) (by rfl) ?_; simp (disch := ((try simp only [World.size_alloc, World.size_setCell, size_ext, size_setRow, size_drew]); first | done | omega)) only [setRow_at, setRow_past, setRow_ext, setRow_drew]) | ((with_reducible refine at_load 41 ?_); refine wpl_load_part sz_impl_Letter (by rfl) (by simp (disch := ((try simp only [World.size_alloc, World.size_setCell, size_ext, size_setRow, size_drew]); first | done | omega)) only [heap_at, heap_past, heap_ext, heap_ext_drew]; rfl) (by simp only [List.toList_toArray, List.take_succ_cons, List.take_zero, List.take_nil, List.drop_succ_cons, List.drop_zero, List.drop_nil, List.cons_append, List.nil_append, List.append_nil, Nat.reduceAdd]; rfl) (by rfl) ?_) | ((with_reducible refine at_store 41 ?_); refine wpl_store_part sz_impl_Letter (by rfl) (by rfl) (by simp (disch := ((try simp only [World.size_alloc, World.size_setCell, size_ext, size_setRow, size_drew]); first | done | omega)) only [heap_at, heap_past, heap_ext, heap_ext_drew]; rfl) (by simp) (by rfl) (by rfl) (by simp only [List.toList_toArray, List.take_succ_cons, List.take_zero, List.take_nil, List.drop_succ_cons, List.drop_zero, List.drop_nil, List.cons_append, List.nil_append, List.append_nil, Nat.reduceAdd]; rfl) ?_; simp (disch := ((try simp only [World.size_alloc, World.size_setCell, size_ext, size_setRow, size_drew]); first | done | omega)) only [setRow_at, setRow_past, setRow_ext, setRow_drew]))
  refine post_2 rfl (rv_cell sz_impl_Bucket rfl (by simp (disch := ((try simp only [World.size_alloc, World.size_setCell, size_ext, size_setRow, size_drew]); first | done | omega)) only [heap_at, heap_past, heap_ext, heap_ext_drew]; rfl) rfl) (rv_tmp rfl) rfl ⟨rfl, by repeat' (first | (with_reducible exact Below.refl _ _) | (with_reducible assumption) | (with_reducible refine Below.alloc ?_ ?_ _) | (with_reducible refine Below.ext ?_ ?_ _ _) | (with_reducible refine Below.drew ?_) | (with_reducible refine Below.setCell ?_ ?_ _) | (with_reducible refine below_setRow ?_ ?_ _) | omega | (have hsz_ := hb.size; omega) | (simp only [World.size_alloc, World.size_setCell, size_ext, size_setRow, size_drew]; first | omega | (have hsz_ := hb.size; omega)))⟩

def gatedUp (l : List Int) : Nat → Bool
  | 0 => true
  | k + 1 => gatedUp l k && decide (mostWithin l (k + 1) ≤ 3 + (k + 1))
def gated (l : List Int) (t : Int) : Bool := inB t 1 100 && gatedUp l t.toNat
theorem gatedUp_false (l : List Int) (k : Nat) (h : gatedUp l k = false) : ∀ n, k ≤ n → gatedUp l n = false := by
  intro n hn
  induction n with
  | zero => have : k = 0 := by omega
            subst this; exact h
  | succ n ih =>
    by_cases hk : k = n + 1
    · subst hk; exact h
    · unfold gatedUp; rw [ih (by omega)]; rfl

theorem spec_gated (A : Option Addr) (c : Nat) (xs : List Int) (t : Int) (w : World) (h : Arr w w.heap.size intCells 1 A xs) (hwf : ∀ x ∈ xs, I64 x) (hl : xs.length ≤ maxLen) :
    Calls Try.prog 8 #[.slice A xs.length c, .int .i64 t] w fun e w' => e = .returned (.bool (gated xs t)) ∧ Below w.heap.size w w' := by
  by_cases hin : inB t 1 100 = true
  · have hin' := inB_iff.1 hin
    have Hin := Lib.hid hin
    obtain ⟨T, rfl⟩ := Int.eq_ofNat_of_zero_le (a := t) (by omega)
    obtain ⟨hT1, hT2⟩ := hin'
    go_enter Try.func8, Try.ntmps8
    go_wp2_with (go_at_call 27; refine (l01In_any _ _ _ _).mono ?_; rintro e w' ⟨rfl, rfl⟩; dsimp only)
    go_loopw [5] (fun i wr => ∃ k : Nat, k ≤ T ∧ i = .int .i64 (k + 1 : Nat) ∧ gatedUp xs k = true ∧ Below w.heap.size w wr) (fun i _ => T + 1 - (intOf i).toNat)
    case atStart => exact ⟨0, by omega, rfl, rfl, Below.refl _ _⟩
    case round =>
      obtain ⟨k, hk, rfl, hg, hb⟩ := hrel
      have hnext : gatedUp xs (k + 1) = (gatedUp xs k && decide (mostWithin xs (k + 1) ≤ 3 + (k + 1))) := rfl
      rw [hg] at hnext
      have Hnext := Lib.hid hnext; clear hnext
      have Hg := Lib.hid hg; clear hg
      have ek : ((k + 1 : Nat) : Int) = (k : Int) + 1 := by omega
      rw [ek]
      clear ek
      by_cases hlt : k < T
      · go_wp2_with fail
        refine (spec_most A c xs _ _ ((h.keep hb).more hb.size) hwf hl).mono ?_
        rintro e w2 ⟨rfl, hb2⟩
        dsimp only
        go_wp2_with fail
        refine (spec_mostIn 0 _ _ (by omega) (by omega) (by omega) (by omega)).mono ?_
        rintro e w3 ⟨rfl, hb3⟩
        dsimp only
        have hb3' : Below w.heap.size w w3 := (hb.trans (hb2.mono hb.size)).trans (hb3.mono (by have := hb.size; have := hb2.size; omega))
        clear hb hb2 hb3
        by_cases hm : mostWithin xs (k + 1) ≤ 3 + ((k : Int) + 1)
        · have Hm := Lib.hid hm
          go_wp2_with fail
          go_roundw
          case rel => exact ⟨k + 1, by omega, by go_num, by rw [Hnext.out, decide_eq_true Hm.out]; rfl, hb3'⟩
          case measure => simp [intOf]; omega
        · have Hm := Lib.hid hm
          go_wp2_with fail
          go_ret
          refine ⟨ret_bool ?_, hb3'⟩
          have := gatedUp_false xs (k + 1) (by rw [Hnext.out, decide_eq_false (by have := Hm.out; omega)]; rfl) T (by omega)
          unfold gated
          rw [Int.toNat_natCast, this, Bool.and_false]
      · have : k = T := by omega
        subst this
        go_wp2_with fail
        go_ret
        refine ⟨ret_bool ?_, hb⟩
        unfold gated
        rw [Int.toNat_natCast, Hg.out, Hin.out]; rfl
  · have hin' : inB t 1 100 = false := by simpa using hin
    have hfin : gated xs t = false := by unfold gated; rw [hin']; rfl
    have Hfin := Lib.hid hfin; clear hfin hin
    go_enter Try.func8, Try.ntmps8
    go_wp2_with (go_at_call 27; refine (l01In_any _ _ _ _).mono ?_; rintro e w' ⟨rfl, rfl⟩; dsimp only)
    go_ret
    exact ⟨ret_bool Hfin.out.symm, Below.refl _ _⟩

theorem bk_keep {w w1 w2 : World} {N : Nat} {c0 c1 c2 : Value} (hb2 : Below w1.heap.size w1 w2)
    (h : w1.cell? ⟨N, 0, none⟩ = some c0 ∧ w1.cell? ⟨N, 1, none⟩ = some c1 ∧ w1.cell? ⟨N, 2, none⟩ = some c2 ∧ Below w.heap.size w w1 ∧ N + 1 ≤ w1.heap.size) :
    w2.cell? ⟨N, 0, none⟩ = some c0 ∧ w2.cell? ⟨N, 1, none⟩ = some c1 ∧ w2.cell? ⟨N, 2, none⟩ = some c2 ∧ Below w.heap.size w w2 ∧ N + 1 ≤ w2.heap.size := by
  obtain ⟨h1, h2, h3, h4, h5⟩ := h
  have hlt : N < w1.heap.size := by omega
  exact ⟨(hb2.cell (p := ⟨N, 0, none⟩) hlt).trans h1, (hb2.cell (p := ⟨N, 1, none⟩) hlt).trans h2, (hb2.cell (p := ⟨N, 2, none⟩) hlt).trans h3, h4.trans (hb2.mono h4.size), by have := hb2.size; omega⟩

theorem gate_below {w w1 : World} {N : Nat} {c0 c1 c2 : Value}
    (hS : w1.cell? ⟨N, 0, none⟩ = some c0 ∧ w1.cell? ⟨N, 1, none⟩ = some c1 ∧ w1.cell? ⟨N, 2, none⟩ = some c2 ∧ Below w.heap.size w w1 ∧ N + 1 ≤ w1.heap.size) : Below w.heap.size w w1 := hS.2.2.2.1
theorem gate_arr {w w1 : World} {N : Nat} {c0 c1 c2 : Value} {A : Option Addr} {xs : List Int} (h : Arr w w.heap.size intCells 1 A xs)
    (hS : w1.cell? ⟨N, 0, none⟩ = some c0 ∧ w1.cell? ⟨N, 1, none⟩ = some c1 ∧ w1.cell? ⟨N, 2, none⟩ = some c2 ∧ Below w.heap.size w w1 ∧ N + 1 ≤ w1.heap.size) : Arr w1 w1.heap.size intCells 1 A xs :=
  (h.keep hS.2.2.2.1).more hS.2.2.2.1.size

theorem impl_gated (A : Option Addr) (c : Nat) (xs : List Int) (t : Int) (w : World) (h : Arr w w.heap.size intCells 1 A xs) (hwf : ∀ x ∈ xs, I64 x) (hl : xs.length ≤ maxLen) :
    Calls Try.prog 10 #[.slice A xs.length c, .int .i64 t] w fun e w' => e = .returned (.bool (gated xs t)) ∧ Below w.heap.size w w' := by
  by_cases hin : inB t 1 100 = true
  · have hin' := inB_iff.1 hin
    have Hin := Lib.hid hin
    obtain ⟨T, rfl⟩ := Int.eq_ofNat_of_zero_le (a := t) (by omega)
    obtain ⟨hT1, hT2⟩ := hin'
    go_enter Try.func10, Try.ntmps10
    go_wp2_with (go_at_call 30; refine (within_any _ _ _ _).mono ?_; rintro e w' ⟨rfl, rfl⟩; dsimp only)
    refine (impl_bucketNew13 _).mono ?_
    rintro e w1 ⟨rfl, hb1⟩
    dsimp only
    go_wp2_with fail
    clear hin
    have hs1 := hb1.size
    have hs0 : Below w.heap.size w (w1.alloc (.cells #[.int .i64 1, .int .i64 3, .int .i64 3] 57)) ∧ w1.heap.size + 1 ≤ (w1.alloc (.cells #[.int .i64 1, .int .i64 3, .int .i64 3] 57)).heap.size := ⟨hb1.alloc hs1 _, by simp⟩
    go_loopw [7] (fun i wr => ∃ k : Nat, k ≤ T ∧ i = .int .i64 (k + 1 : Nat) ∧ gatedUp xs k = true ∧ (wr.cell? ⟨w1.heap.size, 0, none⟩ = some (.int .i64 1) ∧ wr.cell? ⟨w1.heap.size, 1, none⟩ = some (.int .i64 3) ∧ wr.cell? ⟨w1.heap.size, 2, none⟩ = some (.int .i64 3) ∧ Below w.heap.size w wr ∧ w1.heap.size + 1 ≤ wr.heap.size)) (fun i _ => T + 1 - (intOf i).toNat)
    case atStart => exact ⟨0, by omega, rfl, rfl, by simp [go_sem], by simp [go_sem], by simp [go_sem], hs0.1, hs0.2⟩
    case round =>
      clear hs0
      obtain ⟨k, hk, rfl, hg, hS⟩ := hrel
      have hnext : gatedUp xs (k + 1) = (gatedUp xs k && decide (mostWithin xs (k + 1) ≤ 3 + (k + 1))) := rfl
      rw [hg] at hnext
      have Hnext := Lib.hid hnext; clear hnext
      have Hg := Lib.hid hg; clear hg
      have ek : ((k + 1 : Nat) : Int) = (k : Int) + 1 := by omega
      rw [ek]
      clear ek
      by_cases hlt : k < T
      · by_cases hm : mostWithin xs (k + 1) ≤ 3 + ((k : Int) + 1)
        · have Hm := Lib.hid hm
          go_wp2_with fail
          go_region_held3 (fun w' => w'.cell? ⟨w1.heap.size, 0, none⟩ = some (.int .i64 1) ∧ w'.cell? ⟨w1.heap.size, 1, none⟩ = some (.int .i64 3) ∧ w'.cell? ⟨w1.heap.size, 2, none⟩ = some (.int .i64 3) ∧ Below w.heap.size w w' ∧ w1.heap.size + 1 ≤ w'.heap.size) (first | assumption | exact ⟨hS.1, hS.2.1, hS.2.2.1, hS.2.2.2.1.drew, hS.2.2.2.2⟩)
            (first | (go_at_call 32; refine (impl_most A c xs _ _ (gate_arr h (by assumption)) hwf hl).mono ?_; rintro e w2 ⟨rfl, rfl⟩) | (go_at_call 33; refine (impl_mostIn 3 _ _ (by omega) (by omega) (by omega) (by omega)).mono ?_; rintro e w2 ⟨rfl, hb2⟩; have hS2 := bk_keep hb2 (by assumption)))
          go_wp2_with fail
          go_roundw
          case rel => exact ⟨k + 1, by omega, by go_num, by rw [Hnext.out, decide_eq_true Hm.out]; rfl, by assumption⟩
          case measure => simp [intOf]; omega
        · have Hm := Lib.hid hm
          go_wp2_with fail
          go_region_held3 (fun w' => w'.cell? ⟨w1.heap.size, 0, none⟩ = some (.int .i64 1) ∧ w'.cell? ⟨w1.heap.size, 1, none⟩ = some (.int .i64 3) ∧ w'.cell? ⟨w1.heap.size, 2, none⟩ = some (.int .i64 3) ∧ Below w.heap.size w w' ∧ w1.heap.size + 1 ≤ w'.heap.size) (first | assumption | exact ⟨hS.1, hS.2.1, hS.2.2.1, hS.2.2.2.1.drew, hS.2.2.2.2⟩)
            (first | (go_at_call 32; refine (impl_most A c xs _ _ (gate_arr h (by assumption)) hwf hl).mono ?_; rintro e w2 ⟨rfl, rfl⟩) | (go_at_call 33; refine (impl_mostIn 3 _ _ (by omega) (by omega) (by omega) (by omega)).mono ?_; rintro e w2 ⟨rfl, hb2⟩; have hS2 := bk_keep hb2 (by assumption)))
          go_wp2_with fail
          go_ret
          refine ⟨ret_bool ?_, gate_below (by assumption)⟩
          have := gatedUp_false xs (k + 1) (by rw [Hnext.out, decide_eq_false (by have := Hm.out; omega)]; rfl) T (by omega)
          unfold gated
          rw [Int.toNat_natCast, this, Bool.and_false]
      · have : k = T := by omega
        subst this
        go_wp2_with fail
        go_ret
        refine ⟨ret_bool ?_, hS.2.2.2.1⟩
        unfold gated
        rw [Int.toNat_natCast, Hg.out, Hin.out]; rfl
  · have hin' : inB t 1 100 = false := by simpa using hin
    have hfin : gated xs t = false := by unfold gated; rw [hin']; rfl
    have Hfin := Lib.hid hfin; clear hfin hin
    go_enter Try.func10, Try.ntmps10
    go_wp2_with (go_at_call 30; refine (within_any _ _ _ _).mono ?_; rintro e w' ⟨rfl, rfl⟩; dsimp only)
    go_ret
    exact ⟨ret_bool Hfin.out.symm, Below.refl _ _⟩

theorem fnExactGated_walk (w : World) (s : Sl Int) (h : SlAt w w.heap.size intCells 1 s) (hw : ∀ y ∈ s.l, I64 y) (t : Int) (ht : I64 t) :
    Calls Try.prog 3 #[.slice s.a s.l.length s.c, .int .i64 t] w fun e w' => e = .returned (.bool true) ∧ Below w.heap.size w w' := by
  have hl : s.l.length ≤ maxLen := by have := h.1; have := h.2.1; omega
  have hlu := hl
  unfold maxLen at hlu
  by_cases hn : s.l.length ≤ 1048576
  · go_enter Try.func3, Try.ntmps3
    go_wp2_with fail
    refine (toIntS_any s _ h hn).mono ?_
    rintro e w1 ⟨a1, c1, rfl, ho1, hb1⟩
    dsimp only
    go_wp2_with fail
    refine (spec_gated a1 c1 s.l t _ (ho1.slAt intCells_len).2.2 hw hl).mono ?_
    rintro e w2 ⟨rfl, hb2⟩
    dsimp only
    go_wp2_with fail
    have hB2 := hb1.trans (hb2.mono hb1.size)
    refine (toIntS_any s _ ((h.keep hB2).more hB2.size) hn).mono ?_
    rintro e w3 ⟨a3, c3, rfl, ho3, hb3⟩
    dsimp only
    go_wp2_with fail
    have hB3 := hB2.trans (hb3.mono hB2.size)
    refine (impl_gated a3 c3 s.l t _ (ho3.slAt intCells_len).2.2 hw hl).mono ?_
    rintro e w4 ⟨rfl, hb4⟩
    dsimp only
    go_wp2_with fail
    have hB4 := hB3.trans (hb4.mono hB3.size)
    refine (toIntS_any s _ ((h.keep hB4).more hB4.size) hn).mono ?_
    rintro e w5 ⟨a5, c5, rfl, ho5, hb5⟩
    dsimp only
    go_wp2_with fail
    have hB5 := hB4.trans (hb5.mono hB4.size)
    refine (eqIntS_any ⟨a3, c3, s.l⟩ ⟨a5, c5, s.l⟩ _ (((((ho3.slAt intCells_len).keep hb4).more hb4.size).keep hb5).more hb5.size) (ho5.slAt intCells_len) rfl).mono ?_
    rintro e w6 ⟨rfl, hb6⟩
    dsimp only
    go_wp2_with fail
    go_ret
    exact ⟨rfl, hB5.trans (hb6.mono hB5.size)⟩
  · go_enter Try.func3, Try.ntmps3
    go_wp2_with fail
    go_ret
    exact ⟨rfl, Below.refl _ _⟩
end Go.Proofs.Ytjbpnmbmgkibdaa
