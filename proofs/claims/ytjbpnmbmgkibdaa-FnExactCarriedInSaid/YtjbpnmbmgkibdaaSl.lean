/-
  The laws' helpers over slices of structs: copies, comparisons, sizes. Written by slices.py.
-/
import Derived.Test.YtjbpnmbmgkibdaaTo
import Derived.Test.YtjbpnmbmgkibdaaOwn
import Derived.StillTailTactics
namespace Go.Proofs.Ytjbpnmbmgkibdaa
open Go.ChangeShapes Go.WideShapes Go.ChangeAt Go.RowKit
set_option linter.unusedVariables false
set_option linter.unusedSimpArgs false
set_option maxRecDepth 20000

section
variable {P : Program} {w : World} {ops : Array Oper} {rest : List Oper} {a : Act} {Q : Act → Prop} {dst : Option Tmp} {ty ty' : TypeId} {x : Operand} {pos : String} {aft : Array Edge}
/-- A struct out of cells that are known, in a region that draws its order. -/
theorem wps_load {k : Nat} (hs : aggSize P ty = some k) {b off : Nat} (hx : a.eval x = .pointer (some ⟨b, off, none⟩)) (cs : List Value) (hn : cs.length = k)
    (hc : ∀ j v, cs[j]? = some v → w.cell? ⟨b, off + j, none⟩ = some v)
    (h : wpStill P ops w Q rest (a.put dst (.agg cs.toArray))) : wpStill P ops w Q (⟨dst, .load ty x, ty', pos, aft, none⟩ :: rest) a := by
  refine wpStill_step fun K hK => ?_
  simp only [Region.wanted, if_true, Oper.still, Oper.stillUpon]
  have hl := run_load_cells (P := P) (w := w) hs hn hc
  unfold execOp
  simp only [hx, Instr.loadAt, Instr.sureAddr, Sem.run_bind, Sem.run_pure, Result.andThen_ok, hl]
  exact ⟨trivial, hK _ h⟩
end

theorem eqTag_any (x : TagD) (w : World) :
    Calls Try.prog 57 #[x.val, x.val] w fun e w' => e = .returned (.bool true) ∧ Below w.heap.size w w' := by
  unfold TagD.val
  go_enter Try.func57, Try.ntmps57
  go_wp2_with (first | fail | ((with_reducible refine at_load 36 ?_); refine wpl_load_blk sz_laws_Letter (by rfl) (by simp (disch := ((try simp only [World.size_alloc, World.size_setCell, size_ext, size_setRow, size_drew]); first | done | omega)) only [heap_at, heap_past, heap_ext, heap_ext_drew]; rfl) (by rfl) ?_) | ((with_reducible refine at_store 36 ?_); refine wpl_store_blk sz_laws_Letter (by rfl) (by rfl) (by simp (disch := ((try simp only [World.size_alloc, World.size_setCell, size_ext, size_setRow, size_drew]); first | done | omega)) only [heap_at, heap_past, heap_ext, heap_ext_drew]; rfl) (by rfl) (by rfl) (by rfl) ?_; simp (disch := ((try simp only [World.size_alloc, World.size_setCell, size_ext, size_setRow, size_drew]); first | done | omega)) only [setRow_at, setRow_past, setRow_ext, setRow_drew]) | ((with_reducible refine at_load 36 ?_); refine wpl_load_part sz_laws_Letter (by rfl) (by simp (disch := ((try simp only [World.size_alloc, World.size_setCell, size_ext, size_setRow, size_drew]); first | done | omega)) only [heap_at, heap_past, heap_ext, heap_ext_drew]; rfl) (by simp only [List.toList_toArray, List.take_succ_cons, List.take_zero, List.take_nil, List.drop_succ_cons, List.drop_zero, List.drop_nil, List.cons_append, List.nil_append, List.append_nil, Nat.reduceAdd]; rfl) (by rfl) ?_) | ((with_reducible refine at_store 36 ?_); refine wpl_store_part sz_laws_Letter (by rfl) (by rfl) (by simp (disch := ((try simp only [World.size_alloc, World.size_setCell, size_ext, size_setRow, size_drew]); first | done | omega)) only [heap_at, heap_past, heap_ext, heap_ext_drew]; rfl) (by simp) (by rfl) (by rfl) (by simp only [List.toList_toArray, List.take_succ_cons, List.take_zero, List.take_nil, List.drop_succ_cons, List.drop_zero, List.drop_nil, List.cons_append, List.nil_append, List.append_nil, Nat.reduceAdd]; rfl) ?_; simp (disch := ((try simp only [World.size_alloc, World.size_setCell, size_ext, size_setRow, size_drew]); first | done | omega)) only [setRow_at, setRow_past, setRow_ext, setRow_drew]) | ((with_reducible refine at_load 41 ?_); refine wpl_load_blk sz_impl_Letter (by rfl) (by simp (disch := ((try simp only [World.size_alloc, World.size_setCell, size_ext, size_setRow, size_drew]); first | done | omega)) only [heap_at, heap_past, heap_ext, heap_ext_drew]; rfl) (by rfl) ?_) | ((with_reducible refine at_store 41 ?_); refine wpl_store_blk sz_impl_Letter (by rfl) (by rfl) (by simp (disch := ((try simp only [World.size_alloc, World.size_setCell, size_ext, size_setRow, size_drew]); first | done | omega)) only [heap_at, heap_past, heap_ext, heap_ext_drew]; rfl) (by rfl) (by rfl) (by rfl) ?_; simp (disch := ((try simp only [World.size_alloc, World.size_setCell, size_ext, size_setRow, size_drew]); first | done | omega)) only [setRow_at, setRow_past, setRow_ext, setRow_drew]) | ((with_reducible refine at_load 41 ?_); refine wpl_load_part sz_impl_Letter (by rfl) (by simp (disch := ((try simp only [World.size_alloc, World.size_setCell, size_ext, size_setRow, size_drew]); first | done | omega)) only [heap_at, heap_past, heap_ext, heap_ext_drew]; rfl) (by simp only [List.toList_toArray, List.take_succ_cons, List.take_zero, List.take_nil, List.drop_succ_cons, List.drop_zero, List.drop_nil, List.cons_append, List.nil_append, List.append_nil, Nat.reduceAdd]; rfl) (by rfl) ?_) | ((with_reducible refine at_store 41 ?_); refine wpl_store_part sz_impl_Letter (by rfl) (by rfl) (by simp (disch := ((try simp only [World.size_alloc, World.size_setCell, size_ext, size_setRow, size_drew]); first | done | omega)) only [heap_at, heap_past, heap_ext, heap_ext_drew]; rfl) (by simp) (by rfl) (by rfl) (by simp only [List.toList_toArray, List.take_succ_cons, List.take_zero, List.take_nil, List.drop_succ_cons, List.drop_zero, List.drop_nil, List.cons_append, List.nil_append, List.append_nil, Nat.reduceAdd]; rfl) ?_; simp (disch := ((try simp only [World.size_alloc, World.size_setCell, size_ext, size_setRow, size_drew]); first | done | omega)) only [setRow_at, setRow_past, setRow_ext, setRow_drew]))
  go_ret
  exact ⟨rfl, by repeat' (first | (with_reducible exact Below.refl _ _) | (with_reducible assumption) | (with_reducible refine Below.alloc ?_ ?_ _) | (with_reducible refine Below.ext ?_ ?_ _ _) | (with_reducible refine Below.drew ?_) | (with_reducible refine Below.setCell ?_ ?_ _) | (with_reducible refine below_setRow ?_ ?_ _) | omega | (have hsz_ := hb.size; omega) | (simp only [World.size_alloc, World.size_setCell, size_ext, size_setRow, size_drew]; first | omega | (have hsz_ := hb.size; omega)))⟩

theorem rowTag : (Try.prog.info? 39).map (fun i => (i.zero, i.size, i.bytes)) = some (some (.agg #[.int .i64 0, .int .i64 0, .int .i64 0, .int .i64 0, .int .i64 0]), 5, 40) := by kernel_rfl
theorem cellsTag_len (x : TagD) : (TagD.cells x).length = 5 := rfl
theorem cellsAddr_len (x : AddrD) : (AddrD.cells x).length = 4 := rfl
theorem cellsRoad_len (x : RoadD) : (RoadD.cells x).length = 3 := rfl
theorem eqPolicy_any (x : PolicyD) (w : World) :
    Calls Try.prog 23 #[x.val, x.val] w fun e w' => e = .returned (.bool true) ∧ Below w.heap.size w w' := by
  unfold PolicyD.val
  go_enter Try.func23, Try.ntmps23
  go_wp2_with (first | fail | ((with_reducible refine at_load 36 ?_); refine wpl_load_blk sz_laws_Letter (by rfl) (by simp (disch := ((try simp only [World.size_alloc, World.size_setCell, size_ext, size_setRow, size_drew]); first | done | omega)) only [heap_at, heap_past, heap_ext, heap_ext_drew]; rfl) (by rfl) ?_) | ((with_reducible refine at_store 36 ?_); refine wpl_store_blk sz_laws_Letter (by rfl) (by rfl) (by simp (disch := ((try simp only [World.size_alloc, World.size_setCell, size_ext, size_setRow, size_drew]); first | done | omega)) only [heap_at, heap_past, heap_ext, heap_ext_drew]; rfl) (by rfl) (by rfl) (by rfl) ?_; simp (disch := ((try simp only [World.size_alloc, World.size_setCell, size_ext, size_setRow, size_drew]); first | done | omega)) only [setRow_at, setRow_past, setRow_ext, setRow_drew]) | ((with_reducible refine at_load 36 ?_); refine wpl_load_part sz_laws_Letter (by rfl) (by simp (disch := ((try simp only [World.size_alloc, World.size_setCell, size_ext, size_setRow, size_drew]); first | done | omega)) only [heap_at, heap_past, heap_ext, heap_ext_drew]; rfl) (by simp only [List.toList_toArray, List.take_succ_cons, List.take_zero, List.take_nil, List.drop_succ_cons, List.drop_zero, List.drop_nil, List.cons_append, List.nil_append, List.append_nil, Nat.reduceAdd]; rfl) (by rfl) ?_) | ((with_reducible refine at_store 36 ?_); refine wpl_store_part sz_laws_Letter (by rfl) (by rfl) (by simp (disch := ((try simp only [World.size_alloc, World.size_setCell, size_ext, size_setRow, size_drew]); first | done | omega)) only [heap_at, heap_past, heap_ext, heap_ext_drew]; rfl) (by simp) (by rfl) (by rfl) (by simp only [List.toList_toArray, List.take_succ_cons, List.take_zero, List.take_nil, List.drop_succ_cons, List.drop_zero, List.drop_nil, List.cons_append, List.nil_append, List.append_nil, Nat.reduceAdd]; rfl) ?_; simp (disch := ((try simp only [World.size_alloc, World.size_setCell, size_ext, size_setRow, size_drew]); first | done | omega)) only [setRow_at, setRow_past, setRow_ext, setRow_drew]) | ((with_reducible refine at_load 41 ?_); refine wpl_load_blk sz_impl_Letter (by rfl) (by simp (disch := ((try simp only [World.size_alloc, World.size_setCell, size_ext, size_setRow, size_drew]); first | done | omega)) only [heap_at, heap_past, heap_ext, heap_ext_drew]; rfl) (by rfl) ?_) | ((with_reducible refine at_store 41 ?_); refine wpl_store_blk sz_impl_Letter (by rfl) (by rfl) (by simp (disch := ((try simp only [World.size_alloc, World.size_setCell, size_ext, size_setRow, size_drew]); first | done | omega)) only [heap_at, heap_past, heap_ext, heap_ext_drew]; rfl) (by rfl) (by rfl) (by rfl) ?_; simp (disch := ((try simp only [World.size_alloc, World.size_setCell, size_ext, size_setRow, size_drew]); first | done | omega)) only [setRow_at, setRow_past, setRow_ext, setRow_drew]) | ((with_reducible refine at_load 41 ?_); refine wpl_load_part sz_impl_Letter (by rfl) (by simp (disch := ((try simp only [World.size_alloc, World.size_setCell, size_ext, size_setRow, size_drew]); first | done | omega)) only [heap_at, heap_past, heap_ext, heap_ext_drew]; rfl) (by simp only [List.toList_toArray, List.take_succ_cons, List.take_zero, List.take_nil, List.drop_succ_cons, List.drop_zero, List.drop_nil, List.cons_append, List.nil_append, List.append_nil, Nat.reduceAdd]; rfl) (by rfl) ?_) | ((with_reducible refine at_store 41 ?_); refine wpl_store_part sz_impl_Letter (by rfl) (by rfl) (by simp (disch := ((try simp only [World.size_alloc, World.size_setCell, size_ext, size_setRow, size_drew]); first | done | omega)) only [heap_at, heap_past, heap_ext, heap_ext_drew]; rfl) (by simp) (by rfl) (by rfl) (by simp only [List.toList_toArray, List.take_succ_cons, List.take_zero, List.take_nil, List.drop_succ_cons, List.drop_zero, List.drop_nil, List.cons_append, List.nil_append, List.append_nil, Nat.reduceAdd]; rfl) ?_; simp (disch := ((try simp only [World.size_alloc, World.size_setCell, size_ext, size_setRow, size_drew]); first | done | omega)) only [setRow_at, setRow_past, setRow_ext, setRow_drew]))
  go_ret
  exact ⟨rfl, by repeat' (first | (with_reducible exact Below.refl _ _) | (with_reducible assumption) | (with_reducible refine Below.alloc ?_ ?_ _) | (with_reducible refine Below.ext ?_ ?_ _ _) | (with_reducible refine Below.drew ?_) | (with_reducible refine Below.setCell ?_ ?_ _) | (with_reducible refine below_setRow ?_ ?_ _) | omega | (have hsz_ := hb.size; omega) | (simp only [World.size_alloc, World.size_setCell, size_ext, size_setRow, size_drew]; first | omega | (have hsz_ := hb.size; omega)))⟩

theorem rowPolicy : (Try.prog.info? 45).map (fun i => (i.zero, i.size, i.bytes)) = some (some (.agg #[.int .i64 0, .int .i64 0]), 2, 16) := by kernel_rfl
theorem cellsPolicy_len (x : PolicyD) : (PolicyD.cells x).length = 2 := rfl
theorem rowBucket : (Try.prog.info? 57).map (fun i => (i.zero, i.size, i.bytes)) = some (some (.agg #[.int .i64 0, .int .i64 0, .int .i64 0]), 3, 24) := by kernel_rfl
theorem cellsBucket_len (x : BucketD) : (BucketD.cells x).length = 3 := rfl
theorem cellsOut_len (x : OutD) : (OutD.cells x).length = 4 := rfl
theorem cellsPiece_len (x : PieceD) : (PieceD.cells x).length = 2 := rfl
theorem cellsHalf_len (x : HalfD) : (HalfD.cells x).length = 8 := rfl
theorem cellsSub_len (x : SubD) : (SubD.cells x).length = 10 := rfl
theorem eqLetter_any (x : LetterD) (w : World) :
    Calls Try.prog 26 #[x.val, x.val] w fun e w' => e = .returned (.bool true) ∧ Below w.heap.size w w' := by
  unfold LetterD.val
  go_enter Try.func26, Try.ntmps26
  go_wp2_with (first | fail | ((with_reducible refine at_load 36 ?_); refine wpl_load_blk sz_laws_Letter (by rfl) (by simp (disch := ((try simp only [World.size_alloc, World.size_setCell, size_ext, size_setRow, size_drew]); first | done | omega)) only [heap_at, heap_past, heap_ext, heap_ext_drew]; rfl) (by rfl) ?_) | ((with_reducible refine at_store 36 ?_); refine wpl_store_blk sz_laws_Letter (by rfl) (by rfl) (by simp (disch := ((try simp only [World.size_alloc, World.size_setCell, size_ext, size_setRow, size_drew]); first | done | omega)) only [heap_at, heap_past, heap_ext, heap_ext_drew]; rfl) (by rfl) (by rfl) (by rfl) ?_; simp (disch := ((try simp only [World.size_alloc, World.size_setCell, size_ext, size_setRow, size_drew]); first | done | omega)) only [setRow_at, setRow_past, setRow_ext, setRow_drew]) | ((with_reducible refine at_load 36 ?_); refine wpl_load_part sz_laws_Letter (by rfl) (by simp (disch := ((try simp only [World.size_alloc, World.size_setCell, size_ext, size_setRow, size_drew]); first | done | omega)) only [heap_at, heap_past, heap_ext, heap_ext_drew]; rfl) (by simp only [List.toList_toArray, List.take_succ_cons, List.take_zero, List.take_nil, List.drop_succ_cons, List.drop_zero, List.drop_nil, List.cons_append, List.nil_append, List.append_nil, Nat.reduceAdd]; rfl) (by rfl) ?_) | ((with_reducible refine at_store 36 ?_); refine wpl_store_part sz_laws_Letter (by rfl) (by rfl) (by simp (disch := ((try simp only [World.size_alloc, World.size_setCell, size_ext, size_setRow, size_drew]); first | done | omega)) only [heap_at, heap_past, heap_ext, heap_ext_drew]; rfl) (by simp) (by rfl) (by rfl) (by simp only [List.toList_toArray, List.take_succ_cons, List.take_zero, List.take_nil, List.drop_succ_cons, List.drop_zero, List.drop_nil, List.cons_append, List.nil_append, List.append_nil, Nat.reduceAdd]; rfl) ?_; simp (disch := ((try simp only [World.size_alloc, World.size_setCell, size_ext, size_setRow, size_drew]); first | done | omega)) only [setRow_at, setRow_past, setRow_ext, setRow_drew]) | ((with_reducible refine at_load 41 ?_); refine wpl_load_blk sz_impl_Letter (by rfl) (by simp (disch := ((try simp only [World.size_alloc, World.size_setCell, size_ext, size_setRow, size_drew]); first | done | omega)) only [heap_at, heap_past, heap_ext, heap_ext_drew]; rfl) (by rfl) ?_) | ((with_reducible refine at_store 41 ?_); refine wpl_store_blk sz_impl_Letter (by rfl) (by rfl) (by simp (disch := ((try simp only [World.size_alloc, World.size_setCell, size_ext, size_setRow, size_drew]); first | done | omega)) only [heap_at, heap_past, heap_ext, heap_ext_drew]; rfl) (by rfl) (by rfl) (by rfl) ?_; simp (disch := ((try simp only [World.size_alloc, World.size_setCell, size_ext, size_setRow, size_drew]); first | done | omega)) only [setRow_at, setRow_past, setRow_ext, setRow_drew]) | ((with_reducible refine at_load 41 ?_); refine wpl_load_part sz_impl_Letter (by rfl) (by simp (disch := ((try simp only [World.size_alloc, World.size_setCell, size_ext, size_setRow, size_drew]); first | done | omega)) only [heap_at, heap_past, heap_ext, heap_ext_drew]; rfl) (by simp only [List.toList_toArray, List.take_succ_cons, List.take_zero, List.take_nil, List.drop_succ_cons, List.drop_zero, List.drop_nil, List.cons_append, List.nil_append, List.append_nil, Nat.reduceAdd]; rfl) (by rfl) ?_) | ((with_reducible refine at_store 41 ?_); refine wpl_store_part sz_impl_Letter (by rfl) (by rfl) (by simp (disch := ((try simp only [World.size_alloc, World.size_setCell, size_ext, size_setRow, size_drew]); first | done | omega)) only [heap_at, heap_past, heap_ext, heap_ext_drew]; rfl) (by simp) (by rfl) (by rfl) (by simp only [List.toList_toArray, List.take_succ_cons, List.take_zero, List.take_nil, List.drop_succ_cons, List.drop_zero, List.drop_nil, List.cons_append, List.nil_append, List.append_nil, Nat.reduceAdd]; rfl) ?_; simp (disch := ((try simp only [World.size_alloc, World.size_setCell, size_ext, size_setRow, size_drew]); first | done | omega)) only [setRow_at, setRow_past, setRow_ext, setRow_drew]))
  refine (eqTag_any x.tag _).mono ?_
  rintro e w1 ⟨rfl, hb⟩
  obtain ⟨g, n, rfl⟩ := below_ext hb
  clear hb
  dsimp only
  go_wp2_with (first | fail | ((with_reducible refine at_load 36 ?_); refine wpl_load_blk sz_laws_Letter (by rfl) (by simp (disch := ((try simp only [World.size_alloc, World.size_setCell, size_ext, size_setRow, size_drew]); first | done | omega)) only [heap_at, heap_past, heap_ext, heap_ext_drew]; rfl) (by rfl) ?_) | ((with_reducible refine at_store 36 ?_); refine wpl_store_blk sz_laws_Letter (by rfl) (by rfl) (by simp (disch := ((try simp only [World.size_alloc, World.size_setCell, size_ext, size_setRow, size_drew]); first | done | omega)) only [heap_at, heap_past, heap_ext, heap_ext_drew]; rfl) (by rfl) (by rfl) (by rfl) ?_; simp (disch := ((try simp only [World.size_alloc, World.size_setCell, size_ext, size_setRow, size_drew]); first | done | omega)) only [setRow_at, setRow_past, setRow_ext, setRow_drew]) | ((with_reducible refine at_load 36 ?_); refine wpl_load_part sz_laws_Letter (by rfl) (by simp (disch := ((try simp only [World.size_alloc, World.size_setCell, size_ext, size_setRow, size_drew]); first | done | omega)) only [heap_at, heap_past, heap_ext, heap_ext_drew]; rfl) (by simp only [List.toList_toArray, List.take_succ_cons, List.take_zero, List.take_nil, List.drop_succ_cons, List.drop_zero, List.drop_nil, List.cons_append, List.nil_append, List.append_nil, Nat.reduceAdd]; rfl) (by rfl) ?_) | ((with_reducible refine at_store 36 ?_); refine wpl_store_part sz_laws_Letter (by rfl) (by rfl) (by simp (disch := ((try simp only [World.size_alloc, World.size_setCell, size_ext, size_setRow, size_drew]); first | done | omega)) only [heap_at, heap_past, heap_ext, heap_ext_drew]; rfl) (by simp) (by rfl) (by rfl) (by simp only [List.toList_toArray, List.take_succ_cons, List.take_zero, List.take_nil, List.drop_succ_cons, List.drop_zero, List.drop_nil, List.cons_append, List.nil_append, List.append_nil, Nat.reduceAdd]; rfl) ?_; simp (disch := ((try simp only [World.size_alloc, World.size_setCell, size_ext, size_setRow, size_drew]); first | done | omega)) only [setRow_at, setRow_past, setRow_ext, setRow_drew]) | ((with_reducible refine at_load 41 ?_); refine wpl_load_blk sz_impl_Letter (by rfl) (by simp (disch := ((try simp only [World.size_alloc, World.size_setCell, size_ext, size_setRow, size_drew]); first | done | omega)) only [heap_at, heap_past, heap_ext, heap_ext_drew]; rfl) (by rfl) ?_) | ((with_reducible refine at_store 41 ?_); refine wpl_store_blk sz_impl_Letter (by rfl) (by rfl) (by simp (disch := ((try simp only [World.size_alloc, World.size_setCell, size_ext, size_setRow, size_drew]); first | done | omega)) only [heap_at, heap_past, heap_ext, heap_ext_drew]; rfl) (by rfl) (by rfl) (by rfl) ?_; simp (disch := ((try simp only [World.size_alloc, World.size_setCell, size_ext, size_setRow, size_drew]); first | done | omega)) only [setRow_at, setRow_past, setRow_ext, setRow_drew]) | ((with_reducible refine at_load 41 ?_); refine wpl_load_part sz_impl_Letter (by rfl) (by simp (disch := ((try simp only [World.size_alloc, World.size_setCell, size_ext, size_setRow, size_drew]); first | done | omega)) only [heap_at, heap_past, heap_ext, heap_ext_drew]; rfl) (by simp only [List.toList_toArray, List.take_succ_cons, List.take_zero, List.take_nil, List.drop_succ_cons, List.drop_zero, List.drop_nil, List.cons_append, List.nil_append, List.append_nil, Nat.reduceAdd]; rfl) (by rfl) ?_) | ((with_reducible refine at_store 41 ?_); refine wpl_store_part sz_impl_Letter (by rfl) (by rfl) (by simp (disch := ((try simp only [World.size_alloc, World.size_setCell, size_ext, size_setRow, size_drew]); first | done | omega)) only [heap_at, heap_past, heap_ext, heap_ext_drew]; rfl) (by simp) (by rfl) (by rfl) (by simp only [List.toList_toArray, List.take_succ_cons, List.take_zero, List.take_nil, List.drop_succ_cons, List.drop_zero, List.drop_nil, List.cons_append, List.nil_append, List.append_nil, Nat.reduceAdd]; rfl) ?_; simp (disch := ((try simp only [World.size_alloc, World.size_setCell, size_ext, size_setRow, size_drew]); first | done | omega)) only [setRow_at, setRow_past, setRow_ext, setRow_drew]))
  go_ret
  exact ⟨rfl, by repeat' (first | (with_reducible exact Below.refl _ _) | (with_reducible assumption) | (with_reducible refine Below.alloc ?_ ?_ _) | (with_reducible refine Below.ext ?_ ?_ _ _) | (with_reducible refine Below.drew ?_) | (with_reducible refine Below.setCell ?_ ?_ _) | (with_reducible refine below_setRow ?_ ?_ _) | omega | (have hsz_ := hb.size; omega) | (simp only [World.size_alloc, World.size_setCell, size_ext, size_setRow, size_drew]; first | omega | (have hsz_ := hb.size; omega)))⟩

theorem rowLetter : (Try.prog.info? 41).map (fun i => (i.zero, i.size, i.bytes)) = some (some (.agg #[.int .i64 0, .int .i64 0, .int .i64 0, .int .i64 0, .int .i64 0, .int .i64 0, .int .i64 0, .int .i64 0, .int .i64 0, .int .i64 0, .int .i64 0, .int .i64 0, .int .i64 0, .int .i64 0, .int .i64 0, .int .i64 0, .bool false, .int .i64 0, .string ⟨#[]⟩]), 19, 160) := by kernel_rfl
theorem cellsLetter_len (x : LetterD) : (LetterD.cells x).length = 19 := rfl
theorem toLetterS_any (s : Sl LetterD) (w : World) (h : SlAt w w.heap.size LetterD.cells 19 s) (hn : s.l.length ≤ 1048576) :
    Calls Try.prog 14 #[.slice s.a s.l.length s.c] w (RetSl w 41 LetterD.cells 19 s.l) := by
  obtain ⟨A, c, xs⟩ := s
  obtain ⟨h1, h2, h3⟩ := h
  dsimp only at h1 h2 h3 hn ⊢
  have hmk := make_rule (P := Try.prog) (t := 29) (e := 41) Try.underlying29 rowLetter xs.length (by omega) (by unfold maxLen; omega)
  go_enter Try.func14, Try.ntmps14
  go_wp2_with fail
  go_loopw [4] (fun i wr => ∃ k : Nat, k ≤ xs.length ∧ i = .int .i64 k ∧ Below w.heap.size w wr ∧ ∃ cs, wr.heap[w.heap.size]? = some (.cells cs 41 (0, 0)) ∧ Filled LetterD.cells 19 xs k cs) (fun i _ => xs.length - (intOf i).toNat)
  case atStart => exact ⟨0, Nat.zero_le _, rfl, by repeat' (first | (with_reducible exact Below.refl _ _) | (with_reducible assumption) | (with_reducible refine Below.alloc ?_ ?_ _) | (with_reducible refine Below.ext ?_ ?_ _ _) | (with_reducible refine Below.drew ?_) | (with_reducible refine Below.setCell ?_ ?_ _) | (with_reducible refine below_setRow ?_ ?_ _) | omega | (have hsz_ := hb.size; omega) | (simp only [World.size_alloc, World.size_setCell, size_ext, size_setRow, size_drew]; first | omega | (have hsz_ := hb.size; omega))), _, heap_at rfl, Filled.zero⟩
  case round =>
    obtain ⟨k, hk, rfl, hb, cs, hN, hF⟩ := hrel
    have hlt2 : w.heap.size < wr.heap.size := (Array.getElem?_eq_some_iff.1 hN).1
    by_cases hlt : k < xs.length
    · obtain ⟨b, off, rfl, hbl, hc⟩ := h3.round hlt
      have hck : ∀ j v, (LetterD.cells xs[k])[j]? = some v → wr.cell? ⟨b, off + k * 19 + j, none⟩ = some v := fun j v hv => by rw [hb.cell (by exact hbl)]; exact hc j v hv
      clear hc
      have Hck := Lib.hid hck; clear hck
      have HN := Lib.hid hN; clear hN
      have HF := Lib.hid hF; clear hF
      go_wp2_with ((with_reducible refine at_load 36 ?_); refine wpl_load sz_laws_Letter (by rfl) (LetterD.cells xs[k]) rfl Hck.out ?_)
      refine (toLetter_any xs[k] _).mono ?_
      rintro e w1 ⟨rfl, hb1⟩
      obtain ⟨g, n, rfl⟩ := below_ext hb1
      clear hb1
      dsimp only
      have hfit : k * 19 + 19 ≤ cs.size := by rw [HF.out.1]; have := Nat.mul_le_mul_right 19 hlt; omega
      go_wp2_with ((with_reducible refine at_store 41 ?_); refine wpl_store_part sz_impl_Letter (by rfl) (by rfl) ((heap_ext hlt2).trans HN.out) (by simpa using hfit) (by rfl) (by rfl) rfl ?_; simp (disch := ((try simp only [World.size_alloc, World.size_setCell, size_ext, size_setRow, size_drew]); first | done | omega)) only [setRow_at, setRow_past, setRow_ext, setRow_drew])
      go_roundw
      case rel =>
        refine ⟨k + 1, by omega, by go_num, by repeat' (first | (with_reducible exact Below.refl _ _) | (with_reducible assumption) | (with_reducible refine Below.alloc ?_ ?_ _) | (with_reducible refine Below.ext ?_ ?_ _ _) | (with_reducible refine Below.drew ?_) | (with_reducible refine Below.setCell ?_ ?_ _) | (with_reducible refine below_setRow ?_ ?_ _) | omega | (have hsz_ := hb.size; omega) | (simp only [World.size_alloc, World.size_setCell, size_ext, size_setRow, size_drew]; first | omega | (have hsz_ := hb.size; omega))), _, (heap_ext (by rw [size_setRow]; exact hlt2)).trans (setRow_heap _ _ _ _ _ _ HN.out), ?_⟩
        have := Filled.step (f := LetterD.cells) (fun _ => rfl) HF.out (List.getElem?_eq_getElem hlt)
        simpa [LetterD.cells] using this
      case measure => simp [intOf]; omega
    · have HN := Lib.hid hN; clear hN
      go_wp2_with fail
      go_ret
      exact ⟨some ⟨w.heap.size, 0, none⟩, xs.length, rfl, Filled.own cellsLetter_len hF (by omega) HN.out (Nat.le_refl _) (by unfold maxLen; omega), hb⟩

theorem eqLetterS_any (s t : Sl LetterD) (w : World) (h : SlAt w w.heap.size LetterD.cells 19 s) (h' : SlAt w w.heap.size LetterD.cells 19 t) (e : s.l = t.l) :
    Calls Try.prog 16 #[.slice s.a s.l.length s.c, .slice t.a t.l.length t.c] w fun e w' => e = .returned (.bool true) ∧ Below w.heap.size w w' := by
  obtain ⟨A, c, xs⟩ := s
  obtain ⟨A', c', ys⟩ := t
  obtain ⟨h1, h2, h3⟩ := h
  obtain ⟨h1', h2', h3'⟩ := h'
  dsimp only at h1 h2 h3 h1' h2' h3' e ⊢
  subst e
  unfold maxLen at h2
  have hne : ((xs.length : Int) != (xs.length : Int)) = false := by simp
  go_enter Try.func16, Try.ntmps16
  go_wp2_with fail
  go_loopw [5] (fun i wr => ∃ k : Nat, k ≤ xs.length ∧ i = .int .i64 k ∧ Below w.heap.size w wr) (fun i _ => xs.length - (intOf i).toNat)
  case atStart => exact ⟨0, Nat.zero_le _, rfl, Below.refl _ _⟩
  case round =>
    obtain ⟨k, hk, rfl, hb⟩ := hrel
    by_cases hlt : k < xs.length
    · obtain ⟨b, off, rfl, hbl, hc⟩ := h3.round hlt
      obtain ⟨b', off', rfl, hbl', hc'⟩ := h3'.round hlt
      have hck : ∀ j v, (LetterD.cells xs[k])[j]? = some v → wr.drew.cell? ⟨b, off + k * 19 + j, none⟩ = some v := fun j v hv => (hb.cell (by exact hbl)).trans (hc j v hv)
      have hck' : ∀ j v, (LetterD.cells xs[k])[j]? = some v → wr.drew.cell? ⟨b', off' + k * 19 + j, none⟩ = some v := fun j v hv => (hb.cell (by exact hbl')).trans (hc' j v hv)
      have Hck := Lib.hid hck; clear hck hc
      have Hck' := Lib.hid hck'; clear hck' hc'
      have hI : ((k : Int)) < (xs.length : Int) := by omega
      have hI0 : (0 : Int) ≤ (k : Int) := by omega
      go_wp2_with fail
      refine wp_region_still_tail 8 (by kernel_rfl) (by kernel_rfl) ?_
      simp only [List.take_succ_cons, List.take_zero, List.drop_succ_cons, List.drop_zero]
      still_step
      still_step
      still_step
      refine wps_load sz_impl_Letter (by rfl) (LetterD.cells xs[k]) rfl Hck.out ?_
      still_step
      still_step
      still_step
      refine wps_load sz_impl_Letter (by rfl) (LetterD.cells xs[k]) rfl Hck'.out ?_
      refine wpStill_nil ?_
      change wpList _ _ _ _ _ wr.drew
      go_wp2_with fail
      refine (eqLetter_any xs[k] _).mono ?_
      rintro e w1 ⟨rfl, hb1⟩
      dsimp only
      go_wp2_with fail
      go_roundw
      case rel => exact ⟨k + 1, by omega, by go_num, hb.drew.trans (hb1.mono hb.size)⟩
      case measure => simp [intOf]; omega
    · go_wp2_with fail
      go_ret
      exact ⟨rfl, hb⟩

theorem cellsAct_len (x : ActD) : (ActD.cells x).length = 28 := rfl
end Go.Proofs.Ytjbpnmbmgkibdaa
