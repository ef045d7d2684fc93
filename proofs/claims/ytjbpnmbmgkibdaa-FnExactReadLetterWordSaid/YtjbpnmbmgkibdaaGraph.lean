/-
  A rank of the functions: each calls such of lower rank alone. Written by graph.py.
-/
import Derived.Test.YtjbpnmbmgkibdaaChecked
import Derived.Test.YtjbpnmbmgkibdaaVGr
namespace Go.Proofs.Ytjbpnmbmgkibdaa
open Go
set_option maxRecDepth 10000
def rkN : Nat := 7166724734242023527205482587508072975195273927737719503730605552394202365503755941838694752562783483993794084983563655882971718757209425354625647709541620280599295686423695295774009868861283266794244679932824316235417525986189056926844300120064786432
theorem okG_0 : (List.range' 3 16).all (okG Try.prog rkN 3 68) = true := by kernel_rfl
theorem okG_1 : (List.range' 19 16).all (okG Try.prog rkN 3 68) = true := by kernel_rfl
theorem okG_2 : (List.range' 35 16).all (okG Try.prog rkN 3 68) = true := by kernel_rfl
theorem okG_3 : (List.range' 51 16).all (okG Try.prog rkN 3 68) = true := by kernel_rfl
theorem okG_4 : (List.range' 67 1).all (okG Try.prog rkN 3 68) = true := by kernel_rfl
theorem okG_all (g : Nat) (h : 3 ≤ g ∧ g < 68) : okG Try.prog rkN 3 68 g = true := by
  rcases (by omega : (3 ≤ g ∧ g < 19) ∨ (19 ≤ g ∧ g < 35) ∨ (35 ≤ g ∧ g < 51) ∨ (51 ≤ g ∧ g < 67) ∨ (67 ≤ g ∧ g < 68)) with h | h | h | h | h
  · exact List.all_eq_true.1 okG_0 g (List.mem_range'_1.2 h)
  · exact List.all_eq_true.1 okG_1 g (List.mem_range'_1.2 h)
  · exact List.all_eq_true.1 okG_2 g (List.mem_range'_1.2 h)
  · exact List.all_eq_true.1 okG_3 g (List.mem_range'_1.2 h)
  · exact List.all_eq_true.1 okG_4 g (List.mem_range'_1.2 h)
theorem init_head : ∃ rest, behindMainWord (wordsSigns Try.prog.initOrder.toList) = chs cutN :: rest :=
  head_words (a := [104, 97, 114, 110, 101, 115, 115]) (b := [56, 48, 55, 52, 55, 98, 49, 52, 48, 102, 101, 101, 100, 51, 50, 48, 57, 100, 55, 102, 97, 49, 53, 101, 57, 52, 51, 52, 97, 101, 100, 48, 97, 56, 99, 55, 56, 57, 56, 53, 102, 101, 54, 102, 57, 48, 102, 99, 57, 97, 100, 51, 102, 98, 102, 50, 54, 102, 102, 56, 54, 101, 57, 53]) (c := cutN) (r := [97, 116, 32, 108, 111, 111, 112, 46, 101, 120, 97, 109, 112, 108, 101, 47, 103, 48, 48, 57, 54, 55, 47, 108, 97, 119, 115, 46, 70, 110, 69, 120, 97, 99, 116, 71, 97, 116, 101, 100, 32, 108, 111, 111, 112, 46, 101, 120, 97, 109, 112, 108, 101, 47, 103, 48, 48, 57, 54, 55, 47, 108, 97, 119, 115, 46, 70, 110, 69, 120, 97, 99, 116, 67, 97, 114, 114, 105, 101, 100, 73, 110, 32, 108, 111, 111, 112, 46, 101, 120, 97, 109, 112, 108, 101, 47, 103, 48, 48, 57, 54, 55, 47, 108, 97, 119, 115, 46, 70, 110, 69, 120, 97, 99, 116, 76, 101, 116, 116, 101, 114, 87, 111, 114, 100, 32, 108, 111, 111, 112, 46, 101, 120, 97, 109, 112, 108, 101, 47, 103, 48, 48, 57, 54, 55, 47, 108, 97, 119, 115, 46, 70, 110, 69, 120, 97, 99, 116, 82, 101, 97, 100, 80, 111, 108, 105, 99, 121, 32, 108, 111, 111, 112, 46, 101, 120, 97, 109, 112, 108, 101, 47, 103, 48, 48, 57, 54, 55, 47, 108, 97, 119, 115, 46, 70, 110, 69, 120, 97, 99, 116, 82, 101, 97, 100, 76, 101, 116, 116, 101, 114, 87, 111, 114, 100]) (by kernel_rfl) (by kernel_rfl) (by kernel_rfl) (by kernel_rfl) (by kernel_rfl)
theorem own_l1 : Try.prog.laysLater = false := by kernel_rfl
theorem own_l2 : Try.prog.bearsReflect = false := by kernel_rfl
theorem own_l3 : Try.prog.doorRows = [] := by kernel_rfl
theorem own_may : Try.prog.mayEnter = true := init_head.elim fun _ h => may_cut h own_l1 own_l2 own_l3
theorem own_final : Try.prog.liftsFinal = false := init_head.elim fun _ h => final_cut h
theorem own_make : Try.prog.make = some .cut := init_head.elim fun _ h => make_cut h
theorem own_graph (f : Nat) (h : (Nat.ble 3 f && Nat.blt f 68) = true) : Try.prog.inPlace f = [] ∧ Try.prog.unfollowed f = false ∧ Try.prog.recurses f = false ∧ Try.prog.varsNamed f = [] :=
  graph_facts okG_all f (by simpa only [Bool.and_eq_true, Nat.ble_eq, Nat.blt_eq] using h)
end Go.Proofs.Ytjbpnmbmgkibdaa
