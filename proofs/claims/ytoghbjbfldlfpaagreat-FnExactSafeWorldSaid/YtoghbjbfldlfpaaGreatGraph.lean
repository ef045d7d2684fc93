/-
  A rank of the functions: each calls such of lower rank alone. Written by graph.py.
-/
import Derived.Test.YtoghbjbfldlfpaaGreatChecked
import Derived.Test.YtoghbjbfldlfpaaGreatVGr
namespace Go.Proofs.YtoghbjbfldlfpaaGreat
open Go
set_option maxRecDepth 10000
def rkN : Nat := 22909657650825012874844592366793366258666116025910221765551117820541598416531426336955589484993355071431704199245447340640052178080291167232498028644768531581804697842458098962967265345236909512829157121588836393682428761839509855019843009225597573286816325438139559197939738988389503938686872196556256629287773651546185822661299459128788225506377389045327047442202583616300487097639503459711451136
theorem okG_0 : (List.range' 3 16).all (okG Tryz.prog rkN 3 117) = true := by kernel_rfl
theorem okG_1 : (List.range' 19 16).all (okG Tryz.prog rkN 3 117) = true := by kernel_rfl
theorem okG_2 : (List.range' 35 16).all (okG Tryz.prog rkN 3 117) = true := by kernel_rfl
theorem okG_3 : (List.range' 51 16).all (okG Tryz.prog rkN 3 117) = true := by kernel_rfl
theorem okG_4 : (List.range' 67 16).all (okG Tryz.prog rkN 3 117) = true := by kernel_rfl
theorem okG_5 : (List.range' 83 16).all (okG Tryz.prog rkN 3 117) = true := by kernel_rfl
theorem okG_6 : (List.range' 99 16).all (okG Tryz.prog rkN 3 117) = true := by kernel_rfl
theorem okG_7 : (List.range' 115 2).all (okG Tryz.prog rkN 3 117) = true := by kernel_rfl
theorem okG_all (g : Nat) (h : 3 ≤ g ∧ g < 117) : okG Tryz.prog rkN 3 117 g = true := by
  rcases (by omega : (3 ≤ g ∧ g < 19) ∨ (19 ≤ g ∧ g < 35) ∨ (35 ≤ g ∧ g < 51) ∨ (51 ≤ g ∧ g < 67) ∨ (67 ≤ g ∧ g < 83) ∨ (83 ≤ g ∧ g < 99) ∨ (99 ≤ g ∧ g < 115) ∨ (115 ≤ g ∧ g < 117)) with h | h | h | h | h | h | h | h
  · exact List.all_eq_true.1 okG_0 g (List.mem_range'_1.2 h)
  · exact List.all_eq_true.1 okG_1 g (List.mem_range'_1.2 h)
  · exact List.all_eq_true.1 okG_2 g (List.mem_range'_1.2 h)
  · exact List.all_eq_true.1 okG_3 g (List.mem_range'_1.2 h)
  · exact List.all_eq_true.1 okG_4 g (List.mem_range'_1.2 h)
  · exact List.all_eq_true.1 okG_5 g (List.mem_range'_1.2 h)
  · exact List.all_eq_true.1 okG_6 g (List.mem_range'_1.2 h)
  · exact List.all_eq_true.1 okG_7 g (List.mem_range'_1.2 h)
theorem init_head : ∃ rest, behindMainWord (wordsSigns Tryz.prog.initOrder.toList) = chs cutN :: rest :=
  head_words (a := [104, 97, 114, 110, 101, 115, 115]) (b := [97, 99, 49, 99, 56, 48, 98, 50, 50, 57, 56, 100, 48, 102, 51, 100, 50, 51, 101, 100, 101, 54, 49, 54, 52, 102, 98, 56, 97, 54, 49, 102, 56, 50, 55, 56, 99, 57, 50, 55, 50, 54, 56, 102, 51, 56, 98, 98, 54, 98, 97, 49, 99, 101, 50, 49, 49, 99, 54, 51, 55, 55, 98, 102]) (c := cutN) (r := [97, 116, 32, 108, 111, 111, 112, 46, 101, 120, 97, 109, 112, 108, 101, 47, 103, 48, 48, 57, 54, 55, 47, 108, 97, 119, 115, 46, 70, 110, 69, 120, 97, 99, 116, 83, 97, 102, 101, 87, 111, 114, 108, 100]) (by kernel_rfl) (by kernel_rfl) (by kernel_rfl) (by kernel_rfl) (by kernel_rfl)
theorem own_l1 : Tryz.prog.laysLater = false := by kernel_rfl
theorem own_l2 : Tryz.prog.bearsReflect = false := by kernel_rfl
theorem own_l3 : Tryz.prog.doorRows = [] := by kernel_rfl
theorem own_may : Tryz.prog.mayEnter = true := init_head.elim fun _ h => may_cut h own_l1 own_l2 own_l3
theorem own_final : Tryz.prog.liftsFinal = false := init_head.elim fun _ h => final_cut h
theorem own_make : Tryz.prog.make = some .cut := init_head.elim fun _ h => make_cut h
theorem own_graph (f : Nat) (h : (Nat.ble 3 f && Nat.blt f 117) = true) : Tryz.prog.inPlace f = [] ∧ Tryz.prog.unfollowed f = false ∧ Tryz.prog.recurses f = false ∧ Tryz.prog.varsNamed f = [] :=
  graph_facts okG_all f (by simpa only [Bool.and_eq_true, Nat.ble_eq, Nat.blt_eq] using h)
end Go.Proofs.YtoghbjbfldlfpaaGreat
