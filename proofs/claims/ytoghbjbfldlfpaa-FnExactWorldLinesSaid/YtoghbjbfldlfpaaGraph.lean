/-
  A rank of the functions: each calls such of lower rank alone. Written by graph.py.
-/
import Derived.Test.YtoghbjbfldlfpaaChecked
import Derived.Test.YtoghbjbfldlfpaaVGr
namespace Go.Proofs.Ytoghbjbfldlfpaa
open Go
set_option maxRecDepth 10000
def rkN : Nat := 433723768642741956993612297504412181647992542029078838580132276973829911726438629097319850785236419673381178885737985518788916934416503271173524735434245240156735870967690718397108592395068807022402383277874819101359902244902850611109317296589670772093919176677177686919133051166526117873619772582418430542371706428548477352687147107550445566893913527169137801447689277270904219070701611792257910962745942276933231177234831567184294173716316308803828093521985997461999299248252890952749247969512152806708903510928996780090173317123145690108689705026708351829146639857669849719851274856568006857731210765228840197278705434626736196700322224698301555699494385274955538629076345191130556764233877738669880703912461339429661477589360308335942755632907676066179519820293210112
theorem okG_0 : (List.range' 3 16).all (okG Try.prog rkN 3 241) = true := by kernel_rfl
theorem okG_1 : (List.range' 19 16).all (okG Try.prog rkN 3 241) = true := by kernel_rfl
theorem okG_2 : (List.range' 35 16).all (okG Try.prog rkN 3 241) = true := by kernel_rfl
theorem okG_3 : (List.range' 51 16).all (okG Try.prog rkN 3 241) = true := by kernel_rfl
theorem okG_4 : (List.range' 67 16).all (okG Try.prog rkN 3 241) = true := by kernel_rfl
theorem okG_5 : (List.range' 83 16).all (okG Try.prog rkN 3 241) = true := by kernel_rfl
theorem okG_6 : (List.range' 99 16).all (okG Try.prog rkN 3 241) = true := by kernel_rfl
theorem okG_7 : (List.range' 115 16).all (okG Try.prog rkN 3 241) = true := by kernel_rfl
theorem okG_8 : (List.range' 131 16).all (okG Try.prog rkN 3 241) = true := by kernel_rfl
theorem okG_9 : (List.range' 147 16).all (okG Try.prog rkN 3 241) = true := by kernel_rfl
theorem okG_10 : (List.range' 163 16).all (okG Try.prog rkN 3 241) = true := by kernel_rfl
theorem okG_11 : (List.range' 179 16).all (okG Try.prog rkN 3 241) = true := by kernel_rfl
theorem okG_12 : (List.range' 195 16).all (okG Try.prog rkN 3 241) = true := by kernel_rfl
theorem okG_13 : (List.range' 211 16).all (okG Try.prog rkN 3 241) = true := by kernel_rfl
theorem okG_14 : (List.range' 227 14).all (okG Try.prog rkN 3 241) = true := by kernel_rfl
theorem okG_all (g : Nat) (h : 3 ≤ g ∧ g < 241) : okG Try.prog rkN 3 241 g = true := by
  rcases (by omega : (3 ≤ g ∧ g < 19) ∨ (19 ≤ g ∧ g < 35) ∨ (35 ≤ g ∧ g < 51) ∨ (51 ≤ g ∧ g < 67) ∨ (67 ≤ g ∧ g < 83) ∨ (83 ≤ g ∧ g < 99) ∨ (99 ≤ g ∧ g < 115) ∨ (115 ≤ g ∧ g < 131) ∨ (131 ≤ g ∧ g < 147) ∨ (147 ≤ g ∧ g < 163) ∨ (163 ≤ g ∧ g < 179) ∨ (179 ≤ g ∧ g < 195) ∨ (195 ≤ g ∧ g < 211) ∨ (211 ≤ g ∧ g < 227) ∨ (227 ≤ g ∧ g < 241)) with h | h | h | h | h | h | h | h | h | h | h | h | h | h | h
  · exact List.all_eq_true.1 okG_0 g (List.mem_range'_1.2 h)
  · exact List.all_eq_true.1 okG_1 g (List.mem_range'_1.2 h)
  · exact List.all_eq_true.1 okG_2 g (List.mem_range'_1.2 h)
  · exact List.all_eq_true.1 okG_3 g (List.mem_range'_1.2 h)
  · exact List.all_eq_true.1 okG_4 g (List.mem_range'_1.2 h)
  · exact List.all_eq_true.1 okG_5 g (List.mem_range'_1.2 h)
  · exact List.all_eq_true.1 okG_6 g (List.mem_range'_1.2 h)
  · exact List.all_eq_true.1 okG_7 g (List.mem_range'_1.2 h)
  · exact List.all_eq_true.1 okG_8 g (List.mem_range'_1.2 h)
  · exact List.all_eq_true.1 okG_9 g (List.mem_range'_1.2 h)
  · exact List.all_eq_true.1 okG_10 g (List.mem_range'_1.2 h)
  · exact List.all_eq_true.1 okG_11 g (List.mem_range'_1.2 h)
  · exact List.all_eq_true.1 okG_12 g (List.mem_range'_1.2 h)
  · exact List.all_eq_true.1 okG_13 g (List.mem_range'_1.2 h)
  · exact List.all_eq_true.1 okG_14 g (List.mem_range'_1.2 h)
theorem init_head : ∃ rest, behindMainWord (wordsSigns Try.prog.initOrder.toList) = chs cutN :: rest :=
  head_words (a := [104, 97, 114, 110, 101, 115, 115]) (b := [98, 54, 97, 100, 56, 98, 53, 55, 55, 54, 56, 97, 100, 53, 97, 49, 100, 52, 49, 102, 97, 52, 102, 102, 97, 52, 48, 99, 54, 53, 98, 100, 57, 100, 51, 101, 49, 100, 52, 100, 50, 99, 99, 102, 48, 102, 101, 57, 51, 99, 48, 57, 49, 52, 57, 56, 52, 53, 101, 52, 101, 53, 49, 52]) (c := cutN) (r := [97, 116, 32, 108, 111, 111, 112, 46, 101, 120, 97, 109, 112, 108, 101, 47, 103, 48, 48, 57, 54, 55, 47, 108, 97, 119, 115, 46, 70, 110, 69, 120, 97, 99, 116, 76, 101, 116, 116, 101, 114, 87, 111, 114, 100, 32, 108, 111, 111, 112, 46, 101, 120, 97, 109, 112, 108, 101, 47, 103, 48, 48, 57, 54, 55, 47, 108, 97, 119, 115, 46, 70, 110, 69, 120, 97, 99, 116, 82, 101, 97, 100, 80, 111, 108, 105, 99, 121, 32, 108, 111, 111, 112, 46, 101, 120, 97, 109, 112, 108, 101, 47, 103, 48, 48, 57, 54, 55, 47, 108, 97, 119, 115, 46, 70, 110, 69, 120, 97, 99, 116, 82, 101, 97, 100, 76, 101, 116, 116, 101, 114, 87, 111, 114, 100, 32, 108, 111, 111, 112, 46, 101, 120, 97, 109, 112, 108, 101, 47, 103, 48, 48, 57, 54, 55, 47, 108, 97, 119, 115, 46, 70, 110, 69, 120, 97, 99, 116, 70, 114, 101, 115, 104, 32, 108, 111, 111, 112, 46, 101, 120, 97, 109, 112, 108, 101, 47, 103, 48, 48, 57, 54, 55, 47, 108, 97, 119, 115, 46, 70, 110, 69, 120, 97, 99, 116, 82, 111, 97, 100, 115, 79, 119, 110, 32, 108, 111, 111, 112, 46, 101, 120, 97, 109, 112, 108, 101, 47, 103, 48, 48, 57, 54, 55, 47, 108, 97, 119, 115, 46, 70, 110, 69, 120, 97, 99, 116, 80, 97, 105, 114, 101, 100, 32, 108, 111, 111, 112, 46, 101, 120, 97, 109, 112, 108, 101, 47, 103, 48, 48, 57, 54, 55, 47, 108, 97, 119, 115, 46, 70, 110, 69, 120, 97, 99, 116, 69, 118, 101, 110, 73, 110, 32, 108, 111, 111, 112, 46, 101, 120, 97, 109, 112, 108, 101, 47, 103, 48, 48, 57, 54, 55, 47, 108, 97, 119, 115, 46, 70, 110, 69, 120, 97, 99, 116, 82, 111, 97, 100, 115, 79, 110, 32, 108, 111, 111, 112, 46, 101, 120, 97, 109, 112, 108, 101, 47, 103, 48, 48, 57, 54, 55, 47, 108, 97, 119, 115, 46, 70, 110, 69, 120, 97, 99, 116, 69, 110, 100, 76, 105, 110, 101, 115, 32, 108, 111, 111, 112, 46, 101, 120, 97, 109, 112, 108, 101, 47, 103, 48, 48, 57, 54, 55, 47, 108, 97, 119, 115, 46, 70, 110, 69, 120, 97, 99, 116, 65, 108, 108, 82, 101, 97, 100, 32, 108, 111, 111, 112, 46, 101, 120, 97, 109, 112, 108, 101, 47, 103, 48, 48, 57, 54, 55, 47, 108, 97, 119, 115, 46, 70, 110, 69, 120, 97, 99, 116, 83, 116, 114, 101, 97, 109, 115, 79, 107, 32, 108, 111, 111, 112, 46, 101, 120, 97, 109, 112, 108, 101, 47, 103, 48, 48, 57, 54, 55, 47, 108, 97, 119, 115, 46, 70, 110, 69, 120, 97, 99, 116, 74, 111, 105, 110, 97, 98, 108, 101, 32, 108, 111, 111, 112, 46, 101, 120, 97, 109, 112, 108, 101, 47, 103, 48, 48, 57, 54, 55, 47, 108, 97, 119, 115, 46, 70, 110, 69, 120, 97, 99, 116, 70, 97, 114, 79, 107, 32, 108, 111, 111, 112, 46, 101, 120, 97, 109, 112, 108, 101, 47, 103, 48, 48, 57, 54, 55, 47, 108, 97, 119, 115, 46, 70, 110, 69, 120, 97, 99, 116, 71, 97, 116, 101, 100, 87, 111, 114, 108, 100, 32, 108, 111, 111, 112, 46, 101, 120, 97, 109, 112, 108, 101, 47, 103, 48, 48, 57, 54, 55, 47, 108, 97, 119, 115, 46, 70, 110, 69, 120, 97, 99, 116, 65, 108, 108, 87, 97, 110, 116, 101, 100, 32, 108, 111, 111, 112, 46, 101, 120, 97, 109, 112, 108, 101, 47, 103, 48, 48, 57, 54, 55, 47, 108, 97, 119, 115, 46, 70, 110, 69, 120, 97, 99, 116, 84, 117, 114, 110, 115, 32, 108, 111, 111, 112, 46, 101, 120, 97, 109, 112, 108, 101, 47, 103, 48, 48, 57, 54, 55, 47, 108, 97, 119, 115, 46, 70, 110, 69, 120, 97, 99, 116, 87, 97, 105, 116, 105, 110, 103, 32, 108, 111, 111, 112, 46, 101, 120, 97, 109, 112, 108, 101, 47, 103, 48, 48, 57, 54, 55, 47, 108, 97, 119, 115, 46, 70, 110, 69, 120, 97, 99, 116, 67, 97, 114, 114, 105, 101, 100, 66, 121, 32, 108, 111, 111, 112, 46, 101, 120, 97, 109, 112, 108, 101, 47, 103, 48, 48, 57, 54, 55, 47, 108, 97, 119, 115, 46, 70, 110, 69, 120, 97, 99, 116, 87, 111, 114, 108, 100, 76, 105, 110, 101, 115]) (by kernel_rfl) (by kernel_rfl) (by kernel_rfl) (by kernel_rfl) (by kernel_rfl)
theorem own_l1 : Try.prog.laysLater = false := by kernel_rfl
theorem own_l2 : Try.prog.bearsReflect = false := by kernel_rfl
theorem own_l3 : Try.prog.doorRows = [] := by kernel_rfl
theorem own_may : Try.prog.mayEnter = true := init_head.elim fun _ h => may_cut h own_l1 own_l2 own_l3
theorem own_final : Try.prog.liftsFinal = false := init_head.elim fun _ h => final_cut h
theorem own_make : Try.prog.make = some .cut := init_head.elim fun _ h => make_cut h
theorem own_graph (f : Nat) (h : (Nat.ble 3 f && Nat.blt f 241) = true) : Try.prog.inPlace f = [] ∧ Try.prog.unfollowed f = false ∧ Try.prog.recurses f = false ∧ Try.prog.varsNamed f = [] :=
  graph_facts okG_all f (by simpa only [Bool.and_eq_true, Nat.ble_eq, Nat.blt_eq] using h)
end Go.Proofs.Ytoghbjbfldlfpaa
