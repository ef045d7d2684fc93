/-
  Texts merged for this claim by shake.py: what its proof needs.
-/
import Derived.Tactics
import Derived.Below
import Derived.Laws.AppendOwn
import Derived.Laws.OwnMore
import Derived.Laws.Slices
import Derived.Laws.Small
import Derived.Laws.Strings
import Derived.KernelRfl
import Derived.Laws.MakeOwn
import Derived.Laws.BytesString
import Derived.Laws.BytesArg
import Derived.Laws.Build
import Derived.Laws.Concat
import Derived.Laws.StructEq
import Derived.Lib.ConvBytes
import Derived.Orders
import Derived.WalkKit
import Derived.ProofKit
import Derived.ShutString
import Derived.OpenShut
import Derived.ChangeOld
import Derived.Carry
import Derived.Test.YtfakgekanapbnaaGreatChecked
import Derived.Laws.BitsLemmas
import Derived.JoinedOf
import Derived.Test.YtfakgekanapbnaaGreatRows
import Derived.Test.YtfakgekanapbnaaGreatZFnWorldsA
set_option maxHeartbeats 16000000
set_option maxRecDepth 100000
set_option linter.unusedVariables false
set_option linter.unusedSimpArgs false
namespace Go.Proofs.YtfakgekanapbnaaGreat
section
open Go.RowKit

theorem spec_l24End5b_1 (w : WorldD) (pos many : Int) (text : List UInt8) (ad : AddrD) (le : LetterD) (hw : SmallD w) (hbad : ¬ sideAt ad.addr = 1 ∨ (addOwn w.a ad).2 = false) :
  CallA Tryz.prog 167 [.ag (w.cs 0),.ag (ActD.cs ⟨5,1,pos,many,text,ad,le⟩)] (w.hp true) (.tu [.ag (WorldD.cs w 21),.sc (.int .i64 1)]) ([none,none,none,none,none,none,none,none,none,none,none,none,none,none,none,none,none,none,none,none,none] ++ WorldD.hp w true) := by
 have hX := spec_AddOwn w.a ad hw.p.s.a
 have hsm := addOwn_small (a := ad) hw.p.s.a
 have hEA : CallA Tryz.prog 189 [.ag (w.cs 0),.sc (.int .i64 1)] (w.hp false) (.ag (w.a.cs 21)) (w.hp false ++ w.a.hp true) := spec_EndAt w 1 hw.p.s.a.own hw.p.s.a.far hw.p.s.a.subs hw.p.s.a.halfs hw.p.s.a.list hw.p.s.a.done hw.p.s.a.over hw.p.s.b.own hw.p.s.b.far hw.p.s.b.subs hw.p.s.b.halfs hw.p.s.b.list hw.p.s.b.done hw.p.s.b.over
 obtain ⟨pr,hpr⟩ : ∃ p,p = addOwn w.a ad := ⟨_,rfl⟩
 rw [← hpr] at hX hsm hbad
 obtain ⟨e1,ok1⟩ := pr
 dsimp only at hX hsm hbad
 have hSd := spec_SideAt ad.addr
 generalize sideAt ad.addr = sd at *
 refine qEO Tryz.func167 Tryz.ntmps167 Tryz.results167 fun E hE => ?_
 refine qK (hEA) (qA [0,1,2,3,4,5,6,7,8,9,10,11,12,13,14,15,16,17,18,19,20]) ?_
 refine qK (hX) (qA [24,25,26,27,28,29,30]) ?_
 cases ok1 with
 | false =>
  refine qD [0,1,2,3,4,5,7,8,6,9,10] ?_
  refine qG ?_
  exact qFO (qA [0,1,2,3,4,5,6,7,8,9,10,11,12,13,14,15,16,17,18,19,20,0,1,2,3,4,5,6,7,8,9,10,11,12,13,14,15,16,17,18,19,20])
 | true =>
  have h0 : ¬ sd = 1 := by rcases hbad with h | h; exact h; exact absurd h (by simp)
  refine qD [0,1,2,3,4,5,7,8,6,9,10] ?_
  refine qKD (hSd) [] ?_
  refine qG ?_
  exact qFO (qA [0,1,2,3,4,5,6,7,8,9,10,11,12,13,14,15,16,17,18,19,20,0,1,2,3,4,5,6,7,8,9,10,11,12,13,14,15,16,17,18,19,20])
theorem spec_l24End5b_2 (w : WorldD) (pos many : Int) (text : List UInt8) (ad : AddrD) (le : LetterD) (hw : SmallD w) (hbad : ¬ sideAt ad.addr = 2 ∨ (addOwn w.b ad).2 = false) :
  CallA Tryz.prog 167 [.ag (w.cs 0),.ag (ActD.cs ⟨5,2,pos,many,text,ad,le⟩)] (w.hp true) (.tu [.ag (WorldD.cs w 21),.sc (.int .i64 1)]) ([none,none,none,none,none,none,none,none,none,none,none,none,none,none,none,none,none,none,none,none,none] ++ WorldD.hp w true) := by
 have hX := spec_AddOwn w.b ad hw.p.s.b
 have hsm := addOwn_small (a := ad) hw.p.s.b
 have hEA : CallA Tryz.prog 189 [.ag (w.cs 0),.sc (.int .i64 2)] (w.hp false) (.ag (w.b.cs 21)) (w.hp false ++ w.b.hp true) := spec_EndAt w 2 hw.p.s.a.own hw.p.s.a.far hw.p.s.a.subs hw.p.s.a.halfs hw.p.s.a.list hw.p.s.a.done hw.p.s.a.over hw.p.s.b.own hw.p.s.b.far hw.p.s.b.subs hw.p.s.b.halfs hw.p.s.b.list hw.p.s.b.done hw.p.s.b.over
 obtain ⟨pr,hpr⟩ : ∃ p,p = addOwn w.b ad := ⟨_,rfl⟩
 rw [← hpr] at hX hsm hbad
 obtain ⟨e1,ok1⟩ := pr
 dsimp only at hX hsm hbad
 have hSd := spec_SideAt ad.addr
 generalize sideAt ad.addr = sd at *
 refine qEO Tryz.func167 Tryz.ntmps167 Tryz.results167 fun E hE => ?_
 refine qK (hEA) (qA [0,1,2,3,4,5,6,7,8,9,10,11,12,13,14,15,16,17,18,19,20]) ?_
 refine qK (hX) (qA [24,25,26,27,28,29,30]) ?_
 cases ok1 with
 | false =>
  refine qD [0,1,2,3,4,5,7,8,6,9,10] ?_
  refine qG ?_
  exact qFO (qA [0,1,2,3,4,5,6,7,8,9,10,11,12,13,14,15,16,17,18,19,20,0,1,2,3,4,5,6,7,8,9,10,11,12,13,14,15,16,17,18,19,20])
 | true =>
  have h0 : ¬ sd = 2 := by rcases hbad with h | h; exact h; exact absurd h (by simp)
  refine qD [0,1,2,3,4,5,7,8,6,9,10] ?_
  refine qKD (hSd) [] ?_
  refine qG ?_
  exact qFO (qA [0,1,2,3,4,5,6,7,8,9,10,11,12,13,14,15,16,17,18,19,20,0,1,2,3,4,5,6,7,8,9,10,11,12,13,14,15,16,17,18,19,20])
theorem acts1_1 {w : WorldD} {pos many : Int} {text : List UInt8} {ad : AddrD} {le : LetterD} : acts w ⟨1,1,pos,many,text,ad,le⟩ = (postL 1 { w with wroteA := w.wroteA ++ text.take (write w.a text).2,a := (writeAll w.a text).1 } (writeAll w.a text).2,0) := by
 simp [acts,actBad,actW,actE,endAt,setEnd,wrote,gotRead]
theorem acts2_1 {w : WorldD} {pos many : Int} {text : List UInt8} {ad : AddrD} {le : LetterD} : acts w ⟨2,1,pos,many,text,ad,le⟩ = (postL 1 { w with readA := w.readA ++ (readE w.a many).2,a := ((readE w.a many).1,([] : List LetterD)).1 } ((readE w.a many).1,([] : List LetterD)).2,0) := by
 simp [acts,actBad,actW,actE,endAt,setEnd,wrote,gotRead]
theorem acts3_1 {w : WorldD} {pos many : Int} {text : List UInt8} {ad : AddrD} {le : LetterD} : acts w ⟨3,1,pos,many,text,ad,le⟩ = (postL 1 { w with a := (tick w.a).1 } (tick w.a).2,0) := by
 simp [acts,actBad,actW,actE,endAt,setEnd,wrote,gotRead]
theorem acts4_1 {w : WorldD} {pos many : Int} {text : List UInt8} {ad : AddrD} {le : LetterD} : acts w ⟨4,1,pos,many,text,ad,le⟩ = (postL 1 { w with a := (manage w.a).1 } (manage w.a).2,0) := by
 simp [acts,actBad,actW,actE,endAt,setEnd,wrote,gotRead]
theorem acts5_1 {w : WorldD} {pos many : Int} {text : List UInt8} {ad : AddrD} {le : LetterD} (hsd : sideAt ad.addr = 1) (hgood : (addOwn w.a ad).2 = true) : acts w ⟨5,1,pos,many,text,ad,le⟩ = (postL 1 { w with a := ((addOwn w.a ad).1,([] : List LetterD)).1 } ((addOwn w.a ad).1,([] : List LetterD)).2,0) := by
 simp [acts,actBad,actW,actE,endAt,setEnd,wrote,gotRead,hsd,hgood]
theorem acts6_1 {w : WorldD} {pos many : Int} {text : List UInt8} {ad : AddrD} {le : LetterD} : acts w ⟨6,1,pos,many,text,ad,le⟩ = (postL 1 { w with a := (dropOwn w.a pos).1 } (dropOwn w.a pos).2,0) := by
 simp [acts,actBad,actW,actE,endAt,setEnd,wrote,gotRead]
theorem acts7_1 {w : WorldD} {pos many : Int} {text : List UInt8} {ad : AddrD} {le : LetterD} : acts w ⟨7,1,pos,many,text,ad,le⟩ = (postL 1 { w with a := (resetE w.a pos).1 } (resetE w.a pos).2,0) := by
 simp [acts,actBad,actW,actE,endAt,setEnd,wrote,gotRead]
theorem acts1_2 {w : WorldD} {pos many : Int} {text : List UInt8} {ad : AddrD} {le : LetterD} : acts w ⟨1,2,pos,many,text,ad,le⟩ = (postL 2 { w with wroteB := w.wroteB ++ text.take (write w.b text).2,b := (writeAll w.b text).1 } (writeAll w.b text).2,0) := by
 simp [acts,actBad,actW,actE,endAt,setEnd,wrote,gotRead]
theorem acts2_2 {w : WorldD} {pos many : Int} {text : List UInt8} {ad : AddrD} {le : LetterD} : acts w ⟨2,2,pos,many,text,ad,le⟩ = (postL 2 { w with readB := w.readB ++ (readE w.b many).2,b := ((readE w.b many).1,([] : List LetterD)).1 } ((readE w.b many).1,([] : List LetterD)).2,0) := by
 simp [acts,actBad,actW,actE,endAt,setEnd,wrote,gotRead]
theorem acts3_2 {w : WorldD} {pos many : Int} {text : List UInt8} {ad : AddrD} {le : LetterD} : acts w ⟨3,2,pos,many,text,ad,le⟩ = (postL 2 { w with b := (tick w.b).1 } (tick w.b).2,0) := by
 simp [acts,actBad,actW,actE,endAt,setEnd,wrote,gotRead]
theorem acts4_2 {w : WorldD} {pos many : Int} {text : List UInt8} {ad : AddrD} {le : LetterD} : acts w ⟨4,2,pos,many,text,ad,le⟩ = (postL 2 { w with b := (manage w.b).1 } (manage w.b).2,0) := by
 simp [acts,actBad,actW,actE,endAt,setEnd,wrote,gotRead]
theorem acts5_2 {w : WorldD} {pos many : Int} {text : List UInt8} {ad : AddrD} {le : LetterD} (hsd : sideAt ad.addr = 2) (hgood : (addOwn w.b ad).2 = true) : acts w ⟨5,2,pos,many,text,ad,le⟩ = (postL 2 { w with b := ((addOwn w.b ad).1,([] : List LetterD)).1 } ((addOwn w.b ad).1,([] : List LetterD)).2,0) := by
 simp [acts,actBad,actW,actE,endAt,setEnd,wrote,gotRead,hsd,hgood]
theorem acts6_2 {w : WorldD} {pos many : Int} {text : List UInt8} {ad : AddrD} {le : LetterD} : acts w ⟨6,2,pos,many,text,ad,le⟩ = (postL 2 { w with b := (dropOwn w.b pos).1 } (dropOwn w.b pos).2,0) := by
 simp [acts,actBad,actW,actE,endAt,setEnd,wrote,gotRead]
theorem acts7_2 {w : WorldD} {pos many : Int} {text : List UInt8} {ad : AddrD} {le : LetterD} : acts w ⟨7,2,pos,many,text,ad,le⟩ = (postL 2 { w with b := (resetE w.b pos).1 } (resetE w.b pos).2,0) := by
 simp [acts,actBad,actW,actE,endAt,setEnd,wrote,gotRead]
theorem acts_bad {w : WorldD} {a : ActD} (h : actBad w a = true) : acts w a = (w,1) := if_pos h
theorem actOk_parts {a : ActD} (h : actOk a = true) : 1 ≤ a.kind ∧ a.kind ≤ 12 ∧ 1 ≤ a.side ∧ a.side ≤ 2 ∧ 0 ≤ a.pos ∧ a.text.length ≤ 1048576 := by
 simp only [actOk,inR,isN,Bool.and_eq_true,decide_eq_true_eq] at h
 omega
theorem spec_l24End (w : WorldD) (a : ActD) (hw : SmallD w) (ha : actOk a = true) (h7 : a.kind ≤ 7) (hb : ¬ actBad w a = true) :
  CallA Tryz.prog 167 [.ag (w.cs 0),.ag a.cs] (w.hp false) (.tu [.ag ((acts w a).1.cs 21),.sc (.int .i64 (acts w a).2)]) (w.hp false ++ (acts w a).1.hp true) := by
 obtain ⟨k1,k2,k3,k4,k5,k6⟩ := actOk_parts ha
 obtain ⟨kind,side,pos,many,text,ad,le⟩ := a
 dsimp only at *
 have hs : side = 1 ∨ side = 2 := by omega
 have hk : kind = 1 ∨ kind = 2 ∨ kind = 3 ∨ kind = 4 ∨ kind = 5 ∨ kind = 6 ∨ kind = 7 := by omega
 clear ha k1 k2 k3 k4 h7
 rcases hs with rfl | rfl <;> rcases hk with rfl | rfl | rfl | rfl | rfl | rfl | rfl
 ·rw [acts1_1]; exact spec_l24End1_1 w pos many text ad le hw k6
 ·rw [acts2_1]; exact spec_l24End2_1 w pos many text ad le hw k6
 ·rw [acts3_1]; exact spec_l24End3_1 w pos many text ad le hw k6
 ·rw [acts4_1]; exact spec_l24End4_1 w pos many text ad le hw k6
 ·have hb : sideAt ad.addr = 1 ∧ (addOwn w.a ad).2 = true := by
   by_cases h0 : sideAt ad.addr = 1 <;> cases h1 : (addOwn w.a ad).2 <;> simp [actBad,endAt,h0,h1] at hb <;> exact ⟨h0,rfl⟩
  rw [acts5_1 hb.1 hb.2]; exact spec_l24End5_1 w pos many text ad le hw k6 hb.1 hb.2
 ·rw [acts6_1]; exact spec_l24End6_1 w pos many text ad le hw k6
 ·rw [acts7_1]; exact spec_l24End7_1 w pos many text ad le hw k6
 ·rw [acts1_2]; exact spec_l24End1_2 w pos many text ad le hw k6
 ·rw [acts2_2]; exact spec_l24End2_2 w pos many text ad le hw k6
 ·rw [acts3_2]; exact spec_l24End3_2 w pos many text ad le hw k6
 ·rw [acts4_2]; exact spec_l24End4_2 w pos many text ad le hw k6
 ·have hb : sideAt ad.addr = 2 ∧ (addOwn w.b ad).2 = true := by
   by_cases h0 : sideAt ad.addr = 2 <;> cases h1 : (addOwn w.b ad).2 <;> simp [actBad,endAt,h0,h1] at hb <;> exact ⟨h0,rfl⟩
  rw [acts5_2 hb.1 hb.2]; exact spec_l24End5_2 w pos many text ad le hw k6 hb.1 hb.2
 ·rw [acts6_2]; exact spec_l24End6_2 w pos many text ad le hw k6
 ·rw [acts7_2]; exact spec_l24End7_2 w pos many text ad le hw k6
theorem spec_l24EndB (w : WorldD) (a : ActD) (hw : SmallD w) (ha : actOk a = true) (hb : actBad w a = true) :
  CallA Tryz.prog 167 [.ag (w.cs 0),.ag a.cs] (w.hp true) (.tu [.ag (w.cs 21),.sc (.int .i64 1)]) ([none,none,none,none,none,none,none,none,none,none,none,none,none,none,none,none,none,none,none,none,none] ++ w.hp true) := by
 obtain ⟨k1,k2,k3,k4,k5,k6⟩ := actOk_parts ha
 obtain ⟨kind,side,pos,many,text,ad,le⟩ := a
 dsimp only at *
 have hs : side = 1 ∨ side = 2 := by omega
 have hk : kind = 5 := by simp only [actBad,Bool.and_eq_true,decide_eq_true_eq] at hb; exact hb.1
 subst hk
 rcases hs with rfl | rfl
 ·refine spec_l24End5b_1 w pos many text ad le hw ?_
  by_cases h0 : sideAt ad.addr = 1
  ·exact .inr (by cases h1 : (addOwn w.a ad).2; rfl; simp [actBad,endAt,h0,h1] at hb)
  ·exact .inl h0
 ·refine spec_l24End5b_2 w pos many text ad le hw ?_
  by_cases h0 : sideAt ad.addr = 2
  ·exact .inr (by cases h1 : (addOwn w.b ad).2; rfl; simp [actBad,endAt,h0,h1] at hb)
  ·exact .inl h0
theorem spec_l24Bag (w : WorldD) (a : ActD) (hw : SmallD w) (ha : actOk a = true) (h7 : ¬ a.kind ≤ 7) (h10 : a.kind ≤ 10) :
  CallA Tryz.prog 169 [.ag (w.cs 0),.ag a.cs] (w.hp true) (.tu [.ag ((moves w a).1.cs 21),.sc (.int .i64 (moves w a).2)]) ([none,none,none,none,none,none,none,none,none,none,none,none,none,none,none,none,none,none,none,none,none] ++ (moves w a).1.hp true) := by
 obtain ⟨k1,k2,k3,k4,k5,k6⟩ := actOk_parts ha
 obtain ⟨kind,side,pos,many,text,ad,le⟩ := a
 dsimp only at *
 have hk : kind = 8 ∨ kind = 9 ∨ kind = 10 := by omega
 obtain ⟨p,rfl⟩ := Int.eq_ofNat_of_zero_le k5
 rcases hk with rfl | rfl | rfl
 ·exact spec_l24Bag8 w side many p text ad le hw
 ·exact spec_l24Bag9 w side many p text ad le hw
 ·exact spec_l24Bag10 w side many p text ad le hw
end
section
open Go.RowKit

theorem spec_ActOk (a : ActD) : CallA Tryz.prog 166 [.ag a.cs] [] (.sc (.bo (actOk a))) [] := by
 refine qE Tryz.func166 Tryz.ntmps166 Tryz.results166 fun E hE => ?_
 refine qK (spec_l01In _ _ _) [] ?_
 refine qB (fun h1 => ?_) fun h1 => ?_
 ·refine qK (spec_l01In _ _ _) [] ?_
  refine qB (fun h2 => ?_) fun h2 => ?_
  ·refine qK (spec_l14Num _) [] ?_
   refine qB (fun h3 => ?_) fun h3 => ?_
   ·refine qK (spec_l14Num _) [] ?_
    refine qB (fun h4 => ?_) fun h4 => ?_
    ·refine qJ [] ?_
     simp [actOk,h1,h2,h3,h4]
     omega
    ·refine qJ [] ?_
     simp [actOk,h1,h2,h3,h4]
   ·refine qJ [] ?_
    simp [actOk,h1,h2,h3]
  ·refine qJ [] ?_
   simp [actOk,h1,h2]
 ·refine qJ [] ?_
  simp [actOk,h1]
end
section
open Go.RowKit

theorem spec_Done (w : WorldD) (a : ActD) (hw : SmallD w) : CallA Tryz.prog 142 [.ag (w.cs 0),.ag a.cs] (w.hp false) (.tu [.ag ((doneW w a).1.cs 21),.sc (.int .i64 (doneW w a).2)]) (w.hp false ++ (doneW w a).1.hp true) := by
 have hC := spec_l23Copy w hw.p.s
 have hA := spec_ActOk a
 have hI := spec_l01In a.kind 1 7
 cases hok : actOk a with
 | false =>
  rw [show doneW w a = (w,3) from by rw [doneW,if_neg (by simp [hok])]]
  rw [hok] at hA
  dsimp only
  refine qE Tryz.func142 Tryz.ntmps142 Tryz.results142 fun E hE => ?_
  refine qK (hC) (qA [0,1,2,3,4,5,6,7,8,9,10,11,12,13,14,15,16,17,18,19,20]) ?_
  refine qK (hA) [] ?_
  exact qF (qA [0,1,2,3,4,5,6,7,8,9,10,11,12,13,14,15,16,17,18,19,20,24,25,26,27,28,29,30,31,32,33,34,35,36,37,38,39,40,41,42,43,44])
 | true =>
  rw [hok] at hA
  obtain ⟨k1,k2,k3,k4,k5,k6⟩ := actOk_parts hok
  by_cases h7 : a.kind ≤ 7
  ·rw [show doneW w a = acts w a from by rw [doneW,if_pos hok,if_pos h7]]
   have hin : inR a.kind 1 7 = true := by simp only [inR,Bool.and_eq_true,decide_eq_true_eq]; omega
   rw [hin] at hI
   by_cases hb : actBad w a = true
   ·have hQ := spec_l24EndB w a hw hok hb
    rw [acts_bad hb]
    dsimp only
    refine qE Tryz.func142 Tryz.ntmps142 Tryz.results142 fun E hE => ?_
    refine qK (hC) (qA [0,1,2,3,4,5,6,7,8,9,10,11,12,13,14,15,16,17,18,19,20]) ?_
    refine qK (hA) [] ?_
    refine qK (hI) [] ?_
    refine qK (hQ) (qA [24,25,26,27,28,29,30,31,32,33,34,35,36,37,38,39,40,41,42,43,44]) ?_
    exact qF (qA [0,1,2,3,4,5,6,7,8,9,10,11,12,13,14,15,16,17,18,19,20,45,46,47,48,49,50,51,52,53,54,55,56,57,58,59,60,61,62,63,64,65])
   ·have hQ := spec_l24End w a hw hok h7 hb
    obtain ⟨R,hR⟩ : ∃ R,R = acts w a := ⟨_,rfl⟩
    rw [← hR] at hQ ⊢
    clear hR
    obtain ⟨r,c⟩ := R
    dsimp only at hQ ⊢
    refine qE Tryz.func142 Tryz.ntmps142 Tryz.results142 fun E hE => ?_
    refine qK (hC) (qA [0,1,2,3,4,5,6,7,8,9,10,11,12,13,14,15,16,17,18,19,20]) ?_
    refine qK (hA) [] ?_
    refine qK (hI) [] ?_
    refine qK (hQ) (qA [24,25,26,27,28,29,30,31,32,33,34,35,36,37,38,39,40,41,42,43,44]) ?_
    exact qF (qA [0,1,2,3,4,5,6,7,8,9,10,11,12,13,14,15,16,17,18,19,20,45,46,47,48,49,50,51,52,53,54,55,56,57,58,59,60,61,62,63,64,65])
  ·rw [show doneW w a = moves w a from by rw [doneW,if_pos hok,if_neg h7]]
   have hin : inR a.kind 1 7 = false := by simp only [inR,Bool.and_eq_false_iff,decide_eq_false_iff_not]; omega
   rw [hin] at hI
   by_cases h10 : a.kind ≤ 10
   ·have hQ := spec_l24Bag w a hw hok h7 h10
    obtain ⟨R,hR⟩ : ∃ R,R = moves w a := ⟨_,rfl⟩
    rw [← hR] at hQ ⊢
    clear hR
    obtain ⟨r,c⟩ := R
    dsimp only at hQ ⊢
    refine qE Tryz.func142 Tryz.ntmps142 Tryz.results142 fun E hE => ?_
    refine qK (hC) (qA [0,1,2,3,4,5,6,7,8,9,10,11,12,13,14,15,16,17,18,19,20]) ?_
    refine qK (hA) [] ?_
    refine qK (hI) [] ?_
    refine qK (hQ) (qA [24,25,26,27,28,29,30,31,32,33,34,35,36,37,38,39,40,41,42,43,44]) ?_
    exact qF (qA [0,1,2,3,4,5,6,7,8,9,10,11,12,13,14,15,16,17,18,19,20,46,47,48,49,50,51,52,53,54,55,56,57,58,59,60,61,62,63,64,65,66])
   ·obtain ⟨kind,side,pos,many,text,ad,le⟩ := a
    dsimp only at *
    have hbag := hw.p.s.bag
    have hpast := hw.p.s.past
    have hk : kind = 11 ∨ kind = 12 := by omega
    clear h7 h10 k1 k2 hok
    rcases hk with rfl | rfl
    ·have hM := spec_MayInject w le hw.p.s.keys hw.p.s.tags hw.p.s.nums
     cases hm : mayInject w le with
     | false =>
      rw [mv11_f hm]
      rw [hm] at hM
      dsimp only
      refine qE Tryz.func142 Tryz.ntmps142 Tryz.results142 fun E hE => ?_
      refine qK (hC) (qA [0,1,2,3,4,5,6,7,8,9,10,11,12,13,14,15,16,17,18,19,20]) ?_
      refine qK (hA) [] ?_
      refine qK (hI) [] ?_
      refine qK (hM) (qA [24,25,26,27,28,29,30,31,32,33,34,35,36,37,38,39,40,41,42,43,44]) ?_
      exact qF (qA [0,1,2,3,4,5,6,7,8,9,10,11,12,13,14,15,16,17,18,19,20,24,25,26,27,28,29,30,31,32,33,34,35,36,37,38,39,40,41,42,43,44])
     | true =>
      rw [hm] at hM
      by_cases h4 : 40 ≤ w.bag.length
      ·rw [mv11_b hm h4]
       dsimp only
       refine qE Tryz.func142 Tryz.ntmps142 Tryz.results142 fun E hE => ?_
       refine qK (hC) (qA [0,1,2,3,4,5,6,7,8,9,10,11,12,13,14,15,16,17,18,19,20]) ?_
       refine qK (hA) [] ?_
       refine qK (hI) [] ?_
       refine qK (hM) (qA [24,25,26,27,28,29,30,31,32,33,34,35,36,37,38,39,40,41,42,43,44]) ?_
       exact qF (qA [0,1,2,3,4,5,6,7,8,9,10,11,12,13,14,15,16,17,18,19,20,24,25,26,27,28,29,30,31,32,33,34,35,36,37,38,39,40,41,42,43,44])
      ·rw [mv11_t hm h4]
       dsimp only
       refine qE Tryz.func142 Tryz.ntmps142 Tryz.results142 fun E hE => ?_
       refine qK (hC) (qA [0,1,2,3,4,5,6,7,8,9,10,11,12,13,14,15,16,17,18,19,20]) ?_
       refine qK (hA) [] ?_
       refine qK (hI) [] ?_
       refine qK (hM) (qA [24,25,26,27,28,29,30,31,32,33,34,35,36,37,38,39,40,41,42,43,44]) ?_
       refine qJ (qA [0,1,2,3,4,5,6,7,8,9,10,11,12,13,14,15,16,17,18,19,20,24,25,26,27,28,29,30,31,32,33,34,35,36,37,47,39,40,41,42,43,44]) ?_
       simp [LetterD.cs]
    ·obtain ⟨p,rfl⟩ := Int.eq_ofNat_of_zero_le k5
     by_cases hp : p < w.past.length
     ·have hx := map_get (enc := LetterD.cs) hp
      have hq1 := @mv12_b w side many p text ad le hp
      have hq2 := @mv12_t w side many p text ad le hp
      obtain ⟨R,hR⟩ : ∃ R,R = moves w ⟨12,side,(p : Nat),many,text,ad,le⟩ := ⟨_,rfl⟩
      change _ = moves w _ at hR
      rw [← hR] at hq1 hq2
      try rw [← hR]
      clear hR
      generalize hxx : w.past[p] = x at *
      have hS := spec_SideAt x.to
      generalize sideAt x.to = sd at *
      by_cases h0 : sd = 0
      ·rw [hq1 (.inl h0)]
       dsimp only
       refine qE Tryz.func142 Tryz.ntmps142 Tryz.results142 fun E hE => ?_
       refine qK (hC) (qA [0,1,2,3,4,5,6,7,8,9,10,11,12,13,14,15,16,17,18,19,20]) ?_
       refine qK (hA) [] ?_
       refine qK (hI) [] ?_
       try simp (disch := omega) only [go_sem,Nat.reduceEqDiff,Nat.reduceAdd,Nat.reduceSub,Int.reduceAdd,Int.reduceSub,Int.reduceToNat,hx,hxx]
       refine qK (hS) [] ?_
       exact qF (qA [0,1,2,3,4,5,6,7,8,9,10,11,12,13,14,15,16,17,18,19,20,24,25,26,27,28,29,30,31,32,33,34,35,36,37,38,39,40,41,42,43,44])
      ·by_cases h4 : 40 ≤ w.bag.length
       ·rw [hq1 (.inr h4)]
        dsimp only
        refine qE Tryz.func142 Tryz.ntmps142 Tryz.results142 fun E hE => ?_
        refine qK (hC) (qA [0,1,2,3,4,5,6,7,8,9,10,11,12,13,14,15,16,17,18,19,20]) ?_
        refine qK (hA) [] ?_
        refine qK (hI) [] ?_
        try simp (disch := omega) only [go_sem,Nat.reduceEqDiff,Nat.reduceAdd,Nat.reduceSub,Int.reduceAdd,Int.reduceSub,Int.reduceToNat,hx,hxx]
        refine qK (hS) [] ?_
        exact qF (qA [0,1,2,3,4,5,6,7,8,9,10,11,12,13,14,15,16,17,18,19,20,24,25,26,27,28,29,30,31,32,33,34,35,36,37,38,39,40,41,42,43,44])
       ·rw [hq2 h0 h4]
        dsimp only
        refine qE Tryz.func142 Tryz.ntmps142 Tryz.results142 fun E hE => ?_
        refine qK (hC) (qA [0,1,2,3,4,5,6,7,8,9,10,11,12,13,14,15,16,17,18,19,20]) ?_
        refine qK (hA) [] ?_
        refine qK (hI) [] ?_
        try simp (disch := omega) only [go_sem,Nat.reduceEqDiff,Nat.reduceAdd,Nat.reduceSub,Int.reduceAdd,Int.reduceSub,Int.reduceToNat,hx,hxx]
        refine qK (hS) [] ?_
        refine qX ?_
        refine qJ (qA [0,1,2,3,4,5,6,7,8,9,10,11,12,13,14,15,16,17,18,19,20,24,25,26,27,28,29,30,31,32,33,34,35,36,37,47,39,40,41,42,43,44]) ?_
        simp [LetterD.cs]
     ·rw [mv12_f hp]
      dsimp only
      refine qE Tryz.func142 Tryz.ntmps142 Tryz.results142 fun E hE => ?_
      refine qK (hC) (qA [0,1,2,3,4,5,6,7,8,9,10,11,12,13,14,15,16,17,18,19,20]) ?_
      refine qK (hA) [] ?_
      refine qK (hI) [] ?_
      exact qF (qA [0,1,2,3,4,5,6,7,8,9,10,11,12,13,14,15,16,17,18,19,20,24,25,26,27,28,29,30,31,32,33,34,35,36,37,38,39,40,41,42,43,44])
end
section
open Go.RowKit

def covKW (P : Program) (r : Array Oper) (T : List Nat) (X : List (Nat × Nat)) (os : List (List Nat)) : List (Nat × Nat) → List (Nat × Nat) → Bool
 | [],ex => badK X ex || os.any fun σ => okLW P r T ex σ
 | u :: U,ex => badK X ex || (covKW P r T X os U (u :: ex) && covKW P r T X os U ((u.2,u.1) :: ex))
theorem covKW_sound {P : Program} {r : Array Oper} {T : List Nat} {X : List (Nat × Nat)} {os : List (List Nat)} {l : List Nat} (hX : ∀ u ∈ X,u.1 ≠ u.2 ∧ before l u.1 u.2 = true) :
  ∀ {U ex : List (Nat × Nat)},(∀ u ∈ U,u.1 ≠ u.2) → (∀ u ∈ ex,u.1 ≠ u.2 ∧ before l u.1 u.2 = true) → covKW P r T X os U ex = true → ∃ ex' : List (Nat × Nat),(∀ u ∈ ex',u.1 ≠ u.2 ∧ before l u.1 u.2 = true) ∧ ∃ σ ∈ os,okLW P r T ex' σ = true
 | [],ex,hU,hex,h => by
  simp only [covKW,Bool.or_eq_true] at h
  rcases h with h | h
  ·exact (badK_false hX hex h).elim
  ·obtain ⟨σ,h1,h2⟩ := List.any_eq_true.1 h
   exact ⟨ex,hex,σ,h1,h2⟩
 | (x,y) :: U,ex,hU,hex,h => by
  simp only [covKW,Bool.or_eq_true,Bool.and_eq_true] at h
  rcases h with h | ⟨ha,hb⟩
  ·exact (badK_false hX hex h).elim
  ·have hne : x ≠ y := hU (x,y) (List.mem_cons_self ..)
   rcases before_total hne (l := l) with h3 | h3
   ·refine covKW_sound hX (fun u hu => hU u (List.mem_cons_of_mem _ hu)) (fun u hu => ?_) ha
    rcases List.mem_cons.1 hu with rfl | hu
    ·exact ⟨hne,h3⟩
    ·exact hex u hu
   ·refine covKW_sound hX (fun u hu => hU u (List.mem_cons_of_mem _ hu)) (fun u hu => ?_) hb
    rcases List.mem_cons.1 hu with rfl | hu
    ·exact ⟨hne.symm,h3⟩
    ·exact hex u hu
def coverKW (P : Program) (r : Array Oper) (U X : List (Nat × Nat)) (os : List (List Nat)) : Bool :=
 backB r && U.all (fun u => u.1 != u.2) && X.all (fun u => u.1 != u.2 && (edgeB r u.1 u.2 && decide (u.1 < r.size))) && os.all (fun σ => σ.length == r.size && (List.range r.size).all σ.contains && σ.all fun i => decide (i < r.size)) &&
 (let T := clo r; covKW P r T X os U [])
theorem wp_drawnKW {P : Program} {E : Entry} {id : Nat} {r : Array Oper} {U X : List (Nat × Nat)} {os : List (List Nat)} (hP : P.follows .mixedOrders = true) (hcov : coverKW P r U X os = true) {s : S} {K : S → Prop}
  (h : ∀ σ ∈ os,∃ s',RunW P r σ s s' ∧ ∀ β a w,Sim E β s' a w → ∃ β' t,K t ∧ Sim E β' t a w) : Den P E (.region id r true) s fun e s' => e = .normal ∧ K s' := by
 intro β a w hs Q hQ
 refine wp_region_draw fun t => ?_
 simp only [Region.schedule,hP,Bool.true_or,if_true]
 simp only [coverKW,Bool.and_eq_true] at hcov
 obtain ⟨⟨⟨⟨hback,hU⟩,hX⟩,hperm⟩,hch⟩ := hcov
 have hd := drawn_go (r := r) r.size t (Array.replicate r.size false)
 have hXb : ∀ v ∈ X,v.1 ≠ v.2 ∧ before (Region.linearise .any r t) v.1 v.2 = true := by
  intro v hv
  have hx := List.all_eq_true.1 hX v hv
  simp only [Bool.and_eq_true,bne_iff_ne,ne_eq,decide_eq_true_eq] at hx
  obtain ⟨h1,h5,h6⟩ := hx
  refine ⟨h1,?_⟩
  unfold edgeB at h5
  split at h5
  ·rename_i o ho
   obtain ⟨e,he,he2⟩ := List.any_eq_true.1 h5
   simp only [Bool.and_eq_true,beq_iff_eq] at he2
   exact drawn_before hback hd ho he he2.1 he2.2 (by simp) (by simp [Array.getD_eq_getD_getElem?,h6])
  ·cases h5
 obtain ⟨ex,hbef,σ,hσ,hok⟩ := covKW_sound hXb (fun u hu => by
  have := List.all_eq_true.1 hU u hu
  simpa using this) (fun u hu => by cases hu) hch
 have hp := List.all_eq_true.1 hperm σ hσ
 simp only [Bool.and_eq_true,beq_iff_eq,List.all_eq_true,List.mem_range,decide_eq_true_eq] at hp
 obtain ⟨⟨hlen,hall⟩,hlt⟩ := hp
 obtain ⟨s',hrun,hK⟩ := h σ hσ
 have hs2 : Sim E β s a { w with drawn := w.drawn + 1 } := ⟨hs.dfr,hs.sl,⟨hs.hp.len,hs.hp.ob,hs.hp.flat,hs.hp.apart⟩,hs.ent,⟨hs.st.le,hs.st.os,hs.st.tape,hs.st.output,hs.st.size,hs.st.block,hs.st.len,hs.st.old,hs.st.fresh⟩⟩
 refine ops_of_runW hback (fun β' a' w' hs' => let ⟨β2,t2,hk2,hs2⟩ := hK β' a' w' hs'; hQ .normal t2 β2 a' w' ⟨rfl,hk2⟩ hs2) (Region.linearise .any r t) r.size _ σ s β a _ hd (by simp) (by omega) (fun i => ?_) (fun i o ho hl => ?_) hok (fun p q hpq _ _ => (hbef (p,q) (List.contains_iff_mem.1 hpq)).2) hrun hs2
 ·constructor
  ·intro hi
   refine ⟨hlt i hi,?_⟩
   simp [Array.getD_eq_getD_getElem?,hlt i hi]
  ·rintro ⟨hi,_⟩
   simpa using hall i hi
 ·exfalso
  simp only [Array.getD_eq_getD_getElem?,Array.getElem?_replicate] at hl
  split at hl <;> cases hl
theorem den_drawKW {P : Program} {E : Entry} {F : S → Prop} {id : Nat} {r : Array Oper} {k : List Item} {s : S} {c : Prop} (U X : List (Nat × Nat)) (os : List (List Nat)) (hP : P.follows .mixedOrders = true) (hc : c) (hcov : coverKW P r U X os = true)
  (h : allDn (fun σ => denW P r (fun s' => den P E F (.go k s' True)) (.go σ s True)) os) : den P E F (.draw id r k s c) := by
 refine ⟨hc,den_mono (wp_drawnKW hP hcov (K := fun s' => den P E F (.go k s' True)) fun σ hσ => let ⟨s',h1,h2⟩ := (allDn_mem h σ hσ).2; ⟨s',h1,fun β a w hs => ⟨β,s',h2,hs⟩⟩) fun e s' hk => ?_⟩
 obtain ⟨rfl,hk⟩ := hk
 exact hk.2
end
section
open Go.RowKit

def emptyE (e : EndD) : Bool := smallB e && decide (e.inp.list = []) && decide (e.inp.ready.length = 0) && decide (e.out.text.length = 0) && decide (e.subs.length ≤ 100) && decide (e.far.length ≤ 100)
theorem emptyE_good {e : EndD} (h : emptyE e = true) : GoodE e ∧ FewE e := by
 simp only [emptyE,Bool.and_eq_true,decide_eq_true_eq] at h
 obtain ⟨⟨⟨⟨⟨h1,h2⟩,h3⟩,h4⟩,h5⟩,h6⟩ := h
 exact ⟨⟨smallB_iff h1,⟨by rw [h2]; decide,by omega,fun x hx => by rw [h2] at hx; simp at hx⟩,by omega⟩,h5,h6⟩
theorem meet_empty : (pols.all fun p => smallB (idleE 1 p) && smallB (idleE 2 p) && emptyE (meet (idleE 1 p) (idleE 2 p)).1 && emptyE (meet (idleE 1 p) (idleE 2 p)).2.1) = true := by decide +kernel
def world0 (x y : EndD) : WorldD := ⟨x,y,[],[],[],[],[],[],⟨[5,7],[]⟩,[],[],[]⟩
structure Fine0 (w : WorldD) : Prop where
 g : GoodW w 0
 f : FewW w
 bag : w.bag = []
 past : w.past = []
 tags : w.known.tags = []
theorem spec_WorldNewD (p : PolicyD) (hp : p ∈ pols) : ∃ w : WorldD,Fine0 w ∧ CallA Tryz.prog 141 [.ag p.cs] [] (.tu [.ag (w.cs 0),.sc (.bo true)]) (w.hp true) := by
 have h1 := spec_EndNew 1 11 p
 have h2 := spec_EndNew 2 21 p
 have i1 := idle_new (s := 1) (by omega) hp
 have i2 := idle_new (s := 2) (by omega) hp
 rw [show (10 * 1 + 1 : Int) = 11 from rfl] at i1
 rw [show (10 * 2 + 1 : Int) = 21 from rfl] at i2
 rw [i1] at h1
 rw [i2] at h2
 have hm := List.all_eq_true.1 meet_empty p hp
 simp only [Bool.and_eq_true] at hm
 obtain ⟨⟨⟨m1,m2⟩,m3⟩,m4⟩ := hm
 have hM := spec_Meet (idleE 1 p) (idleE 2 p) (smallB_iff m1) (smallB_iff m2)
 obtain ⟨g1,f1⟩ := emptyE_good m3
 obtain ⟨g2,f2⟩ := emptyE_good m4
 clear i1 i2 m1 m2 m3 m4
 generalize idleE 1 p = a at *
 generalize idleE 2 p = c at *
 obtain ⟨M,hMM⟩ : ∃ M,M = meet a c := ⟨_,rfl⟩
 rw [← hMM] at hM g1 f1 g2 f2
 clear hMM
 obtain ⟨X,Y,ok⟩ := M
 dsimp only at hM g1 f1 g2 f2
 refine ⟨world0 X Y,⟨⟨g1,g2,⟨by simp [world0],by simp [world0],by simp [world0],by simp [world0],by simp [world0],by simp [world0],by simp [world0]⟩,by simp [world0],by simp [world0],by simp [world0],by simp [world0]⟩,⟨f1,f2⟩,rfl,rfl,rfl⟩,?_⟩
 refine qE Tryz.func141 Tryz.ntmps141 Tryz.results141 fun E hE => ?_
 refine qK (h1) [] ?_
 refine qK (h2) [] ?_
 refine qK (hM) (qA [2,3,4,5,6,7,8,10,11,12,13,14,15,16]) ?_
 refine den_fin [some (20,none),some (21,none),some (22,none),some (23,none),some (24,none),some (25,none),some (26,none),some (27,none),some (28,none),some (29,none),some (30,none),some (31,none),some (32,none),some (33,none),none,none,some (18,none),none,none,none,none] (qC) _ (by simp only [go_sem]; rfl) (by rfl) (by rfl) ?_
 simp (disch := omega) only [go_sem,Nat.reduceEqDiff,Nat.reduceAdd,Nat.reduceSub,Int.reduceAdd,Int.reduceSub,Int.reduceToNat]
 try simp [world0,intC]
theorem skol {b : List UInt8} {α : Type} [Inhabited α] {C : CurD → α → CurD → Prop} (h : ∀ c,c.ok b → ∃ x c',C c x c') : ∃ F : CurD → α × CurD,∀ c,c.ok b → C c (F c).1 (F c).2 := by
 classical
 refine ⟨fun c => if hc : c.ok b then ((h c hc).choose,(h c hc).choose_spec.choose) else (default,c),fun c hc => ?_⟩
 simp only [dif_pos hc]
 exact (h c hc).choose_spec.choose_spec
def actsD (F : CurD → ActD × CurD) : Nat → CurD → List ActD × CurD
 | 0,c => ([],c)
 | n + 1,c => ((F c).1 :: (actsD F n (F c).2).1,(actsD F n (F c).2).2)
def FineA (a : ActD) : Prop := a.wf ∧ a.text.length ≤ 200
theorem actsD_ok {b : List UInt8} {F : CurD → ActD × CurD} (hF : ∀ c,c.ok b → (F c).2.ok b ∧ FineA (F c).1) : ∀ (n : Nat) (c : CurD),c.ok b → (actsD F n c).2.ok b ∧ (actsD F n c).1.length = n ∧ ∀ a ∈ (actsD F n c).1,FineA a
 | 0,c,h => ⟨h,rfl,fun a ha => by simp [actsD] at ha⟩
 | n + 1,c,h => by
  obtain ⟨h1,h2⟩ := hF c h
  obtain ⟨h3,h4,h5⟩ := actsD_ok hF n (F c).2 h1
  refine ⟨h3,by simp only [actsD,List.length_cons,h4],fun a ha => ?_⟩
  simp only [actsD,List.mem_cons] at ha
  rcases ha with rfl | ha
  ·exact h2
  ·exact h5 a ha
theorem spec_l24Acts (b : List UInt8) (c : CurD) (hc : c.ok b) (m : Int) (hm : 1 ≤ m ∧ m ≤ 120) : ∃ (l : List ActD) (c' : CurD),c'.ok b ∧ l.length ≤ 120 ∧ (∀ a ∈ l,FineA a) ∧ CallA Tryz.prog 109 [.sc (.pt 1 0 0),.sc (.int .i64 m)] (c.hp b) (.sc (.sl 2 0 l.length)) (c'.hp b ++ [some ⟨l.map ActD.cs,28,153,true,true⟩]) := by
 obtain ⟨F,hF⟩ := skol (b := b) (spec_l24Act b)
 have h1 := spec_l01Below b c hc m
 have o1 := CurD.below_ok hc m
 have b1 := c.below_lt b (n := m) (by omega)
 generalize c.below b m = r1 at h1 o1 b1
 obtain ⟨v,c1⟩ := r1
 dsimp only at h1 o1 b1
 obtain ⟨n,rfl⟩ := Int.eq_ofNat_of_zero_le b1.1
 obtain ⟨q1,q2,q3⟩ := actsD_ok (F := F) (fun c h => ⟨(hF c h).1,(hF c h).2.1⟩) n c1 o1
 obtain ⟨R,hR⟩ : ∃ R,R = actsD F n c1 := ⟨_,rfl⟩
 rw [← hR] at q1 q2 q3
 refine ⟨R.1,R.2,q1,by omega,q3,?_⟩
 refine qE Tryz.func109 Tryz.ntmps109 Tryz.results109 fun E hE => ?_
 refine qK (h1) (qA [0,1]) ?_
 refine den_lp 2 hE (fun s (y : List ActD × CurD) => s.at [1,8,9,10,11,12,13,14,15,16,17,18,19,20,21] [(7,.sc (.int .i64 (y.1.length : Nat))),(5,.sc (.sl 2 0 y.1.length))] (y.2.hp b ++ [some ⟨y.1.map ActD.cs,28,153,true,true⟩])) (fun (y : List ActD × CurD) => y.1.length ≤ n ∧ y.2.ok b ∧ (y.1 ++ (actsD F (n - y.1.length) y.2).1,(actsD F (n - y.1.length) y.2).2) = R) (fun (y : List ActD × CurD) => n - y.1.length) ([],c1) (qA [0,1,2]) (qC) (⟨Nat.zero_le _,o1,hR.symm⟩) (weak_mk (by rfl) (by rfl) ?_) fun y hy N hN => ?_
 ·exact qY
 ·obtain ⟨acc,c2⟩ := y
  obtain ⟨f1,f2,f3⟩ := hy
  dsimp only at f1 f2 f3
  obtain ⟨k1,k2,k3⟩ := hF c2 f2
  refine qR ?_
  refine qB (fun h => ?_) fun h => ?_
  ·rw [show n - acc.length = (n - (acc.length + 1)) + 1 from by omega,actsD] at f3
   generalize F c2 = z at k1 k2 k3 f3
   obtain ⟨a,c3⟩ := z
   dsimp only at k1 k2 k3 f3
   refine qK (k3) (qA [0,1]) ?_
   refine ⟨qC,hN _ (acc ++ [a],c3) (qA [0,1,4]) (by (try dsimp only); exact ⟨by simp; omega,k1,by rw [List.length_append,List.length_singleton,List.append_assoc]; exact f3⟩) (by simp; omega) (weak_mk (by rfl) (by rfl) ?_)⟩
   try simp (disch := omega) only [go_sem,Nat.reduceEqDiff,Nat.reduceAdd,Nat.reduceSub,Int.reduceAdd,Int.reduceSub,Int.reduceToNat]
   try simp [ActD.cs]
  ·rw [show n - acc.length = 0 from by omega] at f3
   simp only [actsD,List.append_nil] at f3
   subst f3
   exact qF (qA [0,1,2])
def livedW : List ActD → WorldD → List Int → WorldD × List Int
 | [],w,cs => (w,cs)
 | a :: l,w,cs => livedW l (doneW w a).1 (cs ++ [(doneW w a).2])
theorem livedW_step {l : List ActD} {k : Nat} {w : WorldD} {cs : List Int} (h : k < l.length) : livedW (l.drop k) w cs = livedW (l.drop (k + 1)) (doneW w l[k]).1 (cs ++ [(doneW w l[k]).2]) := by
 rw [List.drop_eq_getElem_cons h,livedW]
theorem livedW_end {l : List ActD} {k : Nat} {w : WorldD} {cs : List Int} (h : l.length ≤ k) : livedW (l.drop k) w cs = (w,cs) := by
 rw [List.drop_eq_nil_of_le h,livedW]
theorem livedW_inv {Q : WorldD → Nat → Prop} (hQ : ∀ w k a,Q w k → a.text.length ≤ 200 → Q (doneW w a).1 (k + 1)) : ∀ {l : List ActD} {w : WorldD} {cs : List Int} {k : Nat},Q w k → (∀ a ∈ l,FineA a) → Q (livedW l w cs).1 (k + l.length) ∧ (livedW l w cs).2.length = cs.length + l.length
 | [],w,cs,k,h,_ => ⟨h,rfl⟩
 | a :: l,w,cs,k,h,hl => by
  have h1 := livedW_inv hQ (l := l) (cs := cs ++ [(doneW w a).2]) (hQ w k a h (hl a (by simp)).2) (fun x hx => hl x (by simp [hx]))
  rw [livedW,List.length_cons]
  refine ⟨by rw [show k + (l.length + 1) = k + 1 + l.length by omega]; exact h1.1,by rw [h1.2,List.length_append,List.length_singleton]; omega⟩
theorem spec_LivedD (p : PolicyD) (hp : p ∈ pols) (l : List ActD) (hl : l.length ≤ 120) (ha : ∀ a ∈ l,FineA a) : ∃ (w0 : WorldD),Fine0 w0 ∧ CallA Tryz.prog 108 [.ag p.cs,.sc (.sl 0 0 l.length)] [some ⟨l.map ActD.cs,28,153,false,true⟩]
  (.tu [.ag ((livedW l w0 []).1.cs 1),.sc (.sl 22 0 (livedW l w0 []).2.length)]) ([some ⟨l.map ActD.cs,28,153,false,true⟩] ++ ((livedW l w0 []).1.hp true ++ [some ⟨(livedW l w0 []).2.map intC,1,3,true,true⟩])) := by
 obtain ⟨w0,h0,hW⟩ := spec_WorldNewD p hp
 refine ⟨w0,h0,?_⟩
 obtain ⟨R,hR⟩ : ∃ R,R = livedW l w0 [] := ⟨_,rfl⟩
 rw [← hR]
 refine qEO Tryz.func108 Tryz.ntmps108 Tryz.results108 fun E hE => ?_
 refine qK (hW) [] ?_
 refine den_lpO 1 hE (fun s (y : Nat × WorldD × List Int) => s.at [0,2,7,10,11,12,13,14,15,16,17,18,19,20,21,22,23,24,25,26,27,28,29,30,31,32,33,34,35,36,37,38,39,40,41,42,43,44] [(9,.sc (.int .i64 (y.1 : Nat))),(8,.sc (.sl 25 0 y.2.2.length))] ((s.hp.take 3) ++ (y.2.1.hp true ++ [some ⟨[WorldD.cs y.2.1 3],61,58,true,false⟩,some ⟨y.2.2.map intC,1,3,true,true⟩]))) (fun (y : Nat × WorldD × List Int) => y.1 ≤ l.length ∧ GoodW y.2.1 y.1 ∧ y.2.2.length = y.1 ∧ livedW (l.drop y.1) y.2.1 y.2.2 = R) (fun (y : Nat × WorldD × List Int) => l.length - y.1) (0,w0,[]) (qA [0,1,2,3,4,5,6,7,8,9,10,11,12,13,14,15,16,17,18,19,20,21,22,23,24,25]) (qC) (⟨Nat.zero_le _,h0.g,rfl,hR.symm⟩) (weak_mkO (by rfl) (by rfl) ?_) fun y hy N hN => ?_
 ·exact qY
 ·obtain ⟨k,w,cs⟩ := y
  obtain ⟨f1,f2,f3,f4⟩ := hy
  dsimp only at f1 f2 f3 f4
  refine qR ?_
  refine qB (fun h => ?_) fun h => ?_
  ·rw [livedW_step h] at f4
   have hak := ha l[k] (List.getElem_mem h)
   have hD := spec_Done w l[k] (f2.d (by omega))
   have hG := doneW_good f2 (a := l[k]) (by have := hak.2; omega)
   generalize hx : l[k] = x at *
   obtain ⟨Q,hQ⟩ : ∃ Q,Q = doneW w x := ⟨_,rfl⟩
   rw [← hQ] at hD hG f4
   try simp (disch := omega) only [go_sem,Nat.reduceEqDiff,Nat.reduceAdd,Nat.reduceSub,Int.reduceAdd,Int.reduceSub,Int.reduceToNat,hx]
   refine qD [0,1,2,3,4,5,6,7,8,9,10] ?_
   try simp (disch := omega) only [go_sem,Nat.reduceEqDiff,Nat.reduceAdd,Nat.reduceSub,Int.reduceAdd,Int.reduceSub,Int.reduceToNat,hx]
   refine qKD (hD) (qA [3,4,5,6,7,8,9,10,11,12,13,14,15,16,17,18,19,20,21,22,23]) ?_
   refine qG ?_
   refine ⟨qC,hN _ (k + 1,Q.1,cs ++ [Q.2]) (qA [0,1,2,26,27,28,29,30,31,32,33,34,35,36,37,38,39,40,41,42,43,44,45,46,24,48]) (by (try dsimp only); exact ⟨by omega,hG,by simp [f3],f4⟩) (by (try dsimp only); omega) (weak_mkO (by rfl) (by rfl) ?_)⟩
   try simp (disch := omega) only [go_sem,Nat.reduceEqDiff,Nat.reduceAdd,Nat.reduceSub,Int.reduceAdd,Int.reduceSub,Int.reduceToNat]
   try simp [intC]
  ·rw [livedW_end (by omega)] at f4
   subst f4
   refine qX ?_
   exact qFO (qA [0,3,4,5,6,7,8,9,10,11,12,13,14,15,16,17,18,19,20,21,22,23,25])
structure FineW (w : WorldD) : Prop where
 g : GoodW w 120
 f : FewW w
theorem GoodW.mono {w : WorldD} {k j : Nat} (h : GoodW w k) (hk : k ≤ j) : GoodW w j := ⟨h.a,h.b,h.r,by have := h.wa; omega,by have := h.wb; omega,by have := h.ra; omega,by have := h.rb; omega⟩
theorem spec_l24World (b : List UInt8) (c : CurD) (hc : c.ok b) : ∃ (w : WorldD) (c' : CurD),c'.ok b ∧ (FineW w ∧ ∃ w0 l,Fine0 w0 ∧ w = (livedW l w0 []).1) ∧ CallA Tryz.prog 66 [.sc (.pt 1 0 0)] (c.hp b) (.ag (w.cs 2)) (c'.hp b ++ w.hp true) := by
 obtain ⟨p,c1,o1,hp,h1⟩ := spec_l12Policy b c hc
 obtain ⟨l,c2,o2,hl,ha,h2⟩ := spec_l24Acts b c1 o1 50 (by omega)
 obtain ⟨w0,f0,h3⟩ := spec_LivedD p hp l hl ha
 have hg := livedW_inv (Q := fun w k => GoodW w k ∧ FewW w) (fun w k a h ht => ⟨doneW_good h.1 (by omega),doneW_few h.2⟩) (l := l) (w := w0) (cs := []) (k := 0) ⟨f0.g,f0.f⟩ ha
 refine ⟨(livedW l w0 []).1,c2,o2,⟨⟨hg.1.1.mono (by omega),hg.1.2⟩,w0,l,f0,rfl⟩,?_⟩
 generalize livedW l w0 [] = R at *
 obtain ⟨w,cs⟩ := R
 dsimp only at h3 ⊢
 refine qE Tryz.func66 Tryz.ntmps66 Tryz.results66 fun E hE => ?_
 refine qK (h1) (qA [0,1]) ?_
 refine den_drawKW [(0,2),(2,7),(3,7),(7,0)] [(0,3),(2,3)] [[1,0,2,3,4,5,6,7,8,9],[1,0,2,7,3,4,5,6,8,9],[1,7,0,2,3,4,5,6,8,9],[1,0,7,2,3,4,5,6,8,9],[1,2,0,3,4,5,6,7,8,9],[1,2,7,0,3,4,5,6,8,9],[1,2,0,7,3,4,5,6,8,9],[1,7,2,0,3,4,5,6,8,9]] (by kernel_rfl) (qC) (by kernel_rfl) ?_
 simp only [allDn]
 refine ⟨runW_den 400 ?_,runW_den 400 ?_,runW_den 400 ?_,runW_den 400 ?_,runW_den 400 ?_,runW_den 400 ?_,runW_den 400 ?_,runW_den 400 ?_⟩
 all_goals simp (disch := omega) only [go_sem,Nat.reduceEqDiff,Nat.reduceAdd,Nat.reduceSub,Int.reduceAdd,Int.reduceSub,Int.reduceToNat]
 ·refine den_callW (qC) (h2) (qA [0,1]) qM (by rfl) (runW_den 400 ?_)
  simp (disch := omega) only [go_sem,Nat.reduceEqDiff,Nat.reduceAdd,Nat.reduceSub,Int.reduceAdd,Int.reduceSub,Int.reduceToNat]
  refine den_callW (qC) (h3) (qA [4]) qM (by rfl) (runW_den 400 ?_)
  simp (disch := omega) only [go_sem,Nat.reduceEqDiff,Nat.reduceAdd,Nat.reduceSub,Int.reduceAdd,Int.reduceSub,Int.reduceToNat]
  refine qG ?_
  exact qF (qA [0,1,5,6,7,8,9,10,11,12,13,14,15,16,17,18,19,20,21,22,23,24,25])
 ·refine den_callW (qC) (h2) (qA [0,1]) qM (by rfl) (runW_den 400 ?_)
  simp (disch := omega) only [go_sem,Nat.reduceEqDiff,Nat.reduceAdd,Nat.reduceSub,Int.reduceAdd,Int.reduceSub,Int.reduceToNat]
  refine den_callW (qC) (h3) (qA [4]) qM (by rfl) (runW_den 400 ?_)
  simp (disch := omega) only [go_sem,Nat.reduceEqDiff,Nat.reduceAdd,Nat.reduceSub,Int.reduceAdd,Int.reduceSub,Int.reduceToNat]
  refine qG ?_
  exact qF (qA [0,1,6,7,8,9,10,11,12,13,14,15,16,17,18,19,20,21,22,23,24,25,26])
 ·refine den_callW (qC) (h2) (qA [0,1]) qM (by rfl) (runW_den 400 ?_)
  simp (disch := omega) only [go_sem,Nat.reduceEqDiff,Nat.reduceAdd,Nat.reduceSub,Int.reduceAdd,Int.reduceSub,Int.reduceToNat]
  refine den_callW (qC) (h3) (qA [5]) qM (by rfl) (runW_den 400 ?_)
  simp (disch := omega) only [go_sem,Nat.reduceEqDiff,Nat.reduceAdd,Nat.reduceSub,Int.reduceAdd,Int.reduceSub,Int.reduceToNat]
  refine qG ?_
  exact qF (qA [0,1,6,7,8,9,10,11,12,13,14,15,16,17,18,19,20,21,22,23,24,25,26])
 ·refine den_callW (qC) (h2) (qA [0,1]) qM (by rfl) (runW_den 400 ?_)
  simp (disch := omega) only [go_sem,Nat.reduceEqDiff,Nat.reduceAdd,Nat.reduceSub,Int.reduceAdd,Int.reduceSub,Int.reduceToNat]
  refine den_callW (qC) (h3) (qA [5]) qM (by rfl) (runW_den 400 ?_)
  simp (disch := omega) only [go_sem,Nat.reduceEqDiff,Nat.reduceAdd,Nat.reduceSub,Int.reduceAdd,Int.reduceSub,Int.reduceToNat]
  refine qG ?_
  exact qF (qA [0,1,6,7,8,9,10,11,12,13,14,15,16,17,18,19,20,21,22,23,24,25,26])
 ·refine den_callW (qC) (h2) (qA [0,1]) qM (by rfl) (runW_den 400 ?_)
  simp (disch := omega) only [go_sem,Nat.reduceEqDiff,Nat.reduceAdd,Nat.reduceSub,Int.reduceAdd,Int.reduceSub,Int.reduceToNat]
  refine den_callW (qC) (h3) (qA [4]) qM (by rfl) (runW_den 400 ?_)
  simp (disch := omega) only [go_sem,Nat.reduceEqDiff,Nat.reduceAdd,Nat.reduceSub,Int.reduceAdd,Int.reduceSub,Int.reduceToNat]
  refine qG ?_
  exact qF (qA [0,1,5,6,7,8,9,10,11,12,13,14,15,16,17,18,19,20,21,22,23,24,25])
 ·refine den_callW (qC) (h2) (qA [0,1]) qM (by rfl) (runW_den 400 ?_)
  simp (disch := omega) only [go_sem,Nat.reduceEqDiff,Nat.reduceAdd,Nat.reduceSub,Int.reduceAdd,Int.reduceSub,Int.reduceToNat]
  refine den_callW (qC) (h3) (qA [4]) qM (by rfl) (runW_den 400 ?_)
  simp (disch := omega) only [go_sem,Nat.reduceEqDiff,Nat.reduceAdd,Nat.reduceSub,Int.reduceAdd,Int.reduceSub,Int.reduceToNat]
  refine qG ?_
  exact qF (qA [0,1,6,7,8,9,10,11,12,13,14,15,16,17,18,19,20,21,22,23,24,25,26])
 ·refine den_callW (qC) (h2) (qA [0,1]) qM (by rfl) (runW_den 400 ?_)
  simp (disch := omega) only [go_sem,Nat.reduceEqDiff,Nat.reduceAdd,Nat.reduceSub,Int.reduceAdd,Int.reduceSub,Int.reduceToNat]
  refine den_callW (qC) (h3) (qA [4]) qM (by rfl) (runW_den 400 ?_)
  simp (disch := omega) only [go_sem,Nat.reduceEqDiff,Nat.reduceAdd,Nat.reduceSub,Int.reduceAdd,Int.reduceSub,Int.reduceToNat]
  refine qG ?_
  exact qF (qA [0,1,6,7,8,9,10,11,12,13,14,15,16,17,18,19,20,21,22,23,24,25,26])
 ·refine den_callW (qC) (h2) (qA [0,1]) qM (by rfl) (runW_den 400 ?_)
  simp (disch := omega) only [go_sem,Nat.reduceEqDiff,Nat.reduceAdd,Nat.reduceSub,Int.reduceAdd,Int.reduceSub,Int.reduceToNat]
  refine den_callW (qC) (h3) (qA [5]) qM (by rfl) (runW_den 400 ?_)
  simp (disch := omega) only [go_sem,Nat.reduceEqDiff,Nat.reduceAdd,Nat.reduceSub,Int.reduceAdd,Int.reduceSub,Int.reduceToNat]
  refine qG ?_
  exact qF (qA [0,1,6,7,8,9,10,11,12,13,14,15,16,17,18,19,20,21,22,23,24,25,26])
structure BentW (w : WorldD) : Prop where
 s : SmallW w
 pa : SmallP w.a.inp
 pb : SmallP w.b.inp
 ra : w.readA.length ≤ 1000000000
 rb : w.readB.length ≤ 1000000000
theorem FineW.bent {w : WorldD} (h : FineW w) : BentW w := ⟨h.g.s,h.g.a.p,h.g.b.p,by have := h.g.ra; omega,by have := h.g.rb; omega⟩
end
section
open Go.RowKit

def cntS (l : List LetterD) : Nat := (l.filter fun x => !decide (sideAt x.to = 0)).length
theorem cntS_step {l : List LetterD} {k : Nat} (h : k < l.length) : cntS (l.take (k + 1)) = cntS (l.take k) + (if sideAt l[k].to = 0 then 0 else 1) := by
 rw [List.take_succ_eq_append_getElem h,cntS,List.filter_append,List.length_append,← cntS]
 congr 1
 by_cases h0 : sideAt l[k].to = 0 <;> simp [h0]
theorem cntS_le {l : List LetterD} {k : Nat} : cntS (l.take k) ≤ l.length := by
 refine Nat.le_trans (List.length_filter_le _ _) ?_
 rw [List.length_take]; omega
theorem post1_bag {side : Int} {w : WorldD} {x : LetterD} (h : w.bag.length ≤ 40) : (post1 side w x).bag.length = min 40 (w.bag.length + (if sideAt x.to = 0 then 0 else 1)) := by
 rw [post1]; split
 ·show w.bag.length = _; omega
 ·show (bagP w.bag x).length = _
  rw [bagP]; split
  ·simp; omega
  ·omega
theorem post1_past {side : Int} {w : WorldD} {x : LetterD} (h : w.past.length ≤ 150) : (post1 side w x).past.length = min 150 (w.past.length + 1) := by
 have e : (post1 side w x).past = pastP w.past x := by rw [post1]; split <;> rfl
 rw [e,pastP]; split
 ·simp; omega
 ·omega
theorem postL_bag {side : Int} : ∀ {l : List LetterD} {w : WorldD},w.bag.length ≤ 40 → w.past.length ≤ 150 → (postL side w l).bag.length = min 40 (w.bag.length + cntS l) ∧ (postL side w l).past.length = min 150 (w.past.length + l.length)
 | [],w,h1,h2 => by
  rw [show postL side w [] = w from rfl,show cntS [] = 0 from rfl,List.length_nil]; omega
 | x :: l,w,h1,h2 => by
  have e1 := post1_bag (side := side) (x := x) h1
  have e2 := post1_past (side := side) (x := x) h2
  obtain ⟨g1,g2⟩ := postL_bag (side := side) (l := l) (w := post1 side w x) (by omega) (by omega)
  have e3 : cntS (x :: l) = (if sideAt x.to = 0 then 0 else 1) + cntS l := by
   by_cases h0 : sideAt x.to = 0 <;> simp [cntS,h0]; omega
  rw [show postL side w (x :: l) = postL side (post1 side w x) l from rfl,g1,g2,e1,e2,e3,List.length_cons]
  omega
def Makes (w : WorldD) (t : TagD) : Prop := canMake w.known t = true ∨ 300 ≤ w.known.tags.length
theorem learn_len (k : KnownD) (t : TagD) : k.tags.length ≤ (learn k t).tags.length := by rw [learn]; split <;> simp
theorem learn_can {k : KnownD} {t u : TagD} (h : canMake k u = true) : canMake (learn k t) u = true := by
 rw [learn]; split
 ·rename_i hh
  simp only [canMake,Bool.or_eq_true] at h ⊢
  rcases h with h | h
  ·exact .inl h
  ·right
   rw [List.take_of_length_le (by omega)] at h
   rw [List.take_of_length_le (by simp; omega),List.any_append,h]; rfl
 ·exact h
theorem learn_self (k : KnownD) (t : TagD) : canMake (learn k t) t = true ∨ 300 ≤ (learn k t).tags.length := by
 by_cases h : canMake k t = true
 ·exact .inl (learn_can h)
 ·rw [Bool.not_eq_true] at h
  by_cases h2 : k.tags.length < 300
  ·left
   rw [learn,if_pos ⟨h,h2⟩]
   simp only [canMake,Bool.or_eq_true]
   right
   rw [List.take_of_length_le (by simp; omega),List.any_append]
   simp
  ·right
   rw [learn,if_neg (fun hh => h2 hh.2)]; omega
theorem post1_makes {side : Int} {w : WorldD} {x : LetterD} {t : TagD} (h : Makes w t) : Makes (post1 side w x) t := by
 rw [post1]; split
 ·show canMake (learn w.known x.tag) t = true ∨ 300 ≤ (learn w.known x.tag).tags.length
  have := learn_len w.known x.tag
  rcases h with h | h
  ·exact .inl (learn_can h)
  ·right; omega
 ·exact h
theorem postL_makes {side : Int} {t : TagD} : ∀ {l : List LetterD} {w : WorldD},Makes w t → Makes (postL side w l) t
 | [],w,h => h
 | x :: l,w,h => postL_makes (l := l) (post1_makes h)
theorem postL_learns {side : Int} {l : List LetterD} : ∀ {w : WorldD} {k : Nat} (hk : k < l.length),sideAt l[k].to = 0 → Makes (postL side w l) l[k].tag := by
 induction l with
 | nil => intro w k hk; exact absurd hk (by simp)
 | cons x l ih =>
  intro w k hk h0
  cases k with
  | zero =>
   simp only [List.getElem_cons_zero] at h0 ⊢
   have h1 : Makes (post1 side w x) x.tag := by
    rw [post1,if_pos h0]
    show canMake (learn w.known x.tag) x.tag = true ∨ 300 ≤ (learn w.known x.tag).tags.length
    exact learn_self w.known x.tag
   exact postL_makes (l := l) h1
  | succ k =>
   simp only [List.getElem_cons_succ] at h0 ⊢
   exact ih (w := post1 side w x) (by simpa using hk) h0
def BagW (w : WorldD) : Prop := w.bag.length ≤ 40 ∧ w.past.length ≤ 150
theorem postL_bagW {side : Int} {l : List LetterD} {w : WorldD} (h : BagW w) : BagW (postL side w l) := by
 obtain ⟨h1,h2⟩ := postL_bag (side := side) (l := l) h.1 h.2
 constructor <;> omega
theorem setEnd_bagW {w : WorldD} {s : Int} {e : EndD} (h : BagW w) : BagW (setEnd w s e) := by unfold setEnd; split <;> exact h
theorem actW_bagW {w : WorldD} {a : ActD} (h : BagW w) : BagW (actW w a) := by
 unfold actW wrote gotRead; repeat' split
 all_goals exact h
theorem lands_bagW {w : WorldD} {x : LetterD} (h : BagW w) : BagW (lands w x) := by
 rw [lands]; split
 ·exact h
 ·rw [posted]; split
  ·exact postL_bagW (setEnd_bagW h)
  ·exact setEnd_bagW h
theorem doneW_bagW {w : WorldD} {a : ActD} (h : BagW w) : BagW (doneW w a).1 := by
 have hb : BagW { w with bag := bagOut w.bag a.pos } := ⟨by have := h.1; simp only [bagOut,List.length_append,List.length_take,List.length_drop]; omega,h.2⟩
 have ha : ∀ x,¬ 40 ≤ w.bag.length → BagW { w with bag := w.bag ++ [x] } := fun x hx => ⟨by simp only [List.length_append,List.length_singleton]; omega,h.2⟩
 unfold doneW; split
 ·split
  ·unfold acts; split
   ·exact h
   ·exact postL_bagW (setEnd_bagW (actW_bagW h))
  ·rw [moves]
   split
   ·split
    ·exact h
    split
    ·exact lands_bagW hb
    ·exact hb
   split
   ·split
    ·exact h
    ·rename_i hh; exact ha _ (fun h40 => hh (.inr h40))
   split
   ·split
    ·exact h
    split
    ·exact h
    ·rename_i hh; exact ha _ hh
   ·split
    ·exact h
    ·rename_i hh; exact ha _ (fun h40 => hh (.inr (.inr h40)))
 ·exact h
end
section
open Go.RowKit

theorem livedW_bag : ∀ {l : List ActD} {w : WorldD} {cs : List Int},BagW w → BagW (livedW l w cs).1
 | [],w,cs,h => h
 | a :: l,w,cs,h => livedW_bag (l := l) (doneW_bagW h)
def manyD {α : Type} (F : CurD → α × CurD) : Nat → CurD → List α × CurD
 | 0,c => ([],c)
 | n + 1,c => ((F c).1 :: (manyD F n (F c).2).1,(manyD F n (F c).2).2)
theorem manyD_ok {α : Type} {b : List UInt8} {F : CurD → α × CurD} (hF : ∀ c,c.ok b → (F c).2.ok b) : ∀ (n : Nat) (c : CurD),c.ok b → (manyD F n c).2.ok b ∧ (manyD F n c).1.length = n
 | 0,c,h => ⟨h,rfl⟩
 | n + 1,c,h => by
  obtain ⟨h3,h4⟩ := manyD_ok hF n (F c).2 (hF c h)
  exact ⟨h3,by simp only [manyD,List.length_cons,h4]⟩
def anyD {α : Type} (b : List UInt8) (F : CurD → α × CurD) : Nat → Nat → CurD → List α × CurD
 | 0,_,c => ([],(c.below b 4).2)
 | n + 1,i,c => if (i : Int) < (c.below b 4).1 then ((F (c.below b 4).2).1 :: (anyD b F n (i + 1) (F (c.below b 4).2).2).1,(anyD b F n (i + 1) (F (c.below b 4).2).2).2) else ([],(c.below b 4).2)
theorem anyD_ok {α : Type} {b : List UInt8} {F : CurD → α × CurD} (hF : ∀ c,c.ok b → (F c).2.ok b) : ∀ (n i : Nat) (c : CurD),c.ok b → (anyD b F n i c).2.ok b ∧ (anyD b F n i c).1.length ≤ n
 | 0,i,c,h => ⟨CurD.below_ok h 4,Nat.le_refl _⟩
 | n + 1,i,c,h => by
  have h1 := CurD.below_ok h 4
  rw [anyD]; split
  ·obtain ⟨h3,h4⟩ := anyD_ok hF n (i + 1) (F (c.below b 4).2).2 (hF _ h1)
   exact ⟨h3,by simp only [List.length_cons]; omega⟩
  ·exact ⟨h1,Nat.zero_le _⟩
theorem anyD_eq {α : Type} {b : List UInt8} {F : CurD → α × CurD} {i : Nat} {c : CurD} (hi : i ≤ 3) : anyD b F (3 - i) i c = if (i : Int) < (c.below b 4).1 then ((F (c.below b 4).2).1 :: (anyD b F (3 - (i + 1)) (i + 1) (F (c.below b 4).2).2).1,(anyD b F (3 - (i + 1)) (i + 1) (F (c.below b 4).2).2).2) else ([],(c.below b 4).2) := by
 by_cases h : i = 3
 ·subst h
  have := c.below_lt b (n := 4) (by omega)
  rw [if_neg (by omega)]; rfl
 ·rw [show 3 - i = 3 - (i + 1) + 1 from by omega,anyD]
theorem spec_DrawPosted (b : List UInt8) (hb : b.length ≤ 1048576) : ∃ (w : WorldD) (s : Int) (l : List LetterD),(FineW w ∧ BagW w) ∧ (0 ≤ s ∧ s ≤ 2) ∧ l.length ≤ 43 ∧ CallA Tryz.prog 21 [.sc (.sl 0 0 b.length)] [some ⟨b.map byteC,1,5,false,true⟩] (.tu [.ag (w.cs 1),.sc (.int .i64 s),.sc (.sl 22 0 l.length)]) ([some ⟨b.map byteC,1,5,false,true⟩] ++ (w.hp true ++ [some ⟨l.map LetterD.cs,19,67,true,true⟩])) := by
 obtain ⟨w,c,hc,⟨hw,w0,la,h0,hwl⟩,h⟩ := spec_l24World b (newCur b) (newCur_ok hb)
 have hbag : BagW w := by rw [hwl]; exact livedW_bag ⟨by rw [h0.bag]; decide,by rw [h0.past]; decide⟩
 clear hwl h0
 obtain ⟨F,hF⟩ := skol (b := b) (spec_l16Any b)
 obtain ⟨G,hG⟩ := skol (b := b) (spec_l16Letter b)
 have q := anyD_ok (F := F) (fun c h => (hF c h).1) 3 0 c hc
 obtain ⟨R,hR⟩ : ∃ R,R = anyD b F 3 0 c := ⟨_,rfl⟩
 rw [← hR] at q
 obtain ⟨l1,c1⟩ := R
 dsimp only at q
 have h2 := spec_l01Once b c1 q.1 8
 have o2 := CurD.below_ok q.1 8
 generalize c1.below b 8 = r2 at h2 o2
 obtain ⟨u,c2⟩ := r2
 dsimp only at h2 o2
 generalize (u == 0) = p at h2
 have qm := manyD_ok (F := G) (fun c h => (hG c h).1) 40 c2 o2
 obtain ⟨S,hS⟩ : ∃ S,S = if p = true then (l1 ++ (manyD G 40 c2).1,(manyD G 40 c2).2) else (l1,c2) := ⟨_,rfl⟩
 have qs : S.2.ok b ∧ S.1.length ≤ 43 := by
  rw [hS]; split
  ·exact ⟨qm.1,by simp only [List.length_append,qm.2]; omega⟩
  ·exact ⟨o2,by dsimp only; omega⟩
 clear qm
 obtain ⟨l,c3⟩ := S
 dsimp only at qs
 have h3 := spec_l01PickInt b c3 qs.1 [1,2,1,2,0] (by decide) (by decide)
 have m3 := c3.pick_mem b (l := [1,2,1,2,0]) (by decide)
 have w3 := (by decide : ∀ x ∈ ([1,2,1,2,0] : List Int),0 ≤ x ∧ x ≤ 2) _ m3
 rw [show (([1,2,1,2,0] : List Int).length : Int) = 5 from rfl] at h3
 generalize c3.pick b [1,2,1,2,0] = v at h3 w3
 clear m3
 generalize (c3.below b 5).2 = c4 at h3
 refine ⟨w,v,l,⟨hw,hbag⟩,w3,qs.2,?_⟩
 clear hw hbag
 refine qEO Tryz.func21 Tryz.ntmps21 Tryz.results21 fun E hE => ?_
 refine qK (spec_l01New b hb) (qA [0]) ?_
 refine qK (h) (qA [0,2]) ?_
 refine den_lpO 1 hE (fun s (y : List LetterD × CurD) => s.at [0,10,11,12,13,14,15,16,17,18,19,20,21,22,23,24,25] [(8,.sc (.int .i64 (y.1.length : Nat))),(7,.sc (.sl 25 0 y.1.length))] (s.hp.take 2 ++ ([some ⟨[CurD.cs y.2 b],3,114,true,false⟩] ++ (w.hp true ++ [some ⟨[WorldD.cs w 3],61,58,true,false⟩,some ⟨y.1.map LetterD.cs,19,67,true,true⟩])))) (fun (y : List LetterD × CurD) => y.1.length ≤ 3 ∧ y.2.ok b ∧ (y.1 ++ (anyD b F (3 - y.1.length) y.1.length y.2).1,(anyD b F (3 - y.1.length) y.1.length y.2).2) = (l1,c1)) (fun (y : List LetterD × CurD) => 3 - y.1.length) ([],c) (qA [0,1,2,3,4,5,6,7,8,9,10,11,12,13,14,15,16,17,18,19,20,21,22,23,24,25]) (qC) (⟨Nat.zero_le _,hc,hR.symm⟩) (weak_mkO (by rfl) (by rfl) ?_) fun y hy N hN => ?_
 ·exact qY
 ·obtain ⟨acc,c5⟩ := y
  obtain ⟨f1,f2,f3⟩ := hy
  dsimp only at f1 f2 f3
  rw [anyD_eq f1] at f3
  have h5 := spec_l01Below b c5 f2 4
  have o5 := CurD.below_ok f2 4
  have b5 := c5.below_lt b (n := 4) (by omega)
  generalize c5.below b 4 = r5 at h5 o5 b5 f3
  obtain ⟨v5,c6⟩ := r5
  dsimp only at h5 o5 b5 f3
  refine qR ?_
  refine qK (h5) (qA [0,2]) ?_
  refine qB (fun h9 => ?_) fun h9 => ?_
  ·rw [if_pos (by omega)] at f3
   obtain ⟨k1,k2,k3⟩ := hF c6 o5
   generalize F c6 = z at k1 k2 k3 f3
   obtain ⟨a,c7⟩ := z
   dsimp only at k1 k2 k3 f3
   refine qK (k3) (qA [0,2]) ?_
   refine ⟨qC,hN _ (acc ++ [a],c7) (qA [0,1,2,3,4,5,6,7,8,9,10,11,12,13,14,15,16,17,18,19,20,21,22,23,24,27]) (by (try dsimp only); exact ⟨by simp; omega,k1,by rw [List.length_append,List.length_singleton,List.append_assoc]; exact f3⟩) (by simp; omega) (weak_mkO (by rfl) (by rfl) ?_)⟩
   try simp (disch := omega) only [go_sem,Nat.reduceEqDiff,Nat.reduceAdd,Nat.reduceSub,Int.reduceAdd,Int.reduceSub,Int.reduceToNat]
   try simp [LetterD.cs]
  ·rw [if_neg (by omega)] at f3
   simp only [List.append_nil,Prod.mk.injEq] at f3
   obtain ⟨g1,g2⟩ := f3
   subst g1 g2
   rcases Bool.eq_false_or_eq_true p with e | e
   ·rw [e] at h2 hS
    rw [if_pos rfl] at hS
    refine qK (h2) (qA [0,2]) ?_
    refine den_lpO 1 hE (fun s (z : Nat × List LetterD × CurD) => s.at [0,8,10,11,12,13,14,15,16,17,18,19,20,21,22,23,24,25,26,27,28,29,30,31,32,33,34,35,36] [(9,.sc (.int .i64 (z.1 : Nat))),(7,.sc (.sl 25 0 z.2.1.length))] (s.hp.take 2 ++ ([some ⟨[CurD.cs z.2.2 b],3,114,true,false⟩] ++ (w.hp true ++ [some ⟨[WorldD.cs w 3],61,58,true,false⟩,some ⟨z.2.1.map LetterD.cs,19,67,true,true⟩])))) (fun (z : Nat × List LetterD × CurD) => z.1 ≤ 40 ∧ z.2.1.length ≤ 3 + z.1 ∧ z.2.2.ok b ∧ (z.2.1 ++ (manyD G (40 - z.1) z.2.2).1,(manyD G (40 - z.1) z.2.2).2) = (l,c3)) (fun (z : Nat × List LetterD × CurD) => 40 - z.1) (0,acc,c2) (qA [0,1,2,3,4,5,6,7,8,9,10,11,12,13,14,15,16,17,18,19,20,21,22,23,24,25]) (qC) (⟨Nat.zero_le _,f1,o2,hS.symm⟩) (weak_mkO (by rfl) (by rfl) ?_) fun z hz N2 hN2 => ?_
    ·exact qY
    ·obtain ⟨k,L,c5⟩ := z
     obtain ⟨j1,j2,j3,j4⟩ := hz
     dsimp only at j1 j2 j3 j4
     refine qR ?_
     refine qB (fun h8 => ?_) fun h8 => ?_
     ·obtain ⟨k1,k2,k3⟩ := hG c5 j3
      rw [show 40 - k = (40 - (k + 1)) + 1 from by omega,manyD] at j4
      generalize G c5 = x at k1 k2 k3 j4
      obtain ⟨a,c7⟩ := x
      dsimp only at k1 k2 k3 j4
      refine qK (k3) (qA [0,2]) ?_
      refine ⟨qC,hN2 _ (k + 1,L ++ [a],c7) (qA [0,1,2,3,4,5,6,7,8,9,10,11,12,13,14,15,16,17,18,19,20,21,22,23,24,27]) (by (try dsimp only); exact ⟨by omega,by simp; omega,k1,by rw [List.append_assoc]; exact j4⟩) (by dsimp only; omega) (weak_mkO (by rfl) (by rfl) ?_)⟩
      try simp (disch := omega) only [go_sem,Nat.reduceEqDiff,Nat.reduceAdd,Nat.reduceSub,Int.reduceAdd,Int.reduceSub,Int.reduceToNat]
      try simp [LetterD.cs]
     ·rw [show 40 - k = 0 from by omega] at j4
      simp only [manyD,List.append_nil,Prod.mk.injEq] at j4
      obtain ⟨g1,g2⟩ := j4
      subst g1 g2
      refine den_drawKW [(0,3),(2,0)] [(2,3)] [[1,4,2,0,3,5,6,7],[1,4,0,2,3,5,6,7],[1,4,2,3,0,5,6,7]] (by kernel_rfl) (qC) (by kernel_rfl) ?_
      simp only [allDn]
      refine ⟨runW_den 400 ?_,runW_den 400 ?_,runW_den 400 ?_⟩
      all_goals simp (disch := omega) only [go_sem,Nat.reduceEqDiff,Nat.reduceAdd,Nat.reduceSub,Int.reduceAdd,Int.reduceSub,Int.reduceToNat]
      all_goals
       refine den_callW (qC) (h3) (qA [0,2,26]) qM (by rfl) (runW_den 400 ?_)
       simp (disch := omega) only [go_sem,Nat.reduceEqDiff,Nat.reduceAdd,Nat.reduceSub,Int.reduceAdd,Int.reduceSub,Int.reduceToNat]
       refine qG ?_
       exact qFO (qA [0,3,4,5,6,7,8,9,10,11,12,13,14,15,16,17,18,19,20,21,22,23,25])
   ·rw [e] at h2 hS
    rw [if_neg (by decide)] at hS
    simp only [Prod.mk.injEq] at hS
    obtain ⟨g1,g2⟩ := hS
    subst g1 g2
    refine qK (h2) (qA [0,2]) ?_
    refine den_drawKW [(0,3),(2,0)] [(2,3)] [[1,4,2,0,3,5,6,7],[1,4,0,2,3,5,6,7],[1,4,2,3,0,5,6,7]] (by kernel_rfl) (qC) (by kernel_rfl) ?_
    simp only [allDn]
    refine ⟨runW_den 400 ?_,runW_den 400 ?_,runW_den 400 ?_⟩
    all_goals simp (disch := omega) only [go_sem,Nat.reduceEqDiff,Nat.reduceAdd,Nat.reduceSub,Int.reduceAdd,Int.reduceSub,Int.reduceToNat]
    all_goals
     refine den_callW (qC) (h3) (qA [0,2,26]) qM (by rfl) (runW_den 400 ?_)
     simp (disch := omega) only [go_sem,Nat.reduceEqDiff,Nat.reduceAdd,Nat.reduceSub,Int.reduceAdd,Int.reduceSub,Int.reduceToNat]
     refine qG ?_
     exact qFO (qA [0,3,4,5,6,7,8,9,10,11,12,13,14,15,16,17,18,19,20,21,22,23,25])
end
section
open Go.RowKit

theorem impl_PostedD (w : WorldD) (s : Int) (l : List LetterD) (hw : SmallW w) (hl : l.length ≤ 1048576) : CallA Tryz.prog 22 [.ag (w.cs 0),.sc (.int .i64 s),.sc (.sl 21 0 l.length)]
  (w.hp false ++ [some ⟨l.map LetterD.cs,19,67,false,true⟩]) (.ag ((posted w s l).cs 22)) (w.hp false ++ ([some ⟨l.map LetterD.cs,19,67,false,true⟩] ++ (posted w s l).hp true)) := by
 have hC := impl_copyWorld w hw
 by_cases h12 : s = 1 ∨ s = 2
 ·rw [posted_t h12]
  have hends := postL_ends (side := s) (l := l) (w := w)
  have hP : CallA Tryz.prog 72 [.sc (.pt 21 0 0),.sc (.int .i64 s),.sc (.sl 22 0 l.length)]
   (endsHp w false ++ (restHp w true ++ [some ⟨[w.cs 0],61,58,true,false⟩,some ⟨l.map LetterD.cs,19,67,false,true⟩])) (.tu [])
   (endsHp w false ++ ([none,none,none,none,none,none,none,some ⟨[(worldC (postL s w l) 0 1 2 3 4 5 6 7 8 9 10 11 12 13 23 24 25 26 27 28 29)],61,58,true,false⟩,some ⟨l.map LetterD.cs,19,67,false,true⟩] ++ restHp (postL s w l) true)) := by
   rcases h12 with rfl | rfl
   ·exact impl_post1 w l hw.rest hl
   ·exact impl_post2 w l hw.rest hl
  have hin : inR s 1 2 = true := by simp only [inR,Bool.and_eq_true,decide_eq_true_eq]; omega
  have hI := impl_within s 1 2
  rw [hin] at hI
  obtain ⟨R,hR⟩ : ∃ R,R = postL s w l := ⟨_,rfl⟩
  rw [← hR] at hP hends ⊢
  clear hR
  obtain ⟨ua,ub,bag,past,wA,wB,rA,rB,known,nums,nsA,nsB⟩ := R
  obtain ⟨keys,tags⟩ := known
  dsimp only at hends
  obtain ⟨e1,e2,e3,e4,e5,e6⟩ := hends
  subst e1 e2 e3 e4 e5 e6
  refine qEO Tryz.func22 Tryz.ntmps22 Tryz.results22 fun E hE => ?_
  refine qK (hC) (qA [0,1,2,3,4,5,6,7,8,9,10,11,12,13,14,15,16,17,18,19,20]) ?_
  refine qK (hI) [] ?_
  refine qK (hP) (qA [24,25,26,27,28,29,30,31,32,33,34,35,36,37,38,39,40,41,42,43,44,45,21]) ?_
  exact qFO (qA [0,1,2,3,4,5,6,7,8,9,10,11,12,13,14,15,16,17,18,19,20,21,24,25,26,27,28,29,30,31,32,33,34,35,36,37,46,47,48,49,50,51,52])
 ·rw [posted_f h12]
  have hin : inR s 1 2 = false := by
   rw [Bool.eq_false_iff]; intro hh
   simp only [inR,Bool.and_eq_true,decide_eq_true_eq] at hh; omega
  have hI := impl_within s 1 2
  rw [hin] at hI
  refine qEO Tryz.func22 Tryz.ntmps22 Tryz.results22 fun E hE => ?_
  refine qK (hC) (qA [0,1,2,3,4,5,6,7,8,9,10,11,12,13,14,15,16,17,18,19,20]) ?_
  refine qK (hI) [] ?_
  exact qFO (qA [0,1,2,3,4,5,6,7,8,9,10,11,12,13,14,15,16,17,18,19,20,21,24,25,26,27,28,29,30,31,32,33,34,35,36,37,38,39,40,41,42,43,44])
theorem spec_PostedD (w : WorldD) (s : Int) (l : List LetterD) (hw : SmallW w) (hl : l.length ≤ 1048576) : CallA Tryz.prog 23 [.ag (w.cs 0),.sc (.int .i64 s),.sc (.sl 21 0 l.length)]
  (w.hp false ++ [some ⟨l.map LetterD.cs,19,67,false,true⟩]) (.ag ((posted w s l).cs 22)) (w.hp false ++ ([some ⟨l.map LetterD.cs,19,67,false,true⟩] ++ (posted w s l).hp true)) := by
 by_cases h1 : s = 1
 ·subst h1; rw [posted_t (.inl rfl)]; exact spec_Posted1 w l hw hl
 ·by_cases h2 : s = 2
  ·subst h2; rw [posted_t (.inr rfl)]; exact spec_Posted2 w l hw hl
  ·rw [posted_f (by omega)]
   have hC := spec_l23Copy w hw
   refine qEO Tryz.func23 Tryz.ntmps23 Tryz.results23 fun E hE => ?_
   refine qK (hC) (qA [0,1,2,3,4,5,6,7,8,9,10,11,12,13,14,15,16,17,18,19,20]) ?_
   refine den_lpO 22 hE (fun s (k : Nat) => s.at [0,8,9,10,11,12,13,14,15,16,17,18,19,20,21,22,23,24,25,26,27,28,29,30,31,32,33,34,35,36,37,38,39,40,41,42,43,44,45,46,47,48,49,50,51,52,53,54,55,56,57,58,59,60,61,62,63,64,65,66,67,68,69,70,71,72,73,74,75,76,77,78,79,80,81,82,83,84,85,86,87,88,89,90,91,92,93,94,95,96,97,98,99,100,101,102,103,104,105,106,107,108,109,110,111,112] [(7,.sc (.int .i64 (k : Nat)))] (s.hp)) (fun (k : Nat) => k ≤ l.length) (fun (k : Nat) => l.length - k) 0 (qA [0,1,2,3,4,5,6,7,8,9,10,11,12,13,14,15,16,17,18,19,20,21,22,23,24,25,26,27,28,29,30,31,32,33,34,35,36,37,38,39,40,41,42,43,44]) (qC) (Nat.zero_le _) (weak_mkO (by rfl) (by rfl) ?_) fun k hk N hN => ?_
   ·exact qY
   ·refine qR ?_
    by_cases b1 : k < l.length
    all_goals
     refine qX ?_
     exact qFO (qA [0,1,2,3,4,5,6,7,8,9,10,11,12,13,14,15,16,17,18,19,20,21,24,25,26,27,28,29,30,31,32,33,34,35,36,37,38,39,40,41,42,43,44])
end
section
open Go.RowKit

attribute [go_sem] List.append_eq
theorem laws_sameAddrs (l : List AddrD) (hl : l.length ≤ 4611686018427387904) : CallA Tryz.prog 122 [.sc (.sl 0 0 l.length),.sc (.sl 1 0 l.length)] [some ⟨l.map AddrD.cs,4,80,false,true⟩,some ⟨l.map AddrD.cs,4,80,false,true⟩] (.sc (.bo true)) [some ⟨l.map AddrD.cs,4,80,false,true⟩,some ⟨l.map AddrD.cs,4,80,false,true⟩] := by
 refine qE Tryz.func122 Tryz.ntmps122 Tryz.results122 fun E hE => ?_
 refine den_lp 2 hE (fun s (k : Nat) => s.at [4,6,7,8,9,10,11,12,13,14,15,16,17,18,19,20,21,22,23,24,25] [(5,.sc (.int .i64 (k : Nat)))] (s.hp)) (fun (k : Nat) => k ≤ l.length) (fun (k : Nat) => l.length - k) 0 (qA [0,1]) (qC) (Nat.zero_le _) (weak_mk (by rfl) (by rfl) ?_) fun k hk N hN => ?_
 ·exact qY
 ·refine qR ?_
  refine qB (fun h => ?_) fun h => ?_
  ·refine qD [0,1,2,3,4,5,6,7,8] ?_
   refine qG ?_
   exact qN hN (k + 1) (qA [0,1]) (by (try dsimp only); exact h)
  ·exact qF (qA [0,1])

theorem laws_sameSubs (l : List SubD) (hl : l.length ≤ 4611686018427387904) : CallA Tryz.prog 123 [.sc (.sl 0 0 l.length),.sc (.sl 1 0 l.length)] [some ⟨l.map SubD.cs,10,78,false,true⟩,some ⟨l.map SubD.cs,10,78,false,true⟩] (.sc (.bo true)) [some ⟨l.map SubD.cs,10,78,false,true⟩,some ⟨l.map SubD.cs,10,78,false,true⟩] := by
 refine qE Tryz.func123 Tryz.ntmps123 Tryz.results123 fun E hE => ?_
 refine den_lp 2 hE (fun s (k : Nat) => s.at [4,6,7,8,9,10,11,12,13,14,15,16,17,18,19,20,21,22,23,24,25] [(5,.sc (.int .i64 (k : Nat)))] (s.hp)) (fun (k : Nat) => k ≤ l.length) (fun (k : Nat) => l.length - k) 0 (qA [0,1]) (qC) (Nat.zero_le _) (weak_mk (by rfl) (by rfl) ?_) fun k hk N hN => ?_
 ·exact qY
 ·refine qR ?_
  refine qB (fun h => ?_) fun h => ?_
  ·refine qD [0,1,2,3,4,5,6,7,8] ?_
   refine qG ?_
   exact qN hN (k + 1) (qA [0,1]) (by (try dsimp only); exact h)
  ·exact qF (qA [0,1])

theorem laws_sameHalfs (l : List HalfD) (hl : l.length ≤ 4611686018427387904) : CallA Tryz.prog 124 [.sc (.sl 0 0 l.length),.sc (.sl 1 0 l.length)] [some ⟨l.map HalfD.cs,8,118,false,true⟩,some ⟨l.map HalfD.cs,8,118,false,true⟩] (.sc (.bo true)) [some ⟨l.map HalfD.cs,8,118,false,true⟩,some ⟨l.map HalfD.cs,8,118,false,true⟩] := by
 refine qE Tryz.func124 Tryz.ntmps124 Tryz.results124 fun E hE => ?_
 refine den_lp 2 hE (fun s (k : Nat) => s.at [4,6,7,8,9,10,11,12,13,14,15,16,17,18,19,20,21,22,23,24,25] [(5,.sc (.int .i64 (k : Nat)))] (s.hp)) (fun (k : Nat) => k ≤ l.length) (fun (k : Nat) => l.length - k) 0 (qA [0,1]) (qC) (Nat.zero_le _) (weak_mk (by rfl) (by rfl) ?_) fun k hk N hN => ?_
 ·exact qY
 ·refine qR ?_
  refine qB (fun h => ?_) fun h => ?_
  ·refine qD [0,1,2,3,4,5,6,7,8] ?_
   refine qG ?_
   exact qN hN (k + 1) (qA [0,1]) (by (try dsimp only); exact h)
  ·exact qF (qA [0,1])

theorem laws_samePieceList (l : List PieceD) (hl : l.length ≤ 4611686018427387904) : CallA Tryz.prog 148 [.sc (.sl 0 0 l.length),.sc (.sl 1 0 l.length)] [some ⟨l.map PieceD.cs,2,121,false,true⟩,some ⟨l.map PieceD.cs,2,121,false,true⟩] (.sc (.bo true)) [some ⟨l.map PieceD.cs,2,121,false,true⟩,some ⟨l.map PieceD.cs,2,121,false,true⟩] := by
 refine qE Tryz.func148 Tryz.ntmps148 Tryz.results148 fun E hE => ?_
 refine den_lp 2 hE (fun s (k : Nat) => s.at [4,6,7,8,9,10,11,12,13,14,15,16,17,18,19,20,21,22,23,24,25] [(5,.sc (.int .i64 (k : Nat)))] (s.hp)) (fun (k : Nat) => k ≤ l.length) (fun (k : Nat) => l.length - k) 0 (qA [0,1]) (qC) (Nat.zero_le _) (weak_mk (by rfl) (by rfl) ?_) fun k hk N hN => ?_
 ·exact qY
 ·refine qR ?_
  refine qB (fun h => ?_) fun h => ?_
  ·refine qD [0,1,2,3,4,5,6,7,8] ?_
   refine qG ?_
   exact qN hN (k + 1) (qA [0,1]) (by (try dsimp only); exact h)
  ·exact qF (qA [0,1])

theorem laws_sameLetters (l : List LetterD) (hl : l.length ≤ 4611686018427387904) : CallA Tryz.prog 78 [.sc (.sl 0 0 l.length),.sc (.sl 1 0 l.length)] [some ⟨l.map LetterD.cs,19,67,false,true⟩,some ⟨l.map LetterD.cs,19,67,false,true⟩] (.sc (.bo true)) [some ⟨l.map LetterD.cs,19,67,false,true⟩,some ⟨l.map LetterD.cs,19,67,false,true⟩] := by
 refine qE Tryz.func78 Tryz.ntmps78 Tryz.results78 fun E hE => ?_
 refine den_lp 2 hE (fun s (k : Nat) => s.at [4,6,7,8,9,10,11,12,13,14,15,16,17,18,19,20,21,22,23,24,25] [(5,.sc (.int .i64 (k : Nat)))] (s.hp)) (fun (k : Nat) => k ≤ l.length) (fun (k : Nat) => l.length - k) 0 (qA [0,1]) (qC) (Nat.zero_le _) (weak_mk (by rfl) (by rfl) ?_) fun k hk N hN => ?_
 ·exact qY
 ·refine qR ?_
  refine qB (fun h => ?_) fun h => ?_
  ·refine qD [0,1,2,3,4,5,6,7,8] ?_
   refine qG ?_
   exact qN hN (k + 1) (qA [0,1]) (by (try dsimp only); exact h)
  ·exact qF (qA [0,1])

theorem laws_sameTags (l : List TagD) (hl : l.length ≤ 4611686018427387904) : CallA Tryz.prog 126 [.sc (.sl 0 0 l.length),.sc (.sl 1 0 l.length)] [some ⟨l.map TagD.cs,5,65,false,true⟩,some ⟨l.map TagD.cs,5,65,false,true⟩] (.sc (.bo true)) [some ⟨l.map TagD.cs,5,65,false,true⟩,some ⟨l.map TagD.cs,5,65,false,true⟩] := by
 refine qE Tryz.func126 Tryz.ntmps126 Tryz.results126 fun E hE => ?_
 refine den_lp 2 hE (fun s (k : Nat) => s.at [4,6,7,8,9,10,11,12,13,14,15,16,17,18,19,20,21,22,23,24,25] [(5,.sc (.int .i64 (k : Nat)))] (s.hp)) (fun (k : Nat) => k ≤ l.length) (fun (k : Nat) => l.length - k) 0 (qA [0,1]) (qC) (Nat.zero_le _) (weak_mk (by rfl) (by rfl) ?_) fun k hk N hN => ?_
 ·exact qY
 ·refine qR ?_
  refine qB (fun h => ?_) fun h => ?_
  ·refine qD [0,1,2,3,4,5,6,7,8] ?_
   refine qG ?_
   exact qN hN (k + 1) (qA [0,1]) (by (try dsimp only); exact h)
  ·exact qF (qA [0,1])

theorem laws_sameInts (l : List Int) (hl : l.length ≤ 4611686018427387904) : CallA Tryz.prog 17 [.sc (.sl 0 0 l.length),.sc (.sl 1 0 l.length)] [some ⟨l.map intC,1,3,false,true⟩,some ⟨l.map intC,1,3,false,true⟩] (.sc (.bo true)) [some ⟨l.map intC,1,3,false,true⟩,some ⟨l.map intC,1,3,false,true⟩] := by
 refine qE Tryz.func17 Tryz.ntmps17 Tryz.results17 fun E hE => ?_
 refine den_lp 2 hE (fun s (k : Nat) => s.at [4,6,7,8,9,10,11,12,13,14,15,16,17,18,19,20,21,22,23,24,25] [(5,.sc (.int .i64 (k : Nat)))] (s.hp)) (fun (k : Nat) => k ≤ l.length) (fun (k : Nat) => l.length - k) 0 (qA [0,1]) (qC) (Nat.zero_le _) (weak_mk (by rfl) (by rfl) ?_) fun k hk N hN => ?_
 ·exact qY
 ·refine qR ?_
  refine qB (fun h => ?_) fun h => ?_
  ·refine qD [0,1,2,3,4,5,6,7,8] ?_
   refine qG ?_
   exact qN hN (k + 1) (qA [0,1]) (by (try dsimp only); exact h)
  ·exact qF (qA [0,1])
theorem laws_samePieces (x : PiecesD) (hl : x.list.length ≤ 4611686018427387904) : CallA Tryz.prog 125 [.ag (x.cs 0),.ag (x.cs 1)] (x.hp false ++ x.hp false) (.sc (.bo true)) (x.hp false ++ x.hp false) := by
 refine qE Tryz.func125 Tryz.ntmps125 Tryz.results125 fun E hE => ?_
 refine qK (laws_samePieceList x.list hl) (qA [0,1]) ?_
 exact qF (qA [0,1])
theorem laws_sameEnd (e : EndD) (h0 : e.own.length ≤ 1048576) (h1 : e.far.length ≤ 1048576) (h2 : e.subs.length ≤ 1048576) (h3 : e.halfs.length ≤ 1048576) (h4 : e.inp.list.length ≤ 1048576) (h5 : e.done.length ≤ 1048576) (h6 : e.over.length ≤ 1048576) : CallA Tryz.prog 77 [.ag (e.cs 0),.ag (e.cs 7)] (e.hp false ++ e.hp false) (.sc (.bo true)) (e.hp false ++ e.hp false) := by
 refine qE Tryz.func77 Tryz.ntmps77 Tryz.results77 fun E hE => ?_

 refine qK (laws_sameAddrs e.own (by omega)) (qA [0,7]) ?_
 refine qK (laws_sameAddrs e.far (by omega)) (qA [1,8]) ?_
 refine qK (laws_sameSubs e.subs (by omega)) (qA [2,9]) ?_
 refine qK (laws_sameHalfs e.halfs (by omega)) (qA [3,10]) ?_
 refine qK (laws_samePieces e.inp (by omega)) (qA [4,11]) ?_
 refine qK (laws_sameInts e.done (by omega)) (qA [5,12]) ?_
 refine qK (laws_sameInts e.over (by omega)) (qA [6,13]) ?_
 exact qF (qA [0,1,2,3,4,5,6,7,8,9,10,11,12,13])
theorem laws_sameKnown (x : KnownD) (h0 : x.keys.length ≤ 1048576) (h1 : x.tags.length ≤ 1048576) : CallA Tryz.prog 79 [.ag (x.cs 0),.ag (x.cs 2)] (x.hp false ++ x.hp false) (.sc (.bo true)) (x.hp false ++ x.hp false) := by
 refine qE Tryz.func79 Tryz.ntmps79 Tryz.results79 fun E hE => ?_
 refine qK (laws_sameInts x.keys (by omega)) (qA [0,2]) ?_
 refine qK (laws_sameTags x.tags (by omega)) (qA [1,3]) ?_
 exact qF (qA [0,1,2,3])
end
section
open Go.RowKit

end
section
open Go.RowKit

end
section
open Go.RowKit

theorem laws_big (b : List UInt8) (hl : b.length ≤ maxLen) : CallA Tryz.prog 7 [.sc (.sl 0 0 b.length)] [some ⟨b.map byteC,1,5,false,true⟩] (.sc (.bo (decide (1048576 < b.length)))) [some ⟨b.map byteC,1,5,false,true⟩] := by
 refine qE Tryz.func7 Tryz.ntmps7 Tryz.results7 fun E hE => ?_
 refine qJ (qA [0]) ?_
 simp
 omega
theorem sameE (e : EndD) (h : Small e) : CallA Tryz.prog 77 [.ag (e.cs 0),.ag (e.cs 7)] (e.hp false ++ e.hp false) (.sc (.bo true)) (e.hp false ++ e.hp false) := laws_sameEnd e h.own h.far h.subs h.halfs h.list h.done h.over
theorem laws_sameWorld (w : WorldD) (h : SmallW w) : CallA Tryz.prog 24 [.ag (w.cs 0),.ag (w.cs 21)] (w.hp false ++ w.hp false) (.sc (.bo true)) (w.hp false ++ w.hp false) := by
 have h1 := h.bag
 have h2 := h.past
 have h3 := h.keys
 have h4 := h.tags
 have h5 := h.nums
 have h6 := h.ansA
 have h7 := h.ansB
 refine qE Tryz.func24 Tryz.ntmps24 Tryz.results24 fun E hE => ?_
 refine qK (sameE w.a h.a) (qA [0,1,2,3,4,5,6,21,22,23,24,25,26,27]) ?_
 refine qK (sameE w.b h.b) (qA [7,8,9,10,11,12,13,28,29,30,31,32,33,34]) ?_
 refine qK (laws_sameLetters w.bag (by omega)) (qA [14,35]) ?_
 refine qK (laws_sameLetters w.past (by omega)) (qA [15,36]) ?_
 refine qK (laws_sameKnown w.known (by omega) (by omega)) (qA [16,17,37,38]) ?_
 refine qK (laws_sameInts w.nums (by omega)) (qA [18,39]) ?_
 refine qK (laws_sameInts w.answersA (by omega)) (qA [19,40]) ?_
 refine qK (laws_sameInts w.answersB (by omega)) (qA [20,41]) ?_
 exact qF (qA [0,1,2,3,4,5,6,7,8,9,10,11,12,13,14,15,16,17,18,19,20,21,22,23,24,25,26,27,28,29,30,31,32,33,34,35,36,37,38,39,40,41])
end
section
open Go.RowKit

theorem postL_smallW' {side : Int} {w : WorldD} {l : List LetterD} (hw : SmallW w) : SmallW (postL side w l) := by
 have h := postL_small (side := side) (l := l) hw.rest
 have he := postL_ends (side := side) (l := l) (w := w)
 exact ⟨by rw [he.1]; exact hw.a,by rw [he.2.1]; exact hw.b,h.bag,h.past,h.keys,h.tags,h.nums,h.ansA,h.ansB⟩
theorem law_Worlds (b : List UInt8) (hb : b.length ≤ maxLen) (_ : ∀ x ∈ b,True) : CallA Tryz.prog 5 [.sc (.sl 0 0 b.length)] [some ⟨b.map byteC,1,5,false,true⟩] (.sc (.bo true)) [some ⟨b.map byteC,1,5,false,true⟩] := by
 refine qE Tryz.func5 Tryz.ntmps5 Tryz.results5 fun E hE => ?_
 refine qK (laws_big b hb) (qA [0]) ?_
 refine qB (fun h => ?_) fun h => ?_
 ·exact qF (qA [0])
 ·obtain ⟨w,s,l,⟨hw,hbag⟩,hs,hl,hD⟩ := spec_DrawPosted b (by omega)
  have hsm := hw.bent.s
  have c1 := impl_PostedD w s l hsm (by omega)
  have c2 := spec_PostedD w s l hsm (by omega)
  have ho : ∃ R,R = posted w s l ∧ SmallW R ∧ (¬ (s = 1 ∨ s = 2) → R = w) ∧ (s = 1 ∨ s = 2 → (R.bag.length = min 40 (w.bag.length + cntS l) ∧ R.past.length = min 150 (w.past.length + l.length)) ∧ ∀ (k : Nat) (hk : k < l.length),sideAt l[k].to = 0 → Makes R l[k].tag) := by
   refine ⟨_,rfl,?_,fun h12 => posted_f h12,fun h12 => ?_⟩
   ·rw [posted]; split
    ·exact postL_smallW' hsm
    ·exact hsm
   ·rw [posted_t h12]
    exact ⟨postL_bag hbag.1 hbag.2,fun k hk h0 => postL_learns hk h0⟩
  obtain ⟨R,hR,hRs,hRn,hRy⟩ := ho
  rw [← hR] at c1 c2
  clear hR
  have c3 := laws_sameWorld R hRs
  have wb := hbag.1
  have wp := hbag.2
  clear hw hbag
  by_cases h12 : s = 1 ∨ s = 2
  ·obtain ⟨⟨r1,r2⟩,r3⟩ := hRy h12
   clear hRn hRy
   have hcl : cntS l ≤ l.length := by have := cntS_le (l := l) (k := l.length); rwa [List.take_length] at this
   refine qK (hD) (qA [0]) ?_
   refine qK (c1) (qA [1,2,3,4,5,6,7,8,9,10,11,12,13,14,15,16,17,18,19,20,21,22]) ?_
   refine qK (c2) (qA [1,2,3,4,5,6,7,8,9,10,11,12,13,14,15,16,17,18,19,20,21,22]) ?_
   refine qK (c3) (qA [24,25,26,27,28,29,30,31,32,33,34,35,36,37,38,39,40,41,42,43,44,46,47,48,49,50,51,52,53,54,55,56,57,58,59,60,61,62,63,64,65,66]) ?_
   have hs1 : s = 1 ∨ s = 2 := h12
   rcases h12 with rfl | rfl
   all_goals
    refine qX ?_
    refine den_lpO 1 hE (fun s (k : Nat) => s.at [0,2,4,7,10,11,12,13,14,15,16,17,18,19,20,21,22,23,24,25,26,27,28,29,30,31,32,33,34,35,36,37,38,39,40,41,42,43,44,45,46,47,48,49,50,51,52,53,54,55,56,57,58,59,60,61,62,63,64,65,66,67,68,69] [(8,.sc (.int .i64 (cntS (l.take k) : Nat))),(9,.sc (.int .i64 (k : Nat)))] (s.hp)) (fun (k : Nat) => k ≤ l.length) (fun (k : Nat) => l.length - k) 0 (qA [0,1,2,3,4,5,6,7,8,9,10,11,12,13,14,15,16,17,18,19,20,21,22,23,24,25,26,27,28,29,30,31,32,33,34,35,36,37,38,39,40,41,42,43,44,45,46,47,48,49,50,51,52,53,54,55,56,57,58,59,60,61,62,63,64,65,66,67]) (qC) (Nat.zero_le _) (weak_mkO (by rfl) (by rfl) ?_) fun k hk N hN => ?_
    ·try simp (disch := omega) only [go_sem,Nat.reduceEqDiff,Nat.reduceAdd,Nat.reduceSub,Int.reduceAdd,Int.reduceSub,Int.reduceToNat]
     try simp [cntS]
    ·have hk := hk
     refine qR ?_
     refine qB (fun h9 => ?_) fun h9 => ?_
     ·have r4 := r3 k h9
      have r5 := cntS_step h9
      have r6 := cntS_le (l := l) (k := k)
      have hSd := impl_SideAt l[k].to
      generalize hx : l[k] = x at *
      try simp (disch := omega) only [go_sem,Nat.reduceEqDiff,Nat.reduceAdd,Nat.reduceSub,Int.reduceAdd,Int.reduceSub,Int.reduceToNat,hx]
      refine den_call (qC) (hSd) [] qM (by rfl) (run_den 400 ?_)
      simp (disch := omega) only [go_sem,Nat.reduceEqDiff,Nat.reduceAdd,Nat.reduceSub,Int.reduceAdd,Int.reduceSub,Int.reduceToNat,hx]
      by_cases hz : sideAt x.to = 0
      ·have r7 := r4 hz
       rw [if_pos hz] at r5
       have c4 := impl_CanMake R.known x.tag hRs.keys hRs.tags
       rw [hz]
       try simp (disch := omega) only [go_sem,Nat.reduceEqDiff,Nat.reduceAdd,Nat.reduceSub,Int.reduceAdd,Int.reduceSub,Int.reduceToNat,hx]
       rcases r7 with r7 | r7
       ·rw [r7] at c4
        refine qD [0,1,2,3,4,5,6,7,8,9,10,11,12,13,14,15] ?_
        try simp (disch := omega) only [go_sem,Nat.reduceEqDiff,Nat.reduceAdd,Nat.reduceSub,Int.reduceAdd,Int.reduceSub,Int.reduceToNat,hx]
        refine den_callD (qC) (c4) (qA [40,41]) qM (by rfl) (by rfl) (runD_den 400 ?_)
        simp (disch := omega) only [go_sem,Nat.reduceEqDiff,Nat.reduceAdd,Nat.reduceSub,Int.reduceAdd,Int.reduceSub,Int.reduceToNat,hx]
        refine ⟨qC,run_den 400 ?_⟩
        try simp (disch := omega) only [go_sem,Nat.reduceEqDiff,Nat.reduceAdd,Nat.reduceSub,Int.reduceAdd,Int.reduceSub,Int.reduceToNat,hx]
        refine ⟨qC,hN _ (k + 1) (qA [0,1,2,3,4,5,6,7,8,9,10,11,12,13,14,15,16,17,18,19,20,21,22,23,24,25,26,27,28,29,30,31,32,33,34,35,36,37,38,39,40,41,42,43,44,45,46,47,48,49,50,51,52,53,54,55,56,57,58,59,60,61,62,63,64,65,66,67]) (by (try dsimp only); exact h9) (by (try dsimp only); omega) (weak_mkO (by rfl) (by rfl) ?_)⟩
        refine qX ?_
        omega
       ·generalize canMake R.known x.tag = q at c4
        refine qD [0,1,2,3,4,5,6,7,8,9,10,11,12,13,14,15] ?_
        try simp (disch := omega) only [go_sem,Nat.reduceEqDiff,Nat.reduceAdd,Nat.reduceSub,Int.reduceAdd,Int.reduceSub,Int.reduceToNat,hx]
        refine den_callD (qC) (c4) (qA [40,41]) qM (by rfl) (by rfl) (runD_den 400 ?_)
        simp (disch := omega) only [go_sem,Nat.reduceEqDiff,Nat.reduceAdd,Nat.reduceSub,Int.reduceAdd,Int.reduceSub,Int.reduceToNat,hx]
        cases q
        all_goals
         try simp (disch := omega) only [go_sem,Nat.reduceEqDiff,Nat.reduceAdd,Nat.reduceSub,Int.reduceAdd,Int.reduceSub,Int.reduceToNat,hx]
         refine ⟨qC,run_den 400 ?_⟩
         try simp (disch := omega) only [go_sem,Nat.reduceEqDiff,Nat.reduceAdd,Nat.reduceSub,Int.reduceAdd,Int.reduceSub,Int.reduceToNat,hx]
         refine ⟨qC,hN _ (k + 1) (qA [0,1,2,3,4,5,6,7,8,9,10,11,12,13,14,15,16,17,18,19,20,21,22,23,24,25,26,27,28,29,30,31,32,33,34,35,36,37,38,39,40,41,42,43,44,45,46,47,48,49,50,51,52,53,54,55,56,57,58,59,60,61,62,63,64,65,66,67]) (by (try dsimp only); exact h9) (by (try dsimp only); omega) (weak_mkO (by rfl) (by rfl) ?_)⟩
         refine qX ?_
         omega
      ·rw [if_neg hz] at r5
       try simp (disch := omega) only [go_sem,Nat.reduceEqDiff,Nat.reduceAdd,Nat.reduceSub,Int.reduceAdd,Int.reduceSub,Int.reduceToNat,hz]
       refine ⟨qC,hN _ (k + 1) (qA [0,1,2,3,4,5,6,7,8,9,10,11,12,13,14,15,16,17,18,19,20,21,22,23,24,25,26,27,28,29,30,31,32,33,34,35,36,37,38,39,40,41,42,43,44,45,46,47,48,49,50,51,52,53,54,55,56,57,58,59,60,61,62,63,64,65,66,67]) (by (try dsimp only); exact h9) (by (try dsimp only); omega) (weak_mkO (by rfl) (by rfl) ?_)⟩
       refine qX ?_
       omega
     ·rw [List.take_of_length_le (by omega)]
      refine qX ?_
      by_cases g1 : 40 < w.bag.length + cntS l
      all_goals
       by_cases g2 : 150 < w.past.length + l.length
       all_goals
        try simp (disch := omega) only [go_sem,Nat.reduceEqDiff,Nat.reduceAdd,Nat.reduceSub,Int.reduceAdd,Int.reduceSub,Int.reduceToNat,r1,r2]
        exact qF (qA [0])
  ·have e := hRn h12
   rw [e] at c1 c2 c3
   clear hRn hRy hRs
   have hs0 : s = 0 := by omega
   rw [hs0] at c1 c2 hD
   refine qK (hD) (qA [0]) ?_
   refine qK (c1) (qA [1,2,3,4,5,6,7,8,9,10,11,12,13,14,15,16,17,18,19,20,21,22]) ?_
   refine qK (c2) (qA [1,2,3,4,5,6,7,8,9,10,11,12,13,14,15,16,17,18,19,20,21,22]) ?_
   refine qK (c3) (qA [24,25,26,27,28,29,30,31,32,33,34,35,36,37,38,39,40,41,42,43,44,46,47,48,49,50,51,52,53,54,55,56,57,58,59,60,61,62,63,64,65,66]) ?_
   refine qK (c3) (qA [24,25,26,27,28,29,30,31,32,33,34,35,36,37,38,39,40,41,42,43,44,1,2,3,4,5,6,7,8,9,10,11,12,13,14,15,16,17,18,19,20,21]) ?_
   exact qF (qA [0])
end
section
open Go.RowKit

def roHp : Hp → Bool
 | [] => true
 | some ob :: h => !ob.own && roHp h
 | none :: h => roHp h
theorem roHp_get : ∀ {h : Hp} {o : Nat} {ob : AObj},roHp h = true → h[o]? = some (some ob) → ob.own = false
 | some x :: h,0,ob,hr,ho => by
  simp only [roHp,Bool.and_eq_true,Bool.not_eq_true'] at hr
  simp at ho
  subst ho
  exact hr.1
 | some x :: h,o + 1,ob,hr,ho => by
  simp only [roHp,Bool.and_eq_true] at hr
  exact roHp_get hr.2 (by simpa using ho)
 | none :: h,0,ob,hr,ho => by simp at ho
 | none :: h,o + 1,ob,hr,ho => roHp_get (h := h) hr (by simpa using ho)
 | [],o,ob,_,ho => by simp at ho
theorem roL_ro {β : Be} {w : World} : ∀ {l : Be} {h : Hp},RoL β w l h → roHp h = true
 | [],[],_ => rfl
 | p :: l,some ob :: h,hr => by
  have := roL_ro hr.2
  simp [roHp,hr.1.1,this]
 | [],_ :: _,h => h.elim
 | _ :: _,[],h => h.elim
 | _ :: _,none :: _,h => h.elim
theorem callA_ro {P : Program} {f : FuncId} {args : List AV} {b : Bool} {h h' : Hp} (ct : CallA P f args h (.sc (.bo b)) h') {β : Be} {w : World} (hr : RoL β w β h) {vs : List Value} (hvs : L2 (AVR β) args vs) :
  Calls P f vs.toArray w fun e w' => e = .returned (.bool b) ∧ Below w.heap.size w w' :=
 (ct.2 β w vs (hsim_roL hr) hvs).mono fun e w' ⟨β',v,he,hv,hh,hst⟩ => by
  have hv' : v = .bool b := hv
  subst hv'
  exact ⟨he,⟨hst.os,hst.tape,hst.output,hst.size,fun k hk => hst.block k hk fun ⟨o,ob,p,ho,hown,hp,_⟩ => by
   rw [roHp_get (roL_ro hr) ho] at hown
   cases hown⟩⟩
end
section
open Go

def rkOf (R : Nat) (g : Nat) : Nat := (R >>> (10 * g)) % 1024
def okH (P : Program) (R lo hi : Nat) (g : Nat) : Bool :=
 match P.funcs[g]? with
 | none => true
 | some fn => ((P.leadsTo fn).all fun h => Nat.blt (rkOf R h) (rkOf R g) && (Nat.ble lo h && Nat.blt h hi)) && (!(fn.ours || fn.body.isNone || fn.name == "runtime.NumGoroutine") && (match fn.body with | some c => !c.unfollowed && c.globalsNamed.isEmpty | none => false))
def okG (P : Program) (R lo hi : Nat) (g : Nat) : Bool := Nat.ble 1000 (rkOf R g) || okH P R lo hi g
theorem okG_okH {P : Program} {R lo hi g : Nat} (h : okG P R lo hi g = true) (hr : rkOf R g < 1000) : okH P R lo hi g = true := by
 unfold okG at h
 rw [Bool.or_eq_true,Nat.ble_eq] at h
 exact h.resolve_left (by omega)
theorem closureVia_sub {P : Program} {S : FuncId → Prop} (hS : ∀ g,S g → ∀ h ∈ (P.funcs[g]?).elim [] P.leadsTo,S h) : ∀ (n : Nat) (todo seen : List FuncId),(∀ x ∈ todo,S x) → (∀ x ∈ seen,S x) → ∀ x ∈ P.closureVia n todo seen,S x
 | 0,todo,seen,_,hs,x,hx => by
  unfold Program.closureVia at hx
  exact hs x (List.mem_reverse.1 hx)
 | n + 1,[],seen,_,hs,x,hx => by
  unfold Program.closureVia at hx
  exact hs x (List.mem_reverse.1 hx)
 | n + 1,f :: todo,seen,ht,hs,x,hx => by
  unfold Program.closureVia at hx
  split at hx
  ·exact closureVia_sub hS n todo seen (fun y hy => ht y (List.mem_cons_of_mem _ hy)) hs x hx
  ·refine closureVia_sub hS n _ (f :: seen) (fun y hy => ?_) (fun y hy => ?_) x hx
   ·rcases List.mem_append.1 hy with hy | hy
    ·exact hS f (ht f (List.mem_cons_self ..)) y hy
    ·exact ht y (List.mem_cons_of_mem _ hy)
   ·rcases List.mem_cons.1 hy with rfl | hy
    ·exact ht y (List.mem_cons_self ..)
    ·exact hs y hy
theorem closure_sub {P : Program} {S : FuncId → Prop} (hS : ∀ g,S g → ∀ h ∈ (P.funcs[g]?).elim [] P.leadsTo,S h) {f : FuncId} (hf : S f) : ∀ x ∈ P.closure f,S x :=
 closureVia_sub hS _ [f] [] (fun x hx => by rw [List.mem_singleton.1 hx]; exact hf) (fun x hx => by cases hx)
theorem rk_lt {P : Program} {R lo hi : Nat} (h : ∀ g,lo ≤ g ∧ g < hi → okG P R lo hi g = true) {g k : FuncId} (hb : lo ≤ g ∧ g < hi) (hr : rkOf R g < 1000) (hk : k ∈ (P.funcs[g]?).elim [] P.leadsTo) : rkOf R k < rkOf R g ∧ lo ≤ k ∧ k < hi := by
 have hg := okG_okH (h g hb) hr
 unfold okH at hg
 cases hf : P.funcs[g]? with
 | none => rw [hf] at hk; simp at hk
 | some fn =>
  rw [hf] at hg hk
  simp only [Bool.and_eq_true,List.all_eq_true,Nat.blt_eq,Nat.ble_eq] at hg
  exact hg.1 k hk
theorem graph_facts {P : Program} {R lo hi : Nat} (h : ∀ g,lo ≤ g ∧ g < hi → okG P R lo hi g = true) (f : FuncId) (hf0 : (lo ≤ f ∧ f < hi) ∧ rkOf R f < 1000) : P.inPlace f = [] ∧ P.unfollowed f = false ∧ P.recurses f = false ∧ P.varsNamed f = [] := by
 have hin : ∀ k,(lo ≤ k ∧ k < hi) ∧ rkOf R k < 1000 → ∀ x ∈ P.closure k,(lo ≤ x ∧ x < hi) ∧ rkOf R x < 1000 := fun k hk => closure_sub (S := fun x => (lo ≤ x ∧ x < hi) ∧ rkOf R x < 1000) (fun a ha b hb => ⟨(rk_lt h ha.1 ha.2 hb).2,Nat.lt_trans (rk_lt h ha.1 ha.2 hb).1 ha.2⟩) hk
 have hu : P.unfollowed f = false := by
  unfold Program.unfollowed
  rw [List.any_eq_false]
  intro g hgc
  have hg := okG_okH (h g (hin f hf0 g hgc).1) (hin f hf0 g hgc).2
  unfold okH at hg
  cases hf : P.funcs[g]? with
  | none => simp
  | some fn =>
   rw [hf] at hg
   simp only [Bool.and_eq_true] at hg
   simp only [Option.any_some]
   cases hb : fn.body with
   | none => rw [hb] at hg; simp at hg
   | some c => rw [hb] at hg; simp at hg ⊢; exact hg.2.2.1
 refine ⟨?_,hu,?_,?_⟩
 ·unfold Program.inPlace
  rw [List.filterMap_eq_nil_iff]
  intro g hgc
  have hg := okG_okH (h g (hin f hf0 g hgc).1) (hin f hf0 g hgc).2
  unfold okH at hg
  cases hf : P.funcs[g]? with
  | none => rfl
  | some fn =>
   rw [hf] at hg
   simp only [Bool.and_eq_true,Bool.not_eq_true'] at hg
   simp only [Option.bind_some]
   rw [hg.2.1]
   rfl
 ·unfold Program.recurses
  rw [hu,Bool.false_or,List.any_eq_false]
  intro g hgc
  rw [Bool.not_eq_true,List.any_eq_false]
  intro k hk
  rw [Bool.not_eq_true]
  obtain ⟨h1,hkb⟩ := rk_lt h (hin f hf0 g hgc).1 (hin f hf0 g hgc).2 hk
  have hkr : rkOf R k < 1000 := Nat.lt_trans h1 (hin f hf0 g hgc).2
  have h2 : ∀ x ∈ P.closure k,rkOf R x ≤ rkOf R k ∧ lo ≤ x ∧ x < hi := closure_sub (S := fun x => rkOf R x ≤ rkOf R k ∧ lo ≤ x ∧ x < hi) (fun a ha b hb => ⟨Nat.le_trans (Nat.le_of_lt (rk_lt h ha.2 (by omega) hb).1) ha.1,(rk_lt h ha.2 (by omega) hb).2⟩) ⟨Nat.le_refl _,hkb⟩
  cases hc : (P.closure k).contains g with
  | false => rfl
  | true =>
   have := (h2 g (List.contains_iff_mem.1 hc)).1
   omega
 ·unfold Program.varsNamed
  have e1 : ((P.closure f).flatMap fun g => ((P.funcs[g]?).bind (·.body)).elim [] Code.globalsNamed) = [] := by
   rw [List.flatMap_eq_nil_iff]
   intro g hgc
   have hg := okG_okH (h g (hin f hf0 g hgc).1) (hin f hf0 g hgc).2
   unfold okH at hg
   cases hf : P.funcs[g]? with
   | none => rfl
   | some fn =>
    rw [hf] at hg
    simp only [Bool.and_eq_true] at hg
    simp only [Option.bind_some]
    cases hb : fn.body with
    | none => rfl
    | some c => rw [hb] at hg; simp at hg ⊢; exact hg.2.2.2
  have e2 : ((P.closure f).filterMap fun g => (P.funcs[g]?).bind fun fn => if fn.body.isNone then entryReads.lookup fn.name else none) = [] := by
   rw [List.filterMap_eq_nil_iff]
   intro g hgc
   have hg := okG_okH (h g (hin f hf0 g hgc).1) (hin f hf0 g hgc).2
   unfold okH at hg
   cases hf : P.funcs[g]? with
   | none => rfl
   | some fn =>
    rw [hf] at hg
    simp only [Bool.and_eq_true] at hg
    simp only [Option.bind_some]
    cases hb : fn.body with
    | none => rw [hb] at hg; simp at hg
    | some c => rfl
  rw [e1,e2]
  rfl
def chs (l : List Nat) : List Char := l.map Char.ofNat
theorem chs_app (a b : List Nat) : chs (a ++ b) = chs a ++ chs b := by simp [chs]
theorem chs_cons (a : Nat) (b : List Nat) : chs (a :: b) = Char.ofNat a :: chs b := rfl
theorem wordsSigns_cons {c : Char} (h : c ≠ Char.ofNat 32) (r : List Char) : wordsSigns (c :: r) = match wordsSigns r with
  | w :: ws => (c :: w) :: ws
  | [] => [[c]] := by
 conv => lhs; unfold wordsSigns
 split
 ·rename_i e
  simp at e
 ·rename_i r' e
  obtain ⟨e1,_⟩ := List.cons.inj e
  exact absurd e1 h
 ·rename_i c' r' _ e
  obtain ⟨e1,e2⟩ := List.cons.inj e
  subst e1; subst e2
  rfl
theorem wordsSigns_word : ∀ {w : List Char} (r : List Char),(∀ c ∈ w,c ≠ Char.ofNat 32) → wordsSigns (w ++ Char.ofNat 32 :: r) = w :: wordsSigns r
 | [],r,_ => by
  show wordsSigns (Char.ofNat 32 :: r) = [] :: wordsSigns r
  conv => lhs; unfold wordsSigns
  rfl
 | c :: w,r,h => by
  rw [List.cons_append,wordsSigns_cons (h c (List.mem_cons_self ..)),wordsSigns_word r (fun x hx => h x (List.mem_cons_of_mem _ hx))]
def noBlank (l : List Nat) : Bool := (chs l).all fun c => c != Char.ofNat 32
theorem noBlank_mem {l : List Nat} (h : noBlank l = true) : ∀ c ∈ chs l,c ≠ Char.ofNat 32 := by
 intro c hc
 have := List.all_eq_true.1 h c hc
 simpa using this
theorem head_words {P : Program} {a b c r : List Nat} (h : P.initOrder = String.ofList (chs (a ++ 32 :: (b ++ 32 :: (c ++ 32 :: r))))) (ha : noBlank a = true) (hb : noBlank b = true) (hc : noBlank c = true)
  (hm : ((chs a == "harness".toList || chs a == "ownmain".toList) && isSumSigns (chs b)) = true) : ∃ rest,behindMainWord (wordsSigns P.initOrder.toList) = chs c :: rest := by
 refine ⟨wordsSigns (chs r),?_⟩
 rw [h,String.toList_ofList,chs_app,chs_cons,chs_app,chs_cons,chs_app,chs_cons,wordsSigns_word _ (noBlank_mem ha),wordsSigns_word _ (noBlank_mem hb),wordsSigns_word _ (noBlank_mem hc)]
 exact if_pos hm
def cutN : List Nat := [99,117,116]
theorem make_cut {P : Program} {rest : List (List Char)} (h : behindMainWord (wordsSigns P.initOrder.toList) = chs cutN :: rest) : P.make = some .cut := by
 unfold Program.make
 rw [h]
 rfl
theorem final_cut {P : Program} {rest : List (List Char)} (h : behindMainWord (wordsSigns P.initOrder.toList) = chs cutN :: rest) : P.liftsFinal = false := by
 unfold Program.liftsFinal Program.headLifts
 rw [h]
 rfl
theorem may_cut {P : Program} {rest : List (List Char)} (h : behindMainWord (wordsSigns P.initOrder.toList) = chs cutN :: rest) (l1 : P.laysLater = false) (l2 : P.bearsReflect = false) (l3 : P.doorRows = []) : P.mayEnter = true := by
 have l4 : P.doorFits [] = true := by
  unfold Program.doorFits
  rw [l3]
  rfl
 unfold Program.mayEnter
 rw [h]
 show ((_ || _) || _) = true
 have e : stripLifts liftWords (chs cutN :: rest) = ([],chs cutN :: rest) := rfl
 rw [e,l1,l2,l4]
 simp only [List.contains_nil,Bool.and_true,Bool.not_false,Bool.or_true,List.head?_cons]
 rw [show (some (chs cutN) == some "cut".toList) = true from by kernel_rfl]
 simp
def restFacts (P : Program) (f : FuncId) (fn : Func) (s : ChangeSpec) (c : OpenClaim) : Bool :=
 c.wf (OpenSpec.ofChange s) && laidOutB P && mapsRowed P &&
 fn.params.all (P.readableRec ·) && namedTie P c.named s.vars &&
 (c.stops == []) && (P.stops == []) && (c.knobs == []) && (P.stopKnobs == []) &&
 (c.maps == (fn.params.toList ++ s.plain.varTypes P).any (P.mapsRec ·)) && (c.ifaces == (fn.params.toList ++ s.plain.varTypes P).any (P.ifacesRec ·)) && (c.mapsOut == P.mapsAmong fn.resultTypes.toList) &&
 (c.loops == (fn.params.toList ++ s.plain.varTypes P).any (P.loopsFrom ·)) && (c.wideKeys == (fn.params.toList ++ s.plain.varTypes P ++ fn.resultTypes.toList).any (P.wideKeysFrom ·)) &&
 s.vars.all (P.varReadable ·) && fn.resultTypes.all (fun t => P.readableRec t && decide (t < P.types.size)) && (c.ifacesOut == fn.resultTypes.toList.any (P.ifacesRec ·)) && (c.loopsOut == fn.resultTypes.toList.any (P.loopsFrom ·)) && (c.plainKeys == P.plainKeys) && c.shortTexts.isNone && P.stopsHeard && (c.kinds == (if c.domain.isEmpty then [] else fn.params.toList.map fun t => match P.underlying t with | some (.int k) => some k | _ => none)) && (c.pinned == c.pinnedBy) &&
 (c.veiled == (fn.params.toList ++ s.plain.varTypes P ++ fn.resultTypes.toList).any (P.veiledRec ·)) && c.veiledFits P fn.params.toList (fn.params.toList ++ s.plain.varTypes P ++ fn.resultTypes.toList)
theorem joined_of {P : Program} {f : FuncId} {fn : Func} {s : ChangeSpec} {c : OpenClaim} (g : P.inPlace f = [] ∧ P.unfollowed f = false ∧ P.recurses f = false ∧ P.varsNamed f = []) (c1 : c.inPlace = []) (c2 : c.unfollowed = false) (c3 : c.recurses = false) (c4 : c.named = [])
  (m1 : P.mayEnter = true) (m2 : P.liftsFinal = false) (m3 : P.make = some .cut) (d2 : c.lifted = false) (d3 : c.make = .cut) (h : restFacts P f fn s c = true) : joinedFacts P f fn s c = true := by
 obtain ⟨g1,g2,g3,g4⟩ := g
 unfold restFacts at h
 unfold joinedFacts
 simp only [Bool.and_eq_true] at h ⊢
 obtain ⟨⟨⟨⟨⟨⟨⟨⟨⟨⟨⟨⟨⟨⟨⟨⟨⟨⟨⟨⟨⟨⟨⟨⟨k1,k2⟩,k3⟩,k4⟩,k5⟩,k6⟩,k7⟩,k8⟩,k9⟩,k14⟩,k15⟩,k16⟩,k17⟩,k17b⟩,k18⟩,k19⟩,k20⟩,k21⟩,k22⟩,k23⟩,k23b⟩,k25⟩,k26⟩,k27⟩,k28⟩ := h
 refine ⟨⟨⟨⟨⟨⟨⟨⟨⟨⟨⟨⟨⟨⟨⟨⟨⟨⟨⟨⟨⟨⟨⟨⟨⟨⟨⟨⟨⟨⟨⟨k1,k2⟩,k3⟩,k4⟩,k5⟩,k6⟩,k7⟩,k8⟩,k9⟩,?_⟩,?_⟩,?_⟩,?_⟩,k14⟩,k15⟩,k16⟩,k17⟩,k17b⟩,k18⟩,k19⟩,k20⟩,k21⟩,k22⟩,k23⟩,k23b⟩,m1⟩,?_⟩,?_⟩,k25⟩,k26⟩,k27⟩,k28⟩
 ·rw [c1,g1]; rfl
 ·rw [c2,g2]; rfl
 ·rw [c3,g3]; rfl
 ·rw [c4,g4]; rfl
 ·rw [d2,m2]; rfl
 ·rw [d3,m3]; exact beq_self_eq_true _
end
section
open Go

def rkN : Nat := 334128637448615346712073575473798550119056351205566486503304238269332447695411291857074062807376423208008830992043785699585565940682908281978725648391715663074963325647124991223891885177688195310087636229294937956573306512213115707290925997647426414651473998387988891839762602005217774254198038194858745125589540845400187972964529569347422097914406131750487927347709228599046845737043279057245676859780546655506243233756364361982172654627402307828963999260554084740847930615497557359798912958067793477810736187209979679910057695780645202815665446764250979751865069327986235806526938039450400917920842331434604711828548614208600600048746779222081836205288589275316963774945317469735021866958907703009230971171953626027362216655485833052160
theorem okG_0 : (List.range' 3 16).all (okG Tryz.prog rkN 3 229) = true := by kernel_rfl
theorem okG_1 : (List.range' 19 16).all (okG Tryz.prog rkN 3 229) = true := by kernel_rfl
theorem okG_2 : (List.range' 35 16).all (okG Tryz.prog rkN 3 229) = true := by kernel_rfl
theorem okG_3 : (List.range' 51 16).all (okG Tryz.prog rkN 3 229) = true := by kernel_rfl
theorem okG_4 : (List.range' 67 16).all (okG Tryz.prog rkN 3 229) = true := by kernel_rfl
theorem okG_5 : (List.range' 83 16).all (okG Tryz.prog rkN 3 229) = true := by kernel_rfl
theorem okG_6 : (List.range' 99 16).all (okG Tryz.prog rkN 3 229) = true := by kernel_rfl
theorem okG_7 : (List.range' 115 16).all (okG Tryz.prog rkN 3 229) = true := by kernel_rfl
theorem okG_8 : (List.range' 131 16).all (okG Tryz.prog rkN 3 229) = true := by kernel_rfl
theorem okG_9 : (List.range' 147 16).all (okG Tryz.prog rkN 3 229) = true := by kernel_rfl
theorem okG_10 : (List.range' 163 16).all (okG Tryz.prog rkN 3 229) = true := by kernel_rfl
theorem okG_11 : (List.range' 179 16).all (okG Tryz.prog rkN 3 229) = true := by kernel_rfl
theorem okG_12 : (List.range' 195 16).all (okG Tryz.prog rkN 3 229) = true := by kernel_rfl
theorem okG_13 : (List.range' 211 16).all (okG Tryz.prog rkN 3 229) = true := by kernel_rfl
theorem okG_14 : (List.range' 227 2).all (okG Tryz.prog rkN 3 229) = true := by kernel_rfl
theorem okG_all (g : Nat) (h : 3 ≤ g ∧ g < 229) : okG Tryz.prog rkN 3 229 g = true := by
 rcases (by omega : (3 ≤ g ∧ g < 19) ∨ (19 ≤ g ∧ g < 35) ∨ (35 ≤ g ∧ g < 51) ∨ (51 ≤ g ∧ g < 67) ∨ (67 ≤ g ∧ g < 83) ∨ (83 ≤ g ∧ g < 99) ∨ (99 ≤ g ∧ g < 115) ∨ (115 ≤ g ∧ g < 131) ∨ (131 ≤ g ∧ g < 147) ∨ (147 ≤ g ∧ g < 163) ∨ (163 ≤ g ∧ g < 179) ∨ (179 ≤ g ∧ g < 195) ∨ (195 ≤ g ∧ g < 211) ∨ (211 ≤ g ∧ g < 227) ∨ (227 ≤ g ∧ g < 229)) with h | h | h | h | h | h | h | h | h | h | h | h | h | h | h
 ·exact List.all_eq_true.1 okG_0 g (List.mem_range'_1.2 h)
 ·exact List.all_eq_true.1 okG_1 g (List.mem_range'_1.2 h)
 ·exact List.all_eq_true.1 okG_2 g (List.mem_range'_1.2 h)
 ·exact List.all_eq_true.1 okG_3 g (List.mem_range'_1.2 h)
 ·exact List.all_eq_true.1 okG_4 g (List.mem_range'_1.2 h)
 ·exact List.all_eq_true.1 okG_5 g (List.mem_range'_1.2 h)
 ·exact List.all_eq_true.1 okG_6 g (List.mem_range'_1.2 h)
 ·exact List.all_eq_true.1 okG_7 g (List.mem_range'_1.2 h)
 ·exact List.all_eq_true.1 okG_8 g (List.mem_range'_1.2 h)
 ·exact List.all_eq_true.1 okG_9 g (List.mem_range'_1.2 h)
 ·exact List.all_eq_true.1 okG_10 g (List.mem_range'_1.2 h)
 ·exact List.all_eq_true.1 okG_11 g (List.mem_range'_1.2 h)
 ·exact List.all_eq_true.1 okG_12 g (List.mem_range'_1.2 h)
 ·exact List.all_eq_true.1 okG_13 g (List.mem_range'_1.2 h)
 ·exact List.all_eq_true.1 okG_14 g (List.mem_range'_1.2 h)
theorem init_head : ∃ rest,behindMainWord (wordsSigns Tryz.prog.initOrder.toList) = chs cutN :: rest :=
 head_words (a := [104,97,114,110,101,115,115]) (b := [57,52,54,98,55,97,99,48,101,55,52,102,98,51,52,98,100,50,54,56,100,98,50,51,52,56,50,52,49,50,97,97,49,101,102,97,52,56,50,48,51,101,100,50,48,97,53,53,100,48,54,50,48,51,102,53,54,55,49,51,51,97,99,54]) (c := cutN) (r := [97,116,32,108,111,111,112,46,101,120,97,109,112,108,101,47,103,48,48,57,54,55,47,108,97,119,115,46,70,110,82,101,112,111,114,116,115,32,108,111,111,112,46,101,120,97,109,112,108,101,47,103,48,48,57,54,55,47,108,97,119,115,46,70,110,84,117,114,110,115,32,108,111,111,112,46,101,120,97,109,112,108,101,47,103,48,48,57,54,55,47,108,97,119,115,46,70,110,87,111,114,108,100,115,32,108,111,111,112,46,101,120,97,109,112,108,101,47,103,48,48,57,54,55,47,108,97,119,115,46,70,110,83,97,102,101]) (by kernel_rfl) (by kernel_rfl) (by kernel_rfl) (by kernel_rfl) (by kernel_rfl)
theorem own_l1 : Tryz.prog.laysLater = false := by kernel_rfl
theorem own_l2 : Tryz.prog.bearsReflect = false := by kernel_rfl
theorem own_l3 : Tryz.prog.doorRows = [] := by kernel_rfl
theorem own_may : Tryz.prog.mayEnter = true := init_head.elim fun _ h => may_cut h own_l1 own_l2 own_l3
theorem own_final : Tryz.prog.liftsFinal = false := init_head.elim fun _ h => final_cut h
theorem own_make : Tryz.prog.make = some .cut := init_head.elim fun _ h => make_cut h
theorem own_graph (f : Nat) (h : ((Nat.ble 3 f && Nat.blt f 229) && Nat.blt (rkOf rkN f) 1000) = true) : Tryz.prog.inPlace f = [] ∧ Tryz.prog.unfollowed f = false ∧ Tryz.prog.recurses f = false ∧ Tryz.prog.varsNamed f = [] :=
 graph_facts okG_all f (by simpa only [Bool.and_eq_true,Nat.ble_eq,Nat.blt_eq] using h)
end
end Go.Proofs.YtfakgekanapbnaaGreat
