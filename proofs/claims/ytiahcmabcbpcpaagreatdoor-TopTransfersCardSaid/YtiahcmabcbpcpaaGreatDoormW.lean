/- The functions, each with its twin, and plain facts about them. -/
import Derived.Test.YtiahcmabcbpcpaaGreatDoormH3
set_option linter.unusedSimpArgs false
set_option linter.unusedVariables false
set_option maxRecDepth 100000
namespace Go.Proofs.YtiahcmabcbpcpaaGreatDoor
open Go.Tw
theorem att:Jp 50000 (List.replicate 640 0)=some 2:=by kernel_rfl
theorem aps:T24 50000 0=some (10,0):=by kernel_rfl
theorem aii:T4 50000=some true:=by
 obtain ⟨S,D,ss,e5,H,hd⟩:=Uw (F:=50000) (by omega) (UInt8.ofNat 1) (n:=600) (by omega)
 rw [show eL ((600:Nat):Int)=640 by decide] at hd
 have h4:=H.d4
 have hl:=H.hd.hl
 have xa:=Yb (F:=50000) (by omega) S (0:Int) D (bO:=ss)
 rw [show lP 50000 S 0 D ss=true from H.v] at xa
 have h6:T6 50000 S 0 D ss=some (0,(D.length:Int),ss,D):=by
  simp only [T6,BQ,xa,Option.bind_some,Bool.not_true,cond_false,tv (F:=50000) (show ss.length≤1000000 by omega),IB (F:=50000) (show D.length≤1000000 by omega)]
 have h26:Jp 50000 D=some 2:=by
  have h:=att
  simp only [Jp,IX,List.length_replicate] at h ⊢
  rw [hd];exact h
 have h9:T9 50000 (10:Int)=some (0,false):=rfl
 have jt:=NC 50000 (a:=[]) (b:=[]) (c:=[]) (d:=[]) (by decide) (p:=10) (by decide) (-1) false
 have e5':T5 50000 (UInt8.ofNat 1) (600:Int)=some (S,0,D,ss,true):=e5
 simp only [T4,G7,e5',h6,h9,aps,aiE,Option.bind_some,cond_true,beq_self_eq_true,h26]
 exact congrArg (fun z=>Option.bind z _) jt
end Go.Proofs.YtiahcmabcbpcpaaGreatDoor
