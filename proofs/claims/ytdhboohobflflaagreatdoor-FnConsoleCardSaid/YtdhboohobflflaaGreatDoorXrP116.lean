/- Lines of FnConsole,reckoned. Printed by genreach.py. -/
import Derived.Test.YtdhboohobflflaaGreatDoorXrP99
import Derived.KernelRfl
set_option linter.all false
set_option maxRecDepth 100000
set_option maxHeartbeats 4000000
namespace Go.Proofs.Qr
open Go
theorem uS0:fw 0:=fun _ _=>by kernel_rfl
theorem uS1:fw 1:=fun _ _=>by kernel_rfl
theorem uS2:fw 2:=fun _ _=>by kernel_rfl
theorem uS3:fw 3:=fun _ _=>by kernel_rfl
theorem uS4:fw 4:=fun _ _=>by kernel_rfl
theorem uS5:fw 5:=fun _ _=>by kernel_rfl
theorem uS6:fw 6:=fun _ _=>by kernel_rfl
theorem uS7:fw 7:=fun _ _=>by kernel_rfl
theorem uS8:fw 8:=fun _ _=>by kernel_rfl
theorem uS9:fw 9:=fun _ _=>by kernel_rfl
theorem uS10:fw 10:=fun _ _=>by kernel_rfl
theorem uS11:fw 11:=fun _ _=>by kernel_rfl
theorem uS12:fw 12:=fun _ _=>by kernel_rfl
theorem allS:AllP fw 0 13:=⟨uS0,uS1,uS2,uS3,uS4,uS5,uS6,uS7,uS8,uS9,uS10,uS11,uS12,trivial⟩
theorem uH0:jf 0:=fun _ _ _ _ _=>by kernel_rfl
theorem uH1:jf 1:=fun _ _ _ _ _=>by kernel_rfl
theorem uH2:jf 2:=fun _ _ _ _ _=>by kernel_rfl
theorem uH3:jf 3:=fun _ _ _ _ _=>by kernel_rfl
theorem uH4:jf 4:=fun _ _ _ _ _=>by kernel_rfl
theorem uH5:jf 5:=fun _ _ _ _ _=>by kernel_rfl
theorem uH6:jf 6:=fun _ _ _ _ _=>by kernel_rfl
theorem uH7:jf 7:=fun _ _ _ _ _=>by kernel_rfl
theorem uH8:jf 8:=fun _ _ _ _ _=>by kernel_rfl
theorem uH9:jf 9:=fun _ _ _ _ _=>by kernel_rfl
theorem uH10:jf 10:=fun _ _ _ _ _=>by kernel_rfl
theorem uH11:jf 11:=fun _ _ _ _ _=>by kernel_rfl
theorem allH:AllP jf 0 12:=⟨uH0,uH1,uH2,uH3,uH4,uH5,uH6,uH7,uH8,uH9,uH10,uH11,trivial⟩
theorem uG0:TigT (0,0):=fun _ _ _ _=>by kernel_rfl
theorem uG1:TigT (0,1):=fun _ _ _ _=>by kernel_rfl
theorem uG2:TigT (0,2):=fun _ _ _ _=>by kernel_rfl
theorem uG3:TigT (0,3):=fun _ _ _ _=>by kernel_rfl
theorem uG4:TigT (0,4):=fun _ _ _ _=>by kernel_rfl
theorem uG5:TigT (0,5):=fun _ _ _ _=>by kernel_rfl
theorem uG6:TigT (0,6):=fun _ _ _ _=>by kernel_rfl
theorem uG7:TigT (0,7):=fun _ _ _ _=>by kernel_rfl
theorem uG8:TigT (1,0):=fun _ _ _ _=>by kernel_rfl
theorem uG9:TigT (1,1):=fun _ _ _ _=>by kernel_rfl
theorem uG10:TigT (1,2):=fun _ _ _ _=>by kernel_rfl
theorem uG11:TigT (1,3):=fun _ _ _ _=>by kernel_rfl
theorem uG12:TigT (2,0):=fun _ _ _ _=>by kernel_rfl
theorem uG13:TigT (2,1):=fun _ _ _ _=>by kernel_rfl
theorem uG14:TigT (2,2):=fun _ _ _ _=>by kernel_rfl
theorem uG15:TigT (2,3):=fun _ _ _ _=>by kernel_rfl
theorem uG16:TigT (3,0):=fun _ _ _ _=>by kernel_rfl
theorem uG17:TigT (3,1):=fun _ _ _ _=>by kernel_rfl
theorem uG18:TigT (3,2):=fun _ _ _ _=>by kernel_rfl
theorem uG19:TigT (3,3):=fun _ _ _ _=>by kernel_rfl
theorem uG20:TigT (4,0):=fun _ _ _ _=>by kernel_rfl
theorem uG21:TigT (5,0):=fun _ _ _ _=>by kernel_rfl
theorem uG22:TigT (5,1):=fun _ _ _ _=>by kernel_rfl
theorem uG23:TigT (5,2):=fun _ _ _ _=>by kernel_rfl
theorem uG24:TigT (5,3):=fun _ _ _ _=>by kernel_rfl
theorem uG25:TigT (6,0):=fun _ _ _ _=>by kernel_rfl
theorem uG26:TigT (7,0):=fun _ _ _ _=>by kernel_rfl
theorem uG27:TigT (8,0):=fun _ _ _ _=>by kernel_rfl
theorem uG28:TigT (9,0):=fun _ _ _ _=>by kernel_rfl
theorem uG29:TigT (10,0):=fun _ _ _ _=>by kernel_rfl
theorem uG30:TigT (11,0):=fun _ _ _ _=>by kernel_rfl
theorem allG:∀ p,p∈stT→TigT p:=by
 intro p hp
 unfold stT at hp
 simp only[List.mem_cons,List.not_mem_nil,or_false]at hp
 rcases hp with rfl|rfl|rfl|rfl|rfl|rfl|rfl|rfl|rfl|rfl|rfl|rfl|rfl|rfl|rfl|rfl|rfl|rfl|rfl|rfl|rfl|rfl|rfl|rfl|rfl|rfl|rfl|rfl|rfl|rfl|rfl
 ·exact uG0
 ·exact uG1
 ·exact uG2
 ·exact uG3
 ·exact uG4
 ·exact uG5
 ·exact uG6
 ·exact uG7
 ·exact uG8
 ·exact uG9
 ·exact uG10
 ·exact uG11
 ·exact uG12
 ·exact uG13
 ·exact uG14
 ·exact uG15
 ·exact uG16
 ·exact uG17
 ·exact uG18
 ·exact uG19
 ·exact uG20
 ·exact uG21
 ·exact uG22
 ·exact uG23
 ·exact uG24
 ·exact uG25
 ·exact uG26
 ·exact uG27
 ·exact uG28
 ·exact uG29
 exact uG30
theorem Gs:∀ s d t,xD.map (fun x=>szR (aH ⟨s,d,t⟩ x))=xD.map (fun _=>some (true,⟨s,d,t⟩)):=fun _ _ _=>by kernel_rfl
theorem Fo:((List.range 8).map fun j=>bM (skT j))=(List.range 8).map fun j=>some (skT j):=by kernel_rfl
theorem Fp:((List.range 321).map fun i=>(skD i).show_)=(List.range 321).map fun i=>skH (sh i):=by kernel_rfl
end Go.Proofs.Qr
