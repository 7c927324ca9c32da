/- Draws,with loops of at most so many rounds. Own work. -/
import Derived.Test.YtdhboohobflflaaGreatDoorXqM
import Derived.Test.YtdhboohobflflaaGreatDoorXq34
set_option linter.all false
set_option maxRecDepth 100000
namespace Go.Proofs.Qq
open Go
structure Cur (c:GL01Cur):Prop where
 i0:0≤c.i
 i1:c.i≤(c.b.length:Int)
 b:c.b.length≤1048576
theorem pE (x:BitVec (IntKind.bits .i64)):0≤(((x &&& BitVec.ofInt (IntKind.bits .i64) 255).toNat:Nat):Int)∧(((x &&& BitVec.ofInt (IntKind.bits .i64) 255).toNat:Nat):Int)≤255:=by
 have h:(x &&& BitVec.ofInt (IntKind.bits .i64) 255).toNat≤(BitVec.ofInt (IntKind.bits .i64) 255).toNat:=by
  rw[BitVec.toNat_and];exact Nat.and_le_right
 have e:(BitVec.ofInt (IntKind.bits .i64) 255).toNat=255:=by decide
 omega
theorem eN {c:GL01Cur}(h:Cur c):∃ r,bK c=some r∧0≤r.1∧r.1≤255∧Cur r.2:=by
 have h0:=h.i0
 have h1:=h.i1
 have h2:=h.b
 unfold bK
 by_cases hl:c.i<(c.b.length:Int)
 ·rw[if_pos hl]
  have e:getI c.b c.i=some (c.b[c.i.toNat]'(by omega)):=by unfold getI;rw[if_pos h0,List.getElem?_eq_getElem (by omega)]
  rw[e]
  simp only[obnd]
  refine⟨_,rfl,?_⟩
  simp only
  generalize (BitVec.ofInt (IntKind.bits .i64) (IntKind.wrap .i64 _))=x
  have hx:=pE x
  rw[wr (x:=(((x &&& BitVec.ofInt (IntKind.bits .i64) 255).toNat:Nat):Int))]
  refine⟨hx.1,hx.2,?_,?_,?_⟩
  ·simp only;rw[wr (x:=c.i+1)];omega
  ·simp only;rw[wr (x:=c.i+1)];omega
  exact h2
 rw[if_neg hl]
 refine⟨_,rfl,?_⟩
 simp only
 generalize (BitVec.ofInt (IntKind.bits .i64) (IntKind.wrap .i64 _))=x
 have hx:=pE x
 rw[wr (x:=(((x &&& BitVec.ofInt (IntKind.bits .i64) 255).toNat:Nat):Int))]
 exact⟨hx.1,hx.2,h0,h1,h2⟩
theorem pF (code:List Int)(h:code.length≤1048576):∃ r,cZ code=some r∧Cur r:=by
 unfold cZ
 have key:∃ r,aD (bD code) (IntKind.wrap .i64 (1974+(code.length:Int)),0)=some r∧True:=by
  refine mS 4000 (by omega) (fun i s=>s.2=(i:Int)) (fun _=>True) rfl ?_ ?_
  ·rintro i ⟨v,j⟩ hi rfl
   unfold bD
   simp only
   by_cases hi2:i<code.length
   ·rw[ifP,ifP,yQ hi2]
    refine .inl ⟨_,rfl,?_⟩
    simp only
    rw[wr];omega
   rw[ifN]
   exact .inr ⟨_,rfl,trivial⟩
  rintro⟨v,j⟩ rfl
  unfold bD
  simp only
  by_cases hi2:4000<code.length
  ·rw[ifP,ifN]
   exact⟨_,rfl,trivial⟩
  rw[ifN]
  exact⟨_,rfl,trivial⟩
 obtain⟨r,e,_⟩:=key
 rw[e]
 exact⟨_,rfl,Int.le_refl _,by simp,h⟩
end Go.Proofs.Qq
set_option maxRecDepth 100000
namespace Go.Proofs.Qq
open Go
theorem pG (code:List Int)(n:Int)(h:code.length≤1048576)(h0:0≤n)(h1:n≤50000):∃ r,da code n=some r∧Cur r:=by
 unfold da
 obtain⟨c,e,hc⟩:=pF code h
 rw[e]
 simp only[obnd]
 have key:∃ r,aD (bE n) (0,c.b,c.i,c.h)=some r∧Cur ⟨r.1,r.2.1,r.2.2⟩:=by
  refine mS n.toNat (by omega) (fun i s=>s.1=(i:Int)∧Cur ⟨s.2.1,s.2.2.1,s.2.2.2⟩) _ ⟨rfl,hc⟩ ?_ ?_
  ·rintro i ⟨j,b,k,d⟩ hi ⟨rfl,hI⟩
   unfold bE
   simp only at hI ⊢
   rw[ifP]
   obtain⟨r,e,_,_,hr⟩:=eN hI
   rw[e]
   refine .inl ⟨_,rfl,?_,hr⟩
   simp only
   rw[wr];omega
  rintro⟨j,b,k,d⟩ ⟨rfl,hI⟩
  unfold bE
  simp only at hI ⊢
  rw[ifN]
  exact⟨_,rfl,hI⟩
 obtain⟨r,e,hr⟩:=key
 rw[e]
 exact⟨_,rfl,hr⟩
theorem sp (code:List Int)(n:Int)(h:code.length≤1048576)(h0:0≤n)(h1:n≤50000):∃ r,cG code n=some r∧0≤r:=by
 unfold cG
 obtain⟨c,e,hc⟩:=pG code n h h0 h1
 rw[e]
 simp only[obnd]
 obtain⟨r,e,a0,a1,hr⟩:=eN hc
 rw[e]
 simp only
 obtain⟨q,e,b0,b1,hq⟩:=eN hr
 rw[e]
 refine⟨_,rfl,?_⟩
 rw[wr (x:=r.1*256),wr (x:=r.1*256+q.1)]
 omega
noncomputable def askO (k:Int):Option Bool:=
 obnd (ai k) fun r2=>
 chk (12+r2.size≤9223372036854775807) <|
 chk (((ByteArray.mk #[99,117,101,32,97,32,115,116,97,114,116,32])++r2).size+29≤9223372036854775807) <|
 obnd (ed (((ByteArray.mk #[99,117,101,32,97,32,115,116,97,114,116,32])++r2)++(ByteArray.mk #[32,53,10,99,108,97,115,115,10,115,116,97,114,116,10,116,105,99,107,32,45,32,45,10,115,116,97,116,101]))) fun r3=>
 obnd (de r3.1) fun r4=>
 if k=0 then
  if (r4.length:Int)=5 then
   obnd (getI r4 0) fun x5=>
   if x5=(ByteArray.mk #[111,107]) then
    obnd (getI r4 1) fun x6=>
    if x6=(ByteArray.mk #[115,116,114,111,110,103]) then
     obnd (getI r4 3) fun x7=>
     if x7=(ByteArray.mk #[97]) then
      obnd (getI r4 4) fun x8=>
      if x8=(ByteArray.mk #[49,32,103,111,64,48,32,97,64,48,32,45]) then
       obnd (cK (ByteArray.mk #[])) fun r9=>
       some (decide (r9=7))
      else
       some false
     else
      some false
    else
     some false
   else
    some false
  else
   some false
 else
  if (r4.length:Int)=5 then
   obnd (getI r4 0) fun x10=>
   if x10=(ByteArray.mk #[111,107]) then
    obnd (getI r4 1) fun x11=>
    if x11=(ByteArray.mk #[115,116,114,111,110,103]) then
     obnd (getI r4 3) fun x12=>
     if x12=(ByteArray.mk #[45]) then
      obnd (getI r4 4) fun x13=>
      if x13=(ByteArray.mk #[49,32,103,111,64,48,32,45]) then
       obnd (cK (ByteArray.mk #[])) fun r14=>
       some (decide (r14=7))
      else
       some false
     else
      some false
    else
     some false
   else
    some false
  else
   some false
theorem GX:askO 0=some true:=by decide +kernel
theorem GY:askO 1=some true:=by decide +kernel
theorem GZ:askO 2=some true:=by decide +kernel
theorem Ha:askO 3=some true:=by decide +kernel
theorem xZ (code:List Int):eg code=some true:=by
 unfold eg
 by_cases hc:1048576<(code.length:Int)
 ·rw[if_pos hc]
 rw[if_neg hc]
 obtain⟨r,e,h0⟩:=sp code 1 (by omega) (by omega) (by omega)
 rw[e]
 show askO (Int.tmod r 4)=some true
 have h1:=Int.tmod_nonneg 4 h0
 have h2:=Int.tmod_lt_of_pos r (b:=4) (by omega)
 generalize Int.tmod r 4=k at h1 h2
 have:k=0∨k=1∨k=2∨k=3:=by omega
 rcases this with rfl|rfl|rfl|rfl
 ·exact GX
 ·exact GY
 ·exact GZ
 exact Ha
end Go.Proofs.Qq
