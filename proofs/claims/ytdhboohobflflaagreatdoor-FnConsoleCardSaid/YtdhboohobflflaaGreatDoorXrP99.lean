/- Draws,with loops of at most so many rounds. Own work. -/
import Derived.Test.YtdhboohobflflaaGreatDoorXrM
import Derived.Test.YtdhboohobflflaaGreatDoorXr34
import Derived.Lib.IndexBytes
set_option linter.all false
set_option maxRecDepth 100000
namespace Go.Proofs.Qr
open Go
structure Cur (c:GL01Cur):Prop where
 i0:0≤c.i
 i1:c.i≤(c.b.length:Int)
 b:c.b.length≤1048576
theorem sI (x:BitVec (IntKind.bits .i64)):0≤(((x &&& BitVec.ofInt (IntKind.bits .i64) 255).toNat:Nat):Int)∧(((x &&& BitVec.ofInt (IntKind.bits .i64) 255).toNat:Nat):Int)≤255:=by
 have h:(x &&& BitVec.ofInt (IntKind.bits .i64) 255).toNat≤(BitVec.ofInt (IntKind.bits .i64) 255).toNat:=by
  rw[BitVec.toNat_and];exact Nat.and_le_right
 have e:(BitVec.ofInt (IntKind.bits .i64) 255).toNat=255:=by decide
 omega
theorem rz {c:GL01Cur}(h:Cur c):∃ r,bD c=some r∧0≤r.1∧r.1≤255∧Cur r.2:=by
 have h0:=h.i0
 have h1:=h.i1
 have h2:=h.b
 unfold bD
 by_cases hl:c.i<(c.b.length:Int)
 ·rw[if_pos hl]
  have e:getI c.b c.i=some (c.b[c.i.toNat]'(by omega)):=by unfold getI;rw[if_pos h0,List.getElem?_eq_getElem (by omega)]
  rw[e]
  simp only[obnd]
  refine⟨_,rfl,?_⟩
  simp only
  generalize (BitVec.ofInt (IntKind.bits .i64) (IntKind.wrap .i64 _))=x
  have hx:=sI x
  rw[wr (x:=(((x &&& BitVec.ofInt (IntKind.bits .i64) 255).toNat:Nat):Int))]
  refine⟨hx.1,hx.2,?_,?_,?_⟩
  ·simp only;rw[wr (x:=c.i+1)];omega
  ·simp only;rw[wr (x:=c.i+1)];omega
  exact h2
 rw[if_neg hl]
 refine⟨_,rfl,?_⟩
 simp only
 generalize (BitVec.ofInt (IntKind.bits .i64) (IntKind.wrap .i64 _))=x
 have hx:=sI x
 rw[wr (x:=(((x &&& BitVec.ofInt (IntKind.bits .i64) 255).toNat:Nat):Int))]
 exact⟨hx.1,hx.2,h0,h1,h2⟩
theorem zT (code:List Int)(h:code.length≤1048576):∃ r,dY code=some r∧Cur r:=by
 unfold dY
 have key:∃ r,aw (bZ code) (IntKind.wrap .i64 (1974+(code.length:Int)),0)=some r∧True:=by
  refine mG 4000 (by omega) (fun i s=>s.2=(i:Int)) (fun _=>True) rfl ?_ ?_
  ·rintro i ⟨v,j⟩ hi rfl
   unfold bZ
   simp only
   by_cases hi2:i<code.length
   ·rw[ifP,ifP,yL hi2]
    refine .inl ⟨_,rfl,?_⟩
    simp only
    rw[wr];omega
   rw[ifN]
   exact .inr ⟨_,rfl,trivial⟩
  rintro⟨v,j⟩ rfl
  unfold bZ
  simp only
  by_cases hi2:4000<code.length
  ·rw[ifP,ifN]
   exact⟨_,rfl,trivial⟩
  rw[ifN]
  exact⟨_,rfl,trivial⟩
 obtain⟨r,e,_⟩:=key
 rw[e]
 exact⟨_,rfl,Int.le_refl _,by simp,h⟩
end Go.Proofs.Qr
set_option maxRecDepth 100000
set_option maxHeartbeats 1000000
namespace Go.Proofs.Qr
open Go Go.Lib
theorem pw {α:Type}{l:List α}{i:Nat}(h:i<l.length):l.take (i+1)=l.take i++[l[i]]:=by
 rw[List.take_add_one,List.getElem?_eq_getElem h];rfl
theorem qI (l:List UInt8):bs (ofL l)=l:=by simp[bs,ofL]
theorem xx (s:ByteArray):ofL (bs s)=s:=by
 cases s;simp[bs,ofL]
theorem gf (s:ByteArray):s.size=(bs s).length:=by unfold bs;rw[Array.length_toList];rfl
theorem ly (s:ByteArray)(i j:Nat):bs (s.extract i j)=((bs s).take j).drop i:=by
 unfold bs;rw[ByteArray.data_extract,Array.toList_extract]
 rw[List.extract_eq_take_drop,List.drop_take]
theorem yT {s:ByteArray}{i:Nat}(h:i<s.size):getS s (i:Int)=some s[i]:=by
 unfold getS
 rw[ifP,Int.toNat_natCast,getElem?_pos s i h]
theorem yR {s:ByteArray}{i:Nat}(h:i<(bs s).length):getS s (i:Int)=some (bs s)[i]:=by
 have h':i<s.size:=by rw[gf];exact h
 rw[yT h'];rfl
theorem vJ {B:Nat}(sep:List UInt8)(xs:List (List UInt8))(h:∀ x,x∈xs→x.length≤B):(Lib.join xs sep).length≤xs.length*(B+sep.length):=by
 have key:∀ xs:List (List UInt8),(∀ x,x∈xs→x.length≤B)→(joinTail sep xs).length≤xs.length*(B+sep.length):=by
  intro xs
  induction xs with
  | nil=>intro _;simp[joinTail]
  | cons x r ih=>
   intro h
   have h1:=ih (fun y hy=>h y (by simp[hy]))
   have h2:=h x (by simp)
   simp only[joinTail,List.map_cons,List.flatten_cons,List.length_append,List.length_cons]at h1 ⊢
   rw[Nat.succ_mul];omega
 cases xs with
 | nil=>simp[Lib.join_nil]
 | cons x r=>
  rw[Lib.join_cons,List.length_append,List.length_cons,Nat.succ_mul]
  have h1:=key r (fun y hy=>h y (by simp[hy]))
  have h2:=h x (by simp)
  omega
def aO {α:Type}(p:α→Bool):List α→List (List α)
 | []=>[[]]
 | c::r=>if p c then []::aO p r else match aO p r with
  | h::t=>(c::h)::t
  | []=>[[c]]
def glue {α:Type}(pre:List α):List (List α)→List (List α)
 | h::t=>(pre++h)::t
 | []=>[pre]
theorem iQ {α:Type}(p:α→Bool)(l:List α):aO p l≠[]:=by
 cases l with
 | nil=>simp[aO]
 | cons c r=>
  simp only[aO]
  split
  ·simp
  split <;> simp
theorem px {α:Type}{L:List (List α)}(h:L≠[]):glue [] L=L:=by cases L <;> simp_all [glue]
theorem sJ {α:Type}{p:α→Bool}{c:α}{r:List α}(h:p c=false)(pre:List α):glue pre (aO p (c::r))=glue (pre++[c]) (aO p r):=by
 simp only[aO,h]
 cases hs:aO p r with
 | nil=>exact absurd hs (iQ p r)
 | cons a b=>simp[glue]
theorem rA {α:Type}{p:α→Bool}{c:α}{r:List α}(h:p c=true)(pre:List α):glue pre (aO p (c::r))=pre::aO p r:=by
 simp[aO,h,glue]
theorem rB {α:Type}{p:α→Bool}{l:List α}(h:∀ c,c∈l→p c=false):aO p l=[l]:=by
 induction l with
 | nil=>rfl
 | cons a r ih=>
  simp only[aO]
  rw[if_neg (by rw[h a (by simp)];simp),ih (fun c hc=>h c (by simp[hc]))]
theorem nM {α:Type}{p:α→Bool}{l r:List α}{c:α}(h:∀ c,c∈l→p c=false)(hc:p c=true):aO p (l++c::r)=l::aO p r:=by
 induction l with
 | nil=>simp[aO,hc]
 | cons a l ih=>
  have:=ih (fun c hc=>h c (by simp[hc]))
  simp only[List.cons_append,aO]
  rw[if_neg (by rw[h a (by simp)];simp),this]
theorem vC {sep:UInt8}(xs:List (List UInt8))(hne:xs≠[])(h:∀ x,x∈xs→∀ c,c∈x→c≠sep):aO (fun c=>c == sep) (Lib.join xs [sep])=xs:=by
 induction xs with
 | nil=>exact absurd rfl hne
 | cons x r ih=>
  have hx:∀ c,c∈x→(c == sep)=false:=fun c hc=>by simpa using h x (by simp) c hc
  cases r with
  | nil=>rw[Lib.join_one,rB hx]
  | cons y r=>
   rw[Lib.join_cons]
   have e:joinTail [sep] (y::r)=sep::Lib.join (y::r) [sep]:=by rw[Lib.join_cons];simp[joinTail]
   rw[e,nM hx (by simp),ih (by simp) (fun z hz=>h z (by simp[hz]))]
theorem BD {l l':List ByteArray}(h:l.map bs=l'.map bs):l=l':=by
 have key:∀ l:List ByteArray,(l.map bs).map ofL=l:=by
  intro l
  rw[List.map_map]
  conv=>rhs;rw[← List.map_id l]
  exact List.map_congr_left (fun x _=>xx x)
 rw[← key l,h,key]
theorem rC (l:List (List UInt8)):(l.map ofL).map bs=l:=by
 rw[List.map_map]
 conv=>rhs;rw[← List.map_id l]
 exact List.map_congr_left (fun x _=>qI x)
def sepB (by_:ByteArray)(c:UInt8):Bool:=(bs by_).contains c
def iR (s by_:ByteArray):List ByteArray:=(aO (sepB by_) (bs s)).map ofL
theorem ku (l:List UInt8)(c:UInt8):0≤indexByte l c↔l.contains c=true:=by
 induction l with
 | nil=>simp[indexByte]
 | cons b l ih=>
  have hge:=indexByte_ge l c
  unfold indexByte
  rw[List.contains_cons]
  by_cases hb:b=c
  ·subst hb
   rw[if_pos (by simp)];simp
  rw[if_neg (by simpa using hb),show(c == b)=false by rw[beq_eq_false_iff_ne];exact fun h=>hb h.symm]
  rw[Bool.false_or,← ih]
  by_cases h1:indexByte l c=-1
  ·rw[h1];simp
  have:(indexByte l c == -1)=false:=by simpa using h1
  rw[this];simp;omega
structure bE (s by_:ByteArray) (i:Nat) (f:Int) (out:List ByteArray):Prop where
 f0:0≤f
 f1:f≤(i:Int)
 len:out.length≤i
 eq:out.map bs++glue (((bs s).take i).drop f.toNat) (aO (sepB by_) ((bs s).drop i))=aO (sepB by_) (bs s)
theorem nN (s by_:ByteArray):bE s by_ 0 0 []:=by
 refine⟨Int.le_refl _,Int.le_refl _,Nat.le_refl _,?_⟩
 simp only[List.take_zero,List.drop_nil,List.drop_zero,List.map_nil,List.nil_append]
 exact px (iQ _ _)
theorem bE.yes {s by_:ByteArray}{i:Nat}{f:Int}{out:List ByteArray}(h:bE s by_ i f out)(hi:i<(bs s).length)(hc:sepB by_ (bs s)[i]=true):bE s by_ (i+1) ((i:Int)+1) (out++[s.extract f.toNat i]):=by
 refine⟨by omega,by omega,by simp only[List.length_append,List.length_singleton];have:=h.len;omega,?_⟩
 rw[← h.eq,List.map_append,List.append_assoc]
 congr 1
 rw[List.drop_eq_getElem_cons hi,rA hc]
 simp only[List.map_cons,List.map_nil,List.singleton_append]
 rw[ly]
 congr 1
 rw[show((i:Int)+1).toNat=i+1 by omega,List.drop_eq_nil_of_le (by rw[List.length_take];omega)]
 exact px (iQ _ _)
theorem bE.no {s by_:ByteArray}{i:Nat}{f:Int}{out:List ByteArray}(h:bE s by_ i f out)(hi:i<(bs s).length)(hc:sepB by_ (bs s)[i]=false):bE s by_ (i+1) f out:=by
 have h0:=h.f0
 have h1:=h.f1
 refine⟨h0,by omega,by have:=h.len;omega,?_⟩
 rw[← h.eq]
 congr 1
 rw[List.drop_eq_getElem_cons hi,sJ hc,pw hi,List.drop_append_of_le_length (by rw[List.length_take];omega)]
theorem bE.done {s by_:ByteArray}{f:Int}{out:List ByteArray}(h:bE s by_ (bs s).length f out):out++[s.extract f.toNat s.size]=iR s by_:=by
 refine BD ?_
 unfold iR
 rw[rC,← h.eq,List.map_append,gf]
 congr 1
 simp only[List.map_cons,List.map_nil]
 rw[ly,List.drop_length]
 simp[aO,glue]
theorem rP (s by_:ByteArray)(hs:s.size≤90000):bf s by_=some (iR s by_):=by
 have hsz:=gf s
 unfold bf
 have key:∃ q,aw (bH s by_) (0,0,[])=some q∧bE s by_ (bs s).length q.1 q.2:=by
  refine mG (bs s).length (by omega) (fun i st=>st.2.1=(i:Int)∧bE s by_ i st.1 st.2.2) _ ⟨rfl,nN s by_⟩ ?_ ?_
  ·rintro i ⟨f,j,out⟩ hi ⟨rfl,hC⟩
   simp only at hC
   have h0:=hC.f0
   have h1:=hC.f1
   have h2:=hC.len
   unfold bH
   simp only
   rw[ifP,yR hi]
   simp only[obnd]
   unfold dl oD
   simp only
   have hcc:(((bs s)[i].toNat:Nat):Int).toNat.toUInt8=(bs s)[i]:=by simp
   rw[hcc]
   have hiff:=ku (bs by_) (bs s)[i]
   cases hc:sepB by_ (bs s)[i]
   ·have hneg:¬ 0≤indexByte (bs by_) (bs s)[i]:=by
     rw[hiff]
     unfold sepB at hc
     rw[hc];simp
    rw[if_neg hneg,wr]
    exact .inl ⟨_,rfl,rfl,hC.no hi hc⟩
   have hpos:0≤indexByte (bs by_) (bs s)[i]:=hiff.2 hc
   rw[if_pos hpos,chP,chP,chP,chP,chP,chP,wr,Int.toNat_natCast]
   exact .inl ⟨_,rfl,rfl,hC.yes hi hc⟩
  rintro⟨f,j,out⟩ ⟨rfl,hC⟩
  unfold bH
  simp only
  rw[ifN]
  exact⟨_,rfl,hC⟩
 obtain⟨q,hq,hC⟩:=key
 have h0:=hC.f0
 have h1:=hC.f1
 have h2:=hC.len
 rw[hq]
 simp only[obnd]
 rw[chP,chP,chP,chP,hC.done]
theorem vK (c x:UInt8):sepB (ByteArray.mk #[c]) x=(x == c):=by
 unfold sepB
 show List.contains [c] x=_
 rw[List.contains_cons]
 simp only[List.contains_nil,Bool.or_false]
theorem xy (s:ByteArray)(c:UInt8):iR s (ByteArray.mk #[c])=(aO (fun x=>x == c) (bs s)).map ofL:=by
 unfold iR
 congr 1
 congr 1
 funext x
 exact vK c x
end Go.Proofs.Qr
set_option maxRecDepth 100000
namespace Go.Proofs.Qr
open Go
def Ej:List ByteArray:=[(ByteArray.mk #[99,117,101,32,99,32,119,105,116,104,32,97,32,49,32,50]),(ByteArray.mk #[99,117,101,32,99,32,97,102,116,101,114,32,97,32,48,32,49,32,108,97,115,116,115,32,49,32,50]),(ByteArray.mk #[99,117,101,32,99,32,115,116,97,114,116,32,48,32,51,32,100,101,118,105,99,101,32,49]),(ByteArray.mk #[115,104,101,101,116,32,53,32,48,32,49,32,48]),(ByteArray.mk #[99,117,101,32,99,32,119,105,116,104,32,97,32,48,32,49,32,105,102,32,33,112,49]),(ByteArray.mk #[99,117,101,32,97,32,115,116,97,114,116,32,48,32,49])]
def Ek:List ByteArray:=[(ByteArray.mk #[99,108,97,115,115]),(ByteArray.mk #[114,101,112,111,114,116]),(ByteArray.mk #[115,116,97,114,116]),(ByteArray.mk #[115,116,97,114,116,32,108,97,122,121]),(ByteArray.mk #[115,116,97,116,101]),(ByteArray.mk #[108,111,103]),(ByteArray.mk #[104,117,114,114,121]),(ByteArray.mk #[116,105,109,101]),(ByteArray.mk #[116,97,107,101,111,118,101,114]),(ByteArray.mk #[114,101,104,101,97,114,115,101])]
def El:List ByteArray:=[(ByteArray.mk #[116,105,99,107,32,45,32,45]),(ByteArray.mk #[116,105,99,107,32,45,32,112,49]),(ByteArray.mk #[116,105,99,107,32,45,32,33,112,49]),(ByteArray.mk #[116,105,99,107,32,97,122,32,45]),(ByteArray.mk #[109,97,110,117,97,108,32,45,32,97,32,45]),(ByteArray.mk #[109,97,110,117,97,108,32,45,32,45,32,45]),(ByteArray.mk #[104,111,108,100,32,45,32,98,32,45]),(ByteArray.mk #[114,101,108,97,120,32,51]),(ByteArray.mk #[116,105,103,104,116,101,110,32,48]),(ByteArray.mk #[116,105,99,107,32,98,122,32,45])]
def Em:List ByteArray:=[(ByteArray.mk #[]),(ByteArray.mk #[35,32,110,111,116,101]),(ByteArray.mk #[119,104,97,116]),(ByteArray.mk #[116,105,99,107]),(ByteArray.mk #[116,105,99,107,32,120,32,45]),(ByteArray.mk #[114,101,108,97,120]),(ByteArray.mk #[114,101,108,97,120,32,120]),(ByteArray.mk #[115,104,101,101,116,32,53]),(ByteArray.mk #[109,97,110,117,97,108,32,45,32,97]),(ByteArray.mk #[104,111,108,100,32,45,32,122,32,45]),(ByteArray.mk #[99,117,101])]
def eN:List ByteArray:=[(ByteArray.mk #[115,104,101,101,116,32,54,32,48,32,49,32,48]),(ByteArray.mk #[99,117,101,32,97,32,115,116,97,114,116,32,48,32,49,32,114,117,110,115,32,49,32,50,32,119,97,116,99,104,32,49]),(ByteArray.mk #[99,117,101,32,98,32,97,102,116,101,114,32,97,32,48,32,50,32,108,97,115,116,115,32,49,32,49]),(ByteArray.mk #[115,116,97,114,116])]
def menu:List ByteArray:=Ej++(Ek++(El++Em))
theorem mA {c:GL01Cur}(h:Cur c)(n:Int)(hn:n≤256):∃ r,bV c n=some r∧0≤r.1∧(0<n→r.1<n)∧Cur r.2:=by
 unfold bV
 by_cases h0:n≤0
 ·rw[if_pos h0]
  exact⟨_,rfl,Int.le_refl _,fun h=>by omega,h⟩
 rw[if_neg h0,if_pos hn]
 obtain⟨r,e,a,b,hc⟩:=rz h
 rw[e]
 simp only[obnd]
 rw[chP]
 refine⟨_,rfl,?_,?_,hc⟩
 ·exact Int.tmod_nonneg _ a
 intro _;exact Int.tmod_lt_of_pos _ (by omega)
theorem pX {c:GL01Cur}(h:Cur c)(l:List ByteArray)(h1:0<l.length)(h2:l.length≤256):∃ r,dc c l=some r∧r.1∈l∧Cur r.2:=by
 unfold dc
 obtain⟨r,e,a,b,hc⟩:=mA h (l.length:Int) (by omega)
 have hb:=b (by omega)
 rw[e]
 simp only[obnd]
 have hg:getI l r.1=some (l[r.1.toNat]'(by omega)):=by unfold getI;rw[if_pos a,List.getElem?_eq_getElem (by omega)]
 rw[hg]
 exact⟨_,rfl,List.getElem_mem _,hc⟩
theorem En {c:GL01Cur}(h:Cur c):∃ r,fT c=some r∧r.1∈menu∧Cur r.2:=by
 unfold fT
 obtain⟨r,e,a,b,hc⟩:=mA h 4 (by omega)
 rw[e]
 simp only[obnd]
 unfold menu
 by_cases h0:r.1=0
 ·rw[if_pos h0]
  obtain⟨q,e,hm,hq⟩:=pX hc Ej (by decide) (by decide)
  refine⟨q,?_,List.mem_append_left _ hm,hq⟩
  unfold Ej at e
  rw[e]
 rw[if_neg h0]
 by_cases h1:r.1=1
 ·rw[if_pos h1]
  obtain⟨q,e,hm,hq⟩:=pX hc Ek (by decide) (by decide)
  refine⟨q,?_,List.mem_append_right _ (List.mem_append_left _ hm),hq⟩
  unfold Ek at e
  rw[e]
 rw[if_neg h1]
 by_cases h2:r.1=2
 ·rw[if_pos h2]
  obtain⟨q,e,hm,hq⟩:=pX hc El (by decide) (by decide)
  refine⟨q,?_,List.mem_append_right _ (List.mem_append_right _ (List.mem_append_left _ hm)),hq⟩
  unfold El at e
  rw[e]
 rw[if_neg h2]
 obtain⟨q,e,hm,hq⟩:=pX hc Em (by decide) (by decide)
 refine⟨q,?_,List.mem_append_right _ (List.mem_append_right _ (List.mem_append_right _ hm)),hq⟩
 unfold Em at e
 rw[e]
theorem BI (code:List Int)(h:code.length≤1048576):∃ l,eC code=some (eN++l)∧l.length≤7∧∀ x,x∈l→x∈menu:=by
 unfold eC
 obtain⟨c,e,hc⟩:=zT code h
 rw[e]
 simp only[obnd]
 unfold iX
 obtain⟨r,e,a,b,hr⟩:=mA hc 7 (by omega)
 have hb:=b (by omega)
 rw[e]
 simp only[obnd]
 rw[wr (x:=1+r.1)]
 have key:∃ q,aw ed (1+r.1,eN,r.2.b,r.2.i,r.2.h)=some q∧∃ l,q.1=eN++l∧l.length≤7∧∀ x,x∈l→x∈menu:=by
  refine mG (1+r.1).toNat (by omega) (fun i s=>s.1=1+r.1 - (i:Int)∧(∃ l,s.2.1=eN++l∧l.length=i∧∀ x,x∈l→x∈menu)∧Cur ⟨s.2.2.1,s.2.2.2.1,s.2.2.2.2⟩) _ ⟨by simp,⟨[],by simp,rfl,by simp⟩,hr⟩ ?_ ?_
  ·rintro i ⟨j,l,x,y,z⟩ hi ⟨hj,⟨l',rfl,hl,hm⟩,hI⟩
   simp only at hj hI
   unfold ed
   simp only
   have h4:(eN++l').length=4+i:=by rw[List.length_append,hl];rfl
   rw[ifP]
   obtain⟨q,e,hq,hcq⟩:=En hI
   rw[e]
   simp only[obnd]
   rw[chP,chP,wr]
   refine .inl ⟨_,rfl,?_,⟨l'++[q.1],?_,?_,?_⟩,hcq⟩
   ·simp only;omega
   ·simp only[List.append_assoc]
   ·simp only[List.length_append,List.length_singleton];omega
   intro x hx
   rcases List.mem_append.1 hx with hx|hx
   ·exact hm x hx
   rw[List.mem_singleton.1 hx];exact hq
  rintro⟨j,l,x,y,z⟩ ⟨hj,⟨l',rfl,hl,hm⟩,hI⟩
  simp only at hj
  unfold ed
  simp only
  rw[ifN]
  exact⟨_,rfl,l',rfl,by omega,hm⟩
 obtain⟨q,e,l,h1,h2,h3⟩:=key
 refine⟨l,?_,h2,h3⟩
 have e2:=e
 unfold eN at e2
 rw[e2]
 simp only
 rw[h1]
end Go.Proofs.Qr
set_option maxRecDepth 100000
namespace Go.Proofs.Qr
open Go
def eT:ByteArray:=ByteArray.mk #[]
def nlT:ByteArray:=ByteArray.mk #[10]
inductive Sess:List ByteArray→GConsole→ByteArray→ByteArray→Prop
 | nil {c:GConsole} {w:ByteArray}:Sess [] c w w
 | cons {x:ByteArray} {r:List ByteArray} {c c':GConsole} {o w w':ByteArray} (h:aS c x=some (c',o)) (hs:o.size≤100000) (hr:Sess r c' (if o=eT then w else (w++o)++nlT) w'):Sess (x::r) c w w'
theorem zV {σ ρ:Type}{body:σ→Option (Step σ ρ)}{n:Nat}{s:σ}{r:ρ}(h:Iter body n s r):∀ m,n<m→tR body m s=some r:=by
 induction h with
 | done h=>
  intro m hm
  obtain⟨m,rfl⟩:∃ q,m=q+1:=⟨m - 1,by omega⟩
  rw[iU,h]
 | next h _ ih=>
  intro m hm
  obtain⟨m,rfl⟩:∃ q,m=q+1:=⟨m - 1,by omega⟩
  rw[iU,h]
  exact ih m (by omega)
theorem sK {α:Type}{l r:List α}{x:α}{k:Nat}(h:l.drop k=x::r):k<l.length∧l[k]?=some x∧l.drop (k+1)=r:=by
 have h1:k<l.length:=by
  rcases Nat.lt_or_ge k l.length with h2|h2
  ·exact h2
  rw[List.drop_eq_nil_of_le h2]at h;cases h
 rw[List.drop_eq_getElem_cons h1]at h
 injection h with h2 h3
 exact⟨h1,by rw[List.getElem?_eq_getElem h1,h2],h3⟩
theorem Gy {l':List ByteArray}{c:GConsole}{w w':ByteArray}(h:Sess l' c w w'):∀ (l:List ByteArray) (k:Nat),l.drop k=l'→k≤l.length→l.length≤100→w.size≤200000*k →
  ∃ n,n≤l'.length∧Iter (cz (l.length:Int) l) n (w,(k:Int),c.sheet.cues,c.sheet.prep,c.sheet.horizon,c.desk.show_.nodes,c.desk.show_.ties,c.desk.show_.horizon,c.desk.state.now,c.desk.state.times,c.desk.state.values,c.desk.lazy,c.desk.log,c.takes) w':=by
 induction h with
 | nil=>
  intro l k hk hl h100 hw
  have:l.length≤k:=by
   rcases Nat.lt_or_ge k l.length with h2|h2
   ·rw[List.drop_eq_getElem_cons h2]at hk;cases hk
   exact h2
  refine⟨0,Nat.zero_le _,.done ?_⟩
  unfold cz
  simp only
  rw[ifN]
 | @cons x r c c' o w w' h hs hr ih=>
  intro l k hk hl h100 hw
  obtain⟨h1,h2,h3⟩:=sK hk
  have hsz:(if o=eT then w else (w++o)++nlT).size≤200000*(k+1):=by
   split
   ·omega
   rw[ByteArray.size_append,ByteArray.size_append,show nlT.size=1 from rfl];omega
  obtain⟨n,hn,hi⟩:=ih l (k+1) h3 (by omega) h100 hsz
  refine⟨n+1,by rw[List.length_cons];omega,.next ?_ hi⟩
  unfold cz
  simp only
  have hg:getI l (k:Int)=some x:=by
   unfold getI
   rw[ifP,Int.toNat_natCast,h2]
  rw[ifP,hg]
  simp only[obnd]
  rw[show aS (GConsole.mk (GSheet.mk c.sheet.cues c.sheet.prep c.sheet.horizon) (GDesk.mk (GShow.mk c.desk.show_.nodes c.desk.show_.ties c.desk.show_.horizon) (GState.mk c.desk.state.now c.desk.state.times c.desk.state.values) c.desk.lazy c.desk.log) c.takes) x=some (c',o) from h]
  simp only
  rw[wr (x:=(k:Int)+1)]
  by_cases ho:o=eT
  ·rw[if_pos ho,if_pos (show o=ByteArray.mk #[] from ho)]
   rfl
  rw[if_neg ho,if_neg (show ¬ o=ByteArray.mk #[] from ho),chP,yK (by rw[ByteArray.size_append];omega)]
  rfl
theorem Gz {l':List ByteArray}{c:GConsole}{w w':ByteArray}(h:Sess l' c w w'):∀ (l:List ByteArray) (k:Nat),l.drop k=l'→k≤l.length→l.length≤100→w.size≤200000*k →
  ∃ n,n≤l'.length∧Iter (cm (l.length:Int) l) n (w,(k:Int),c.sheet.cues,c.sheet.prep,c.sheet.horizon,c.desk.show_.nodes,c.desk.show_.ties,c.desk.show_.horizon,c.desk.state.now,c.desk.state.times,c.desk.state.values,c.desk.lazy,c.desk.log,c.takes) w':=by
 induction h with
 | nil=>
  intro l k hk hl h100 hw
  have:l.length≤k:=by
   rcases Nat.lt_or_ge k l.length with h2|h2
   ·rw[List.drop_eq_getElem_cons h2]at hk;cases hk
   exact h2
  refine⟨0,Nat.zero_le _,.done ?_⟩
  unfold cm
  simp only
  rw[ifN]
 | @cons x r c c' o w w' h hs hr ih=>
  intro l k hk hl h100 hw
  obtain⟨h1,h2,h3⟩:=sK hk
  have hsz:(if o=eT then w else (w++o)++nlT).size≤200000*(k+1):=by
   split
   ·omega
   rw[ByteArray.size_append,ByteArray.size_append,show nlT.size=1 from rfl];omega
  obtain⟨n,hn,hi⟩:=ih l (k+1) h3 (by omega) h100 hsz
  refine⟨n+1,by rw[List.length_cons];omega,.next ?_ hi⟩
  unfold cm
  simp only
  have hg:getI l (k:Int)=some x:=by
   unfold getI
   rw[ifP,Int.toNat_natCast,h2]
  rw[ifP,hg]
  simp only[obnd]
  rw[show aS (GConsole.mk (GSheet.mk c.sheet.cues c.sheet.prep c.sheet.horizon) (GDesk.mk (GShow.mk c.desk.show_.nodes c.desk.show_.ties c.desk.show_.horizon) (GState.mk c.desk.state.now c.desk.state.times c.desk.state.values) c.desk.lazy c.desk.log) c.takes) x=some (c',o) from h]
  simp only
  rw[wr (x:=(k:Int)+1)]
  by_cases ho:o=eT
  ·rw[if_pos ho,if_pos (show o=ByteArray.mk #[] from ho)]
   rfl
  rw[if_neg ho,if_neg (show ¬ o=ByteArray.mk #[] from ho),chP,yK (by rw[ByteArray.size_append,show(ByteArray.mk #[10]).size=1 from rfl];omega),← ByteArray.append_assoc]
  rfl
theorem Fy {c c':GConsole}{o:ByteArray}(h:aS c eT=some (c',o)):o=eT:=by
 unfold aS at h
 obtain⟨r1,_,h⟩:=ae h
 obtain⟨r2,_,h⟩:=ae h
 obtain⟨r3,_,h⟩:=ae h
 rw[if_pos (show eT=ByteArray.mk #[] from rfl)]at h
 cases h
 rfl
theorem Sess.front {l:List ByteArray}:∀ {c:GConsole} {w w':ByteArray},Sess (l++[eT]) c w w'→Sess l c w w':=by
 induction l with
 | nil=>
  intro c w w' h
  cases h with
  | cons h hs hr=>
   rw[Fy h,if_pos rfl]at hr
   cases hr
   exact .nil
 | cons x r ih=>
  intro c w w' h
  cases h with
  | cons h hs hr=>exact .cons h hs (ih hr)
theorem Cr {s:ByteArray}{l:List ByteArray}{w':ByteArray}{c0:GConsole}(hn:cq=some c0)(hs:cY s=some l)(hl:l.length≤40)(h:Sess l c0 eT w'):eg s=some (w',(l.length:Int)):=by
 unfold eg
 rw[hs]
 simp only[obnd]
 rw[ifN,hn]
 simp only
 obtain⟨n,h1,h2⟩:=Gz h l 0 rfl (Nat.zero_le _) (by omega) (Nat.zero_le _)
 have h3:aw (cm (l.length:Int) l) (ByteArray.mk #[],0,c0.sheet.cues,c0.sheet.prep,c0.sheet.horizon,c0.desk.show_.nodes,c0.desk.show_.ties,c0.desk.show_.horizon,c0.desk.state.now,c0.desk.state.times,c0.desk.state.values,c0.desk.lazy,c0.desk.log,c0.takes)=some w':=zV h2 100000 (by omega)
 rw[h3]
theorem Cs {l:List ByteArray}(hne:l≠[])(h100:l.length≤40)(hb:∀ x,x∈l→(bs x).length≤100∧∀ c,c∈bs x→c≠10) :
  ∃ s,am l nlT=some s∧∃ r,cY s=some r∧(r=l∨l=r++[eT]):=by
 have hlen:(Lib.join (l.map bs) [10]).length≤4040:=by
  have:=vJ (B:=100) [10] (l.map bs) (fun x hx=>by
   obtain⟨y,hy,rfl⟩:=List.mem_map.1 hx
   exact(hb y hy).1)
  rw[List.length_map,show([10]:List UInt8).length=1 from rfl]at this
  have h2:l.length*(100+1)≤40*(100+1):=Nat.mul_le_mul_right _ h100
  omega
 have hnl:bs nlT=[10]:=rfl
 refine⟨ofL (Lib.join (l.map bs) [10]),?_,?_⟩
 ·unfold am iY Dl
  rw[hnl,if_pos ⟨by omega,by omega⟩]
  rfl
 have hsp:bf (ofL (Lib.join (l.map bs) [10])) nlT=some l:=by
  rw[rP _ _ (by rw[gf,qI];omega),show nlT=ByteArray.mk #[10] from rfl,xy,qI,vC _ (by simpa using hne) (fun x hx c hc=>by
   obtain⟨y,hy,rfl⟩:=List.mem_map.1 hx
   exact(hb y hy).2 c hc)]
  rw[List.map_map]
  congr 1
  conv=>rhs;rw[← List.map_id l]
  exact List.map_congr_left (fun x _=>xx x)
 unfold cY
 rw[show(ByteArray.mk #[10])=nlT from rfl,hsp]
 simp only[obnd]
 have hpos:0<l.length:=List.length_pos_iff.2 hne
 rw[wr (x:=(l.length:Int) - 1)]
 have hg:getI l ((l.length:Int) - 1)=some (l.getLast hne):=by
  rw[show(l.length:Int) - 1=((l.length - 1:Nat):Int) by omega,yL (by omega),List.getLast_eq_getElem]
 rw[hg]
 simp only
 by_cases he:l.getLast hne=ByteArray.mk #[]
 ·rw[if_pos he,chP,chP]
  refine⟨_,rfl,.inr ?_⟩
  rw[show((l.length:Int) - 1).toNat=l.length - 1 by omega,← List.dropLast_eq_take]
  have:=(List.dropLast_concat_getLast hne).symm
  rw[he]at this
  exact this
 rw[if_neg he]
 exact⟨_,rfl,.inl rfl⟩
theorem Ct (code:List Int){c0:GConsole}(hn:cq=some c0)(hb:∀ x,x∈eN++menu→(bs x).length≤100∧∀ c,c∈bs x→c≠10)
  (hS:∀ l:List ByteArray,l.length≤7→(∀ x,x∈l→x∈menu)→∃ w',w'≠eT∧Sess (eN++l) c0 eT w'):eL code=some true:=by
 unfold eL
 by_cases hc:1048576<(code.length:Int)
 ·rw[if_pos hc]
 rw[if_neg hc]
 obtain⟨l,e,hl,hm⟩:=BI code (by omega)
 obtain⟨w',hw,h⟩:=hS l hl hm
 rw[e,hn]
 simp only[obnd]
 have h4:eN.length=4:=rfl
 generalize hL:eN++l=L at h
 have hLl:L.length≤11:=by rw[← hL,List.length_append];omega
 have hLn:L≠[]:=by
  intro h0
  rw[h0]at hL
  have:=congrArg List.length hL
  rw[List.length_append,h4]at this
  simp at this
 have hLb:∀ x,x∈L→(bs x).length≤100∧∀ c,c∈bs x→c≠10:=by
  intro x hx
  rw[← hL]at hx
  refine hb x ?_
  rcases List.mem_append.1 hx with hx|hx
  ·exact List.mem_append_left _ hx
  exact List.mem_append_right _ (hm x hx)
 obtain⟨n,h1,h2⟩:=Gy h L 0 rfl (Nat.zero_le _) (by omega) (Nat.zero_le _)
 have h3:aw (cz (L.length:Int) L) (ByteArray.mk #[],0,c0.sheet.cues,c0.sheet.prep,c0.sheet.horizon,c0.desk.show_.nodes,c0.desk.show_.ties,c0.desk.show_.horizon,c0.desk.state.now,c0.desk.state.times,c0.desk.state.values,c0.desk.lazy,c0.desk.log,c0.takes)=some w':=zV h2 100000 (by omega)
 rw[h3]
 simp only
 obtain⟨s,e1,r,e2,hr⟩:=Cs hLn (by omega) hLb
 rw[show(ByteArray.mk #[10])=nlT from rfl,e1]
 simp only
 have hrl:r.length≤L.length∧L.length≤r.length+1∧Sess r c0 eT w':=by
  rcases hr with rfl|hr
  ·exact⟨Nat.le_refl _,by omega,h⟩
  rw[hr]at h
  refine⟨by rw[hr,List.length_append];omega,by rw[hr,List.length_append];simp,h.front⟩
 obtain⟨g1,g2,g3⟩:=hrl
 rw[Cr hn e2 (by omega) g3]
 simp only
 rw[if_neg (show ¬ w'=ByteArray.mk #[] from hw),if_pos trivial,wr (x:=(L.length:Int) - 1),ifP,decide_eq_true (by omega)]
end Go.Proofs.Qr
set_option maxRecDepth 100000
set_option maxHeartbeats 4000000
namespace Go.Proofs.Qr
open Go
def aS0:GSheet:=⟨[⟨(ByteArray.mk #[97]),(-1),false,0,1,1,2,true,0,1,0⟩,⟨(ByteArray.mk #[98]),0,true,0,2,1,1,false,0,0,0⟩],[0,1,0],6⟩
def aS1:GSheet:=⟨[⟨(ByteArray.mk #[97]),(-1),false,0,1,1,2,true,0,1,0⟩,⟨(ByteArray.mk #[98]),0,true,0,2,1,1,false,0,0,0⟩,⟨(ByteArray.mk #[99]),0,false,1,2,0,0,false,0,0,0⟩],[0,1,0],6⟩
def aS2:GSheet:=⟨[⟨(ByteArray.mk #[97]),(-1),false,0,1,1,2,true,0,1,0⟩,⟨(ByteArray.mk #[98]),0,true,0,2,1,1,false,0,0,0⟩,⟨(ByteArray.mk #[99]),0,true,0,1,1,2,false,0,0,0⟩],[0,1,0],6⟩
def aS3:GSheet:=⟨[⟨(ByteArray.mk #[97]),(-1),false,0,1,1,2,true,0,1,0⟩,⟨(ByteArray.mk #[98]),0,true,0,2,1,1,false,0,0,0⟩,⟨(ByteArray.mk #[99]),(-1),false,0,3,0,0,false,0,0,1⟩],[0,1,0],6⟩
def aS4:GSheet:=⟨[],[0,1,0],5⟩
def aS5:GSheet:=⟨[⟨(ByteArray.mk #[97]),(-1),false,0,1,1,2,true,0,1,0⟩,⟨(ByteArray.mk #[98]),0,true,0,2,1,1,false,0,0,0⟩,⟨(ByteArray.mk #[99]),0,false,0,1,0,0,false,(-1),0,0⟩],[0,1,0],6⟩
def aS6:GSheet:=⟨[⟨(ByteArray.mk #[99]),(-1),false,0,3,0,0,false,0,0,1⟩],[0,1,0],5⟩
def aS7:GSheet:=⟨[⟨(ByteArray.mk #[97]),(-1),false,0,1,0,0,false,0,0,0⟩],[0,1,0],5⟩
def aS8:GSheet:=⟨[⟨(ByteArray.mk #[99]),(-1),false,0,3,0,0,false,0,0,1⟩,⟨(ByteArray.mk #[97]),(-1),false,0,1,0,0,false,0,0,0⟩],[0,1,0],5⟩
def aS9:GSheet:=⟨[⟨(ByteArray.mk #[97]),(-1),false,0,1,0,0,false,0,0,0⟩,⟨(ByteArray.mk #[99]),0,false,1,2,0,0,false,0,0,0⟩],[0,1,0],5⟩
def aS10:GSheet:=⟨[⟨(ByteArray.mk #[97]),(-1),false,0,1,0,0,false,0,0,0⟩,⟨(ByteArray.mk #[99]),0,true,0,1,1,2,false,0,0,0⟩],[0,1,0],5⟩
def aS11:GSheet:=⟨[⟨(ByteArray.mk #[97]),(-1),false,0,1,0,0,false,0,0,0⟩,⟨(ByteArray.mk #[99]),(-1),false,0,3,0,0,false,0,0,1⟩],[0,1,0],5⟩
def aS12:GSheet:=⟨[⟨(ByteArray.mk #[97]),(-1),false,0,1,0,0,false,0,0,0⟩,⟨(ByteArray.mk #[99]),0,false,0,1,0,0,false,(-1),0,0⟩],[0,1,0],5⟩
def aH0:GShow:=⟨[⟨(ByteArray.mk #[103,111]),[],0⟩,⟨(ByteArray.mk #[97]),[],1⟩,⟨(ByteArray.mk #[97,122]),[],0⟩,⟨(ByteArray.mk #[98]),[],0⟩,⟨(ByteArray.mk #[98,122]),[],0⟩],[⟨0,1,0,1,false⟩,⟨1,2,1,2,true⟩,⟨2,3,0,2,false⟩,⟨3,4,1,1,false⟩],6⟩
def aH1:GShow:=⟨[⟨(ByteArray.mk #[103,111]),[],0⟩,⟨(ByteArray.mk #[97]),[],1⟩,⟨(ByteArray.mk #[97,122]),[],0⟩,⟨(ByteArray.mk #[98]),[],0⟩,⟨(ByteArray.mk #[98,122]),[],0⟩,⟨(ByteArray.mk #[99]),[],0⟩],[⟨0,1,0,1,false⟩,⟨1,2,1,2,true⟩,⟨2,3,0,2,false⟩,⟨3,4,1,1,false⟩,⟨1,5,1,2,false⟩],6⟩
def aH2:GShow:=⟨[⟨(ByteArray.mk #[103,111]),[],0⟩,⟨(ByteArray.mk #[97]),[],1⟩,⟨(ByteArray.mk #[97,122]),[],0⟩,⟨(ByteArray.mk #[98]),[],0⟩,⟨(ByteArray.mk #[98,122]),[],0⟩,⟨(ByteArray.mk #[99]),[],0⟩,⟨(ByteArray.mk #[99,122]),[],0⟩],[⟨0,1,0,1,false⟩,⟨1,2,1,2,true⟩,⟨2,3,0,2,false⟩,⟨3,4,1,1,false⟩,⟨2,5,0,1,false⟩,⟨5,6,1,2,false⟩],6⟩
def aH3:GShow:=⟨[⟨(ByteArray.mk #[103,111]),[],0⟩,⟨(ByteArray.mk #[97]),[],1⟩,⟨(ByteArray.mk #[97,122]),[],0⟩,⟨(ByteArray.mk #[98]),[],0⟩,⟨(ByteArray.mk #[98,122]),[],0⟩,⟨(ByteArray.mk #[99]),[],0⟩],[⟨0,1,0,1,false⟩,⟨1,2,1,2,true⟩,⟨2,3,0,2,false⟩,⟨3,4,1,1,false⟩,⟨0,5,0,3,false⟩],6⟩
def aH4:GShow:=⟨[⟨(ByteArray.mk #[103,111]),[],0⟩],[],5⟩
def aH5:GShow:=⟨[⟨(ByteArray.mk #[103,111]),[],0⟩,⟨(ByteArray.mk #[97]),[],1⟩,⟨(ByteArray.mk #[97,122]),[],0⟩,⟨(ByteArray.mk #[98]),[],0⟩,⟨(ByteArray.mk #[98,122]),[],0⟩,⟨(ByteArray.mk #[99]),[(-1)],0⟩],[⟨0,1,0,1,false⟩,⟨1,2,1,2,true⟩,⟨2,3,0,2,false⟩,⟨3,4,1,1,false⟩,⟨1,5,0,1,false⟩],6⟩
def aH6:GShow:=⟨[⟨(ByteArray.mk #[103,111]),[],0⟩,⟨(ByteArray.mk #[99]),[],0⟩],[⟨0,1,0,3,false⟩],5⟩
def aH7:GShow:=⟨[⟨(ByteArray.mk #[103,111]),[],0⟩,⟨(ByteArray.mk #[97]),[],0⟩],[⟨0,1,0,1,false⟩],5⟩
def aH8:GShow:=⟨[⟨(ByteArray.mk #[103,111]),[],0⟩,⟨(ByteArray.mk #[99]),[],0⟩,⟨(ByteArray.mk #[97]),[],0⟩],[⟨0,1,0,3,false⟩,⟨0,2,0,1,false⟩],5⟩
def aH9:GShow:=⟨[⟨(ByteArray.mk #[103,111]),[],0⟩,⟨(ByteArray.mk #[97]),[],0⟩,⟨(ByteArray.mk #[99]),[],0⟩],[⟨0,1,0,1,false⟩,⟨1,2,1,2,false⟩],5⟩
def aH10:GShow:=⟨[⟨(ByteArray.mk #[103,111]),[],0⟩,⟨(ByteArray.mk #[97]),[],0⟩,⟨(ByteArray.mk #[99]),[],0⟩,⟨(ByteArray.mk #[99,122]),[],0⟩],[⟨0,1,0,1,false⟩,⟨1,2,0,1,false⟩,⟨2,3,1,2,false⟩],5⟩
def aH11:GShow:=⟨[⟨(ByteArray.mk #[103,111]),[],0⟩,⟨(ByteArray.mk #[97]),[],0⟩,⟨(ByteArray.mk #[99]),[],0⟩],[⟨0,1,0,1,false⟩,⟨0,2,0,3,false⟩],5⟩
def aE0:GEntry:=⟨0,[],[1],[1]⟩
def aE1:GEntry:=⟨0,[],[1],[(-1)]⟩
def aE2:GEntry:=⟨0,[],[],[]⟩
def aE3:GEntry:=⟨1,[],[],[]⟩
def aE4:GEntry:=⟨1,[1],[3],[]⟩
def aE5:GEntry:=⟨1,[],[1],[1]⟩
def aE6:GEntry:=⟨1,[],[1],[(-1)]⟩
def aE7:GEntry:=⟨0,[],[1,5],[1]⟩
def aE8:GEntry:=⟨0,[],[1,5],[(-1)]⟩
def aE9:GEntry:=⟨1,[1],[],[]⟩
def aE10:GEntry:=⟨2,[1],[3],[]⟩
def aE11:GEntry:=⟨2,[],[4],[]⟩
def aE12:GEntry:=⟨2,[],[],[]⟩
def aE13:GEntry:=⟨1,[],[5],[]⟩
def aE14:GEntry:=⟨1,[1],[3,5],[]⟩
def aE15:GEntry:=⟨1,[],[1,5],[1]⟩
def aE16:GEntry:=⟨1,[],[1,5],[(-1)]⟩
def aE17:GEntry:=⟨0,[],[1],[]⟩
def aE18:GEntry:=⟨2,[1],[],[]⟩
def aE19:GEntry:=⟨3,[],[4],[]⟩
def aE20:GEntry:=⟨3,[1],[3],[]⟩
def aE21:GEntry:=⟨2,[1],[3,5],[]⟩
def aE22:GEntry:=⟨2,[],[5],[]⟩
def aE23:GEntry:=⟨2,[1],[5],[]⟩
def aE24:GEntry:=⟨2,[],[4,6],[]⟩
def aE25:GEntry:=⟨0,[],[1,2],[]⟩
def aE26:GEntry:=⟨0,[],[2],[]⟩
def aE27:GEntry:=⟨1,[],[1],[]⟩
def aE28:GEntry:=⟨3,[1],[],[]⟩
def aE29:GEntry:=⟨3,[],[],[]⟩
def aE30:GEntry:=⟨3,[],[3],[]⟩
def aE31:GEntry:=⟨4,[],[4],[]⟩
def aE32:GEntry:=⟨3,[1],[3,5],[]⟩
def aE33:GEntry:=⟨3,[1],[5],[]⟩
def aE34:GEntry:=⟨3,[],[5],[]⟩
def aE35:GEntry:=⟨3,[],[4,6],[]⟩
def aE36:GEntry:=⟨3,[],[3,5],[]⟩
def aE37:GEntry:=⟨1,[],[1,2],[]⟩
def aE38:GEntry:=⟨1,[],[2],[]⟩
def aE39:GEntry:=⟨2,[],[1],[]⟩
def aE40:GEntry:=⟨1,[],[3],[]⟩
def aE41:GEntry:=⟨4,[],[],[]⟩
def aE42:GEntry:=⟨4,[],[3],[]⟩
def aD0:GDesk:=⟨aH0,⟨0,[0,(-1),(-1),(-1),(-1)],[0,0,0]⟩,false,[]⟩
def aD1:GDesk:=⟨aH0,⟨0,[0,(-1),(-1),(-1),(-1)],[0,0,0]⟩,true,[]⟩
def aD2:GDesk:=⟨aH0,⟨1,[0,0,(-1),(-1),(-1)],[1,0,0]⟩,false,[aE0]⟩
def aD3:GDesk:=⟨aH0,⟨1,[0,0,(-1),(-1),(-1)],[(-1),0,0]⟩,false,[aE1]⟩
def aD4:GDesk:=⟨aH0,⟨1,[0,(-1),(-1),(-1),(-1)],[0,0,0]⟩,false,[aE2]⟩
def aD5:GDesk:=⟨aH1,⟨0,[0,(-1),(-1),(-1),(-1),(-1)],[0,0,0]⟩,false,[]⟩
def aD6:GDesk:=⟨aH1,⟨0,[0,(-1),(-1),(-1),(-1),(-1)],[0,0,0]⟩,true,[]⟩
def aD7:GDesk:=⟨aH2,⟨0,[0,(-1),(-1),(-1),(-1),(-1),(-1)],[0,0,0]⟩,false,[]⟩
def aD8:GDesk:=⟨aH2,⟨0,[0,(-1),(-1),(-1),(-1),(-1),(-1)],[0,0,0]⟩,true,[]⟩
def aD9:GDesk:=⟨aH3,⟨0,[0,(-1),(-1),(-1),(-1),(-1)],[0,0,0]⟩,false,[]⟩
def aD10:GDesk:=⟨aH3,⟨0,[0,(-1),(-1),(-1),(-1),(-1)],[0,0,0]⟩,true,[]⟩
def aD11:GDesk:=⟨aH4,⟨0,[0],[0,0,0]⟩,false,[]⟩
def aD12:GDesk:=⟨aH4,⟨0,[0],[0,0,0]⟩,true,[]⟩
def aD13:GDesk:=⟨aH5,⟨0,[0,(-1),(-1),(-1),(-1),(-1)],[0,0,0]⟩,false,[]⟩
def aD14:GDesk:=⟨aH5,⟨0,[0,(-1),(-1),(-1),(-1),(-1)],[0,0,0]⟩,true,[]⟩
def aD15:GDesk:=⟨aH0,⟨1,[0,(-1),(-1),(-1),(-1)],[0,0,0]⟩,true,[aE2]⟩
def aD16:GDesk:=⟨aH0,⟨1,[0,0,(-1),(-1),(-1)],[1,0,0]⟩,true,[aE0]⟩
def aD17:GDesk:=⟨aH0,⟨2,[0,0,(-1),(-1),(-1)],[1,0,0]⟩,false,[aE0,aE3]⟩
def aD18:GDesk:=⟨aH0,⟨2,[0,0,1,1,(-1)],[1,0,0]⟩,false,[aE0,aE4]⟩
def aD19:GDesk:=⟨aH0,⟨2,[0,0,(-1),(-1),(-1)],[(-1),0,0]⟩,false,[aE1,aE3]⟩
def aD20:GDesk:=⟨aH0,⟨2,[0,0,1,1,(-1)],[(-1),0,0]⟩,false,[aE1,aE4]⟩
def aD21:GDesk:=⟨aH0,⟨2,[0,1,(-1),(-1),(-1)],[1,0,0]⟩,false,[aE2,aE5]⟩
def aD22:GDesk:=⟨aH0,⟨2,[0,1,(-1),(-1),(-1)],[(-1),0,0]⟩,false,[aE2,aE6]⟩
def aD23:GDesk:=⟨aH1,⟨1,[0,0,(-1),(-1),(-1),(-1)],[1,0,0]⟩,false,[aE0]⟩
def aD24:GDesk:=⟨aH1,⟨1,[0,0,(-1),(-1),(-1),(-1)],[(-1),0,0]⟩,false,[aE1]⟩
def aD25:GDesk:=⟨aH1,⟨1,[0,(-1),(-1),(-1),(-1),(-1)],[0,0,0]⟩,false,[aE2]⟩
def aD26:GDesk:=⟨aH1,⟨1,[0,(-1),(-1),(-1),(-1),(-1)],[0,0,0]⟩,true,[aE2]⟩
def aD27:GDesk:=⟨aH1,⟨1,[0,0,(-1),(-1),(-1),(-1)],[1,0,0]⟩,true,[aE0]⟩
def aD28:GDesk:=⟨aH2,⟨1,[0,0,(-1),(-1),(-1),(-1),(-1)],[1,0,0]⟩,false,[aE0]⟩
def aD29:GDesk:=⟨aH2,⟨1,[0,0,(-1),(-1),(-1),(-1),(-1)],[(-1),0,0]⟩,false,[aE1]⟩
def aD30:GDesk:=⟨aH2,⟨1,[0,(-1),(-1),(-1),(-1),(-1),(-1)],[0,0,0]⟩,false,[aE2]⟩
def aD31:GDesk:=⟨aH2,⟨1,[0,(-1),(-1),(-1),(-1),(-1),(-1)],[0,0,0]⟩,true,[aE2]⟩
def aD32:GDesk:=⟨aH2,⟨1,[0,0,(-1),(-1),(-1),(-1),(-1)],[1,0,0]⟩,true,[aE0]⟩
def aD33:GDesk:=⟨aH3,⟨1,[0,0,(-1),(-1),(-1),0],[1,0,0]⟩,false,[aE7]⟩
def aD34:GDesk:=⟨aH3,⟨1,[0,0,(-1),(-1),(-1),0],[(-1),0,0]⟩,false,[aE8]⟩
def aD35:GDesk:=⟨aH3,⟨1,[0,0,(-1),(-1),(-1),(-1)],[1,0,0]⟩,false,[aE0]⟩
def aD36:GDesk:=⟨aH3,⟨1,[0,(-1),(-1),(-1),(-1),(-1)],[0,0,0]⟩,false,[aE2]⟩
def aD37:GDesk:=⟨aH3,⟨1,[0,(-1),(-1),(-1),(-1),(-1)],[0,0,0]⟩,true,[aE2]⟩
def aD38:GDesk:=⟨aH3,⟨1,[0,0,(-1),(-1),(-1),(-1)],[1,0,0]⟩,true,[aE0]⟩
def aD39:GDesk:=⟨aH6,⟨0,[0,(-1)],[0,0,0]⟩,false,[]⟩
def aD40:GDesk:=⟨aH6,⟨0,[0,(-1)],[0,0,0]⟩,true,[]⟩
def aD41:GDesk:=⟨aH7,⟨0,[0,(-1)],[0,0,0]⟩,false,[]⟩
def aD42:GDesk:=⟨aH7,⟨0,[0,(-1)],[0,0,0]⟩,true,[]⟩
def aD43:GDesk:=⟨aH5,⟨1,[0,0,(-1),(-1),(-1),(-1)],[1,0,0]⟩,false,[aE0]⟩
def aD44:GDesk:=⟨aH5,⟨1,[0,0,(-1),(-1),(-1),(-1)],[(-1),0,0]⟩,false,[aE1]⟩
def aD45:GDesk:=⟨aH5,⟨1,[0,(-1),(-1),(-1),(-1),(-1)],[0,0,0]⟩,false,[aE2]⟩
def aD46:GDesk:=⟨aH5,⟨1,[0,(-1),(-1),(-1),(-1),(-1)],[0,0,0]⟩,true,[aE2]⟩
def aD47:GDesk:=⟨aH5,⟨1,[0,0,(-1),(-1),(-1),(-1)],[1,0,0]⟩,true,[aE0]⟩
def aD48:GDesk:=⟨aH0,⟨2,[0,1,(-1),(-1),(-1)],[1,0,0]⟩,true,[aE2,aE5]⟩
def aD49:GDesk:=⟨aH0,⟨2,[0,1,(-1),(-1),(-1)],[(-1),0,0]⟩,true,[aE2,aE6]⟩
def aD50:GDesk:=⟨aH0,⟨2,[0,0,(-1),(-1),(-1)],[1,0,0]⟩,true,[aE0,aE3]⟩
def aD51:GDesk:=⟨aH0,⟨2,[0,0,1,(-1),(-1)],[1,0,0]⟩,true,[aE0,aE9]⟩
def aD52:GDesk:=⟨aH0,⟨3,[0,0,2,2,(-1)],[1,0,0]⟩,false,[aE0,aE3,aE10]⟩
def aD53:GDesk:=⟨aH0,⟨3,[0,0,1,1,2],[1,0,0]⟩,false,[aE0,aE4,aE11]⟩
def aD54:GDesk:=⟨aH0,⟨3,[0,0,2,2,(-1)],[(-1),0,0]⟩,false,[aE1,aE3,aE10]⟩
def aD55:GDesk:=⟨aH0,⟨3,[0,0,1,1,2],[(-1),0,0]⟩,false,[aE1,aE4,aE11]⟩
def aD56:GDesk:=⟨aH0,⟨3,[0,1,(-1),(-1),(-1)],[1,0,0]⟩,false,[aE2,aE5,aE12]⟩
def aD57:GDesk:=⟨aH0,⟨3,[0,1,2,2,(-1)],[1,0,0]⟩,false,[aE2,aE5,aE10]⟩
def aD58:GDesk:=⟨aH0,⟨3,[0,1,(-1),(-1),(-1)],[(-1),0,0]⟩,false,[aE2,aE6,aE12]⟩
def aD59:GDesk:=⟨aH0,⟨3,[0,1,2,2,(-1)],[(-1),0,0]⟩,false,[aE2,aE6,aE10]⟩
def aD60:GDesk:=⟨aH1,⟨2,[0,0,(-1),(-1),(-1),1],[1,0,0]⟩,false,[aE0,aE13]⟩
def aD61:GDesk:=⟨aH1,⟨2,[0,0,1,1,(-1),1],[1,0,0]⟩,false,[aE0,aE14]⟩
def aD62:GDesk:=⟨aH1,⟨2,[0,0,(-1),(-1),(-1),(-1)],[1,0,0]⟩,false,[aE0,aE3]⟩
def aD63:GDesk:=⟨aH1,⟨2,[0,0,(-1),(-1),(-1),1],[(-1),0,0]⟩,false,[aE1,aE13]⟩
def aD64:GDesk:=⟨aH1,⟨2,[0,0,1,1,(-1),1],[(-1),0,0]⟩,false,[aE1,aE14]⟩
def aD65:GDesk:=⟨aH1,⟨2,[0,0,(-1),(-1),(-1),(-1)],[(-1),0,0]⟩,false,[aE1,aE3]⟩
def aD66:GDesk:=⟨aH1,⟨2,[0,1,(-1),(-1),(-1),(-1)],[1,0,0]⟩,false,[aE2,aE5]⟩
def aD67:GDesk:=⟨aH1,⟨2,[0,1,(-1),(-1),(-1),(-1)],[(-1),0,0]⟩,false,[aE2,aE6]⟩
def aD68:GDesk:=⟨aH1,⟨2,[0,1,(-1),(-1),(-1),(-1)],[1,0,0]⟩,true,[aE2,aE5]⟩
def aD69:GDesk:=⟨aH1,⟨2,[0,1,(-1),(-1),(-1),(-1)],[(-1),0,0]⟩,true,[aE2,aE6]⟩
def aD70:GDesk:=⟨aH1,⟨2,[0,0,(-1),(-1),(-1),(-1)],[1,0,0]⟩,true,[aE0,aE3]⟩
def aD71:GDesk:=⟨aH1,⟨2,[0,0,1,(-1),(-1),(-1)],[1,0,0]⟩,true,[aE0,aE9]⟩
def aD72:GDesk:=⟨aH2,⟨2,[0,0,(-1),(-1),(-1),(-1),(-1)],[1,0,0]⟩,false,[aE0,aE3]⟩
def aD73:GDesk:=⟨aH2,⟨2,[0,0,1,1,(-1),1,(-1)],[1,0,0]⟩,false,[aE0,aE14]⟩
def aD74:GDesk:=⟨aH2,⟨2,[0,0,(-1),(-1),(-1),(-1),(-1)],[(-1),0,0]⟩,false,[aE1,aE3]⟩
def aD75:GDesk:=⟨aH2,⟨2,[0,0,1,1,(-1),1,(-1)],[(-1),0,0]⟩,false,[aE1,aE14]⟩
def aD76:GDesk:=⟨aH2,⟨2,[0,1,(-1),(-1),(-1),(-1),(-1)],[1,0,0]⟩,false,[aE2,aE5]⟩
def aD77:GDesk:=⟨aH2,⟨2,[0,1,(-1),(-1),(-1),(-1),(-1)],[(-1),0,0]⟩,false,[aE2,aE6]⟩
def aD78:GDesk:=⟨aH2,⟨2,[0,1,(-1),(-1),(-1),(-1),(-1)],[1,0,0]⟩,true,[aE2,aE5]⟩
def aD79:GDesk:=⟨aH2,⟨2,[0,1,(-1),(-1),(-1),(-1),(-1)],[(-1),0,0]⟩,true,[aE2,aE6]⟩
def aD80:GDesk:=⟨aH2,⟨2,[0,0,(-1),(-1),(-1),(-1),(-1)],[1,0,0]⟩,true,[aE0,aE3]⟩
def aD81:GDesk:=⟨aH2,⟨2,[0,0,1,(-1),(-1),(-1),(-1)],[1,0,0]⟩,true,[aE0,aE9]⟩
def aD82:GDesk:=⟨aH3,⟨2,[0,0,(-1),(-1),(-1),0],[1,0,0]⟩,false,[aE7,aE3]⟩
def aD83:GDesk:=⟨aH3,⟨2,[0,0,1,1,(-1),0],[1,0,0]⟩,false,[aE7,aE4]⟩
def aD84:GDesk:=⟨aH3,⟨2,[0,0,(-1),(-1),(-1),0],[(-1),0,0]⟩,false,[aE8,aE3]⟩
def aD85:GDesk:=⟨aH3,⟨2,[0,0,1,1,(-1),0],[(-1),0,0]⟩,false,[aE8,aE4]⟩
def aD86:GDesk:=⟨aH3,⟨2,[0,0,(-1),(-1),(-1),1],[1,0,0]⟩,false,[aE0,aE13]⟩
def aD87:GDesk:=⟨aH3,⟨2,[0,0,1,1,(-1),1],[1,0,0]⟩,false,[aE0,aE14]⟩
def aD88:GDesk:=⟨aH3,⟨2,[0,0,(-1),(-1),(-1),(-1)],[1,0,0]⟩,false,[aE0,aE3]⟩
def aD89:GDesk:=⟨aH3,⟨2,[0,1,(-1),(-1),(-1),1],[1,0,0]⟩,false,[aE2,aE15]⟩
def aD90:GDesk:=⟨aH3,⟨2,[0,1,(-1),(-1),(-1),1],[(-1),0,0]⟩,false,[aE2,aE16]⟩
def aD91:GDesk:=⟨aH3,⟨2,[0,1,(-1),(-1),(-1),(-1)],[1,0,0]⟩,false,[aE2,aE5]⟩
def aD92:GDesk:=⟨aH3,⟨2,[0,1,(-1),(-1),(-1),(-1)],[1,0,0]⟩,true,[aE2,aE5]⟩
def aD93:GDesk:=⟨aH3,⟨2,[0,1,(-1),(-1),(-1),(-1)],[(-1),0,0]⟩,true,[aE2,aE6]⟩
def aD94:GDesk:=⟨aH3,⟨2,[0,0,(-1),(-1),(-1),(-1)],[1,0,0]⟩,true,[aE0,aE3]⟩
def aD95:GDesk:=⟨aH3,⟨2,[0,0,1,(-1),(-1),(-1)],[1,0,0]⟩,true,[aE0,aE9]⟩
def aD96:GDesk:=⟨aH8,⟨0,[0,(-1),(-1)],[0,0,0]⟩,false,[]⟩
def aD97:GDesk:=⟨aH8,⟨0,[0,(-1),(-1)],[0,0,0]⟩,true,[]⟩
def aD98:GDesk:=⟨aH6,⟨1,[0,0],[0,0,0]⟩,false,[aE17]⟩
def aD99:GDesk:=⟨aH6,⟨1,[0,(-1)],[0,0,0]⟩,false,[aE2]⟩
def QO:GDesk:=⟨aH6,⟨1,[0,(-1)],[0,0,0]⟩,true,[aE2]⟩
def QP:GDesk:=⟨aH9,⟨0,[0,(-1),(-1)],[0,0,0]⟩,false,[]⟩
def QQ:GDesk:=⟨aH9,⟨0,[0,(-1),(-1)],[0,0,0]⟩,true,[]⟩
def QR:GDesk:=⟨aH10,⟨0,[0,(-1),(-1),(-1)],[0,0,0]⟩,false,[]⟩
def QS:GDesk:=⟨aH10,⟨0,[0,(-1),(-1),(-1)],[0,0,0]⟩,true,[]⟩
def QT:GDesk:=⟨aH11,⟨0,[0,(-1),(-1)],[0,0,0]⟩,false,[]⟩
def QU:GDesk:=⟨aH11,⟨0,[0,(-1),(-1)],[0,0,0]⟩,true,[]⟩
def QV:GDesk:=⟨aH7,⟨1,[0,0],[0,0,0]⟩,false,[aE17]⟩
def QW:GDesk:=⟨aH7,⟨1,[0,(-1)],[0,0,0]⟩,false,[aE2]⟩
def QX:GDesk:=⟨aH7,⟨1,[0,(-1)],[0,0,0]⟩,true,[aE2]⟩
def QY:GDesk:=⟨aH7,⟨1,[0,0],[0,0,0]⟩,true,[aE17]⟩
def QZ:GDesk:=⟨aH5,⟨2,[0,0,(-1),(-1),(-1),(-1)],[1,0,0]⟩,false,[aE0,aE3]⟩
def Ra:GDesk:=⟨aH5,⟨2,[0,0,1,1,(-1),(-1)],[1,0,0]⟩,false,[aE0,aE4]⟩
def Rb:GDesk:=⟨aH5,⟨2,[0,0,(-1),(-1),(-1),1],[(-1),0,0]⟩,false,[aE1,aE13]⟩
def Rc:GDesk:=⟨aH5,⟨2,[0,0,1,1,(-1),1],[(-1),0,0]⟩,false,[aE1,aE14]⟩
def Rd:GDesk:=⟨aH5,⟨2,[0,1,(-1),(-1),(-1),(-1)],[1,0,0]⟩,false,[aE2,aE5]⟩
def Re:GDesk:=⟨aH5,⟨2,[0,1,(-1),(-1),(-1),(-1)],[(-1),0,0]⟩,false,[aE2,aE6]⟩
def Rf:GDesk:=⟨aH5,⟨2,[0,1,(-1),(-1),(-1),(-1)],[1,0,0]⟩,true,[aE2,aE5]⟩
def Rg:GDesk:=⟨aH5,⟨2,[0,1,(-1),(-1),(-1),(-1)],[(-1),0,0]⟩,true,[aE2,aE6]⟩
def Rh:GDesk:=⟨aH5,⟨2,[0,0,(-1),(-1),(-1),(-1)],[1,0,0]⟩,true,[aE0,aE3]⟩
def Ri:GDesk:=⟨aH5,⟨2,[0,0,1,(-1),(-1),(-1)],[1,0,0]⟩,true,[aE0,aE9]⟩
def Rj:GDesk:=⟨aH0,⟨3,[0,1,(-1),(-1),(-1)],[1,0,0]⟩,true,[aE2,aE5,aE12]⟩
def Rk:GDesk:=⟨aH0,⟨3,[0,1,2,(-1),(-1)],[1,0,0]⟩,true,[aE2,aE5,aE18]⟩
def Rl:GDesk:=⟨aH0,⟨3,[0,1,(-1),(-1),(-1)],[(-1),0,0]⟩,true,[aE2,aE6,aE12]⟩
def Rm:GDesk:=⟨aH0,⟨3,[0,1,2,(-1),(-1)],[(-1),0,0]⟩,true,[aE2,aE6,aE18]⟩
def Rn:GDesk:=⟨aH0,⟨3,[0,0,2,(-1),(-1)],[1,0,0]⟩,true,[aE0,aE3,aE18]⟩
def Ro:GDesk:=⟨aH0,⟨3,[0,0,1,(-1),(-1)],[1,0,0]⟩,true,[aE0,aE9,aE12]⟩
def Rp:GDesk:=⟨aH0,⟨4,[0,0,2,2,3],[1,0,0]⟩,false,[aE0,aE3,aE10,aE19]⟩
def Rq:GDesk:=⟨aH0,⟨4,[0,0,2,2,3],[(-1),0,0]⟩,false,[aE1,aE3,aE10,aE19]⟩
def Rr:GDesk:=⟨aH0,⟨4,[0,1,3,3,(-1)],[1,0,0]⟩,false,[aE2,aE5,aE12,aE20]⟩
def Rs:GDesk:=⟨aH0,⟨4,[0,1,2,2,3],[1,0,0]⟩,false,[aE2,aE5,aE10,aE19]⟩
def Rt:GDesk:=⟨aH0,⟨4,[0,1,3,3,(-1)],[(-1),0,0]⟩,false,[aE2,aE6,aE12,aE20]⟩
def Ru:GDesk:=⟨aH0,⟨4,[0,1,2,2,3],[(-1),0,0]⟩,false,[aE2,aE6,aE10,aE19]⟩
def Rv:GDesk:=⟨aH1,⟨3,[0,0,2,2,(-1),1],[1,0,0]⟩,false,[aE0,aE13,aE10]⟩
def Rw:GDesk:=⟨aH1,⟨3,[0,0,1,1,2,1],[1,0,0]⟩,false,[aE0,aE14,aE11]⟩
def Ry:GDesk:=⟨aH1,⟨3,[0,0,2,2,(-1),2],[1,0,0]⟩,false,[aE0,aE3,aE21]⟩
def Rz:GDesk:=⟨aH1,⟨3,[0,0,2,2,(-1),1],[(-1),0,0]⟩,false,[aE1,aE13,aE10]⟩
def RA:GDesk:=⟨aH1,⟨3,[0,0,1,1,2,1],[(-1),0,0]⟩,false,[aE1,aE14,aE11]⟩
def RB:GDesk:=⟨aH1,⟨3,[0,0,2,2,(-1),2],[(-1),0,0]⟩,false,[aE1,aE3,aE21]⟩
def RC:GDesk:=⟨aH1,⟨3,[0,1,(-1),(-1),(-1),2],[1,0,0]⟩,false,[aE2,aE5,aE22]⟩
def RD:GDesk:=⟨aH1,⟨3,[0,1,2,2,(-1),2],[1,0,0]⟩,false,[aE2,aE5,aE21]⟩
def RE:GDesk:=⟨aH1,⟨3,[0,1,(-1),(-1),(-1),(-1)],[1,0,0]⟩,false,[aE2,aE5,aE12]⟩
def RF:GDesk:=⟨aH1,⟨3,[0,1,(-1),(-1),(-1),2],[(-1),0,0]⟩,false,[aE2,aE6,aE22]⟩
def RG:GDesk:=⟨aH1,⟨3,[0,1,2,2,(-1),2],[(-1),0,0]⟩,false,[aE2,aE6,aE21]⟩
def RH:GDesk:=⟨aH1,⟨3,[0,1,(-1),(-1),(-1),(-1)],[(-1),0,0]⟩,false,[aE2,aE6,aE12]⟩
def RI:GDesk:=⟨aH1,⟨3,[0,1,(-1),(-1),(-1),(-1)],[1,0,0]⟩,true,[aE2,aE5,aE12]⟩
def RJ:GDesk:=⟨aH1,⟨3,[0,1,2,(-1),(-1),(-1)],[1,0,0]⟩,true,[aE2,aE5,aE18]⟩
def RK:GDesk:=⟨aH1,⟨3,[0,1,(-1),(-1),(-1),(-1)],[(-1),0,0]⟩,true,[aE2,aE6,aE12]⟩
def RL:GDesk:=⟨aH1,⟨3,[0,1,2,(-1),(-1),(-1)],[(-1),0,0]⟩,true,[aE2,aE6,aE18]⟩
def RM:GDesk:=⟨aH1,⟨3,[0,0,2,(-1),(-1),2],[1,0,0]⟩,true,[aE0,aE3,aE23]⟩
def RN:GDesk:=⟨aH1,⟨3,[0,0,1,(-1),(-1),2],[1,0,0]⟩,true,[aE0,aE9,aE22]⟩
def RP:GDesk:=⟨aH2,⟨3,[0,0,2,2,(-1),2,(-1)],[1,0,0]⟩,false,[aE0,aE3,aE21]⟩
def RQ:GDesk:=⟨aH2,⟨3,[0,0,1,1,2,1,2],[1,0,0]⟩,false,[aE0,aE14,aE24]⟩
def RR:GDesk:=⟨aH2,⟨3,[0,0,2,2,(-1),2,(-1)],[(-1),0,0]⟩,false,[aE1,aE3,aE21]⟩
def RT:GDesk:=⟨aH2,⟨3,[0,0,1,1,2,1,2],[(-1),0,0]⟩,false,[aE1,aE14,aE24]⟩
def RU:GDesk:=⟨aH2,⟨3,[0,1,(-1),(-1),(-1),(-1),(-1)],[1,0,0]⟩,false,[aE2,aE5,aE12]⟩
def RV:GDesk:=⟨aH2,⟨3,[0,1,2,2,(-1),2,(-1)],[1,0,0]⟩,false,[aE2,aE5,aE21]⟩
def RW:GDesk:=⟨aH2,⟨3,[0,1,(-1),(-1),(-1),(-1),(-1)],[(-1),0,0]⟩,false,[aE2,aE6,aE12]⟩
def RX:GDesk:=⟨aH2,⟨3,[0,1,2,2,(-1),2,(-1)],[(-1),0,0]⟩,false,[aE2,aE6,aE21]⟩
def RY:GDesk:=⟨aH2,⟨3,[0,1,(-1),(-1),(-1),(-1),(-1)],[1,0,0]⟩,true,[aE2,aE5,aE12]⟩
def RZ:GDesk:=⟨aH2,⟨3,[0,1,2,(-1),(-1),(-1),(-1)],[1,0,0]⟩,true,[aE2,aE5,aE18]⟩
def Sa:GDesk:=⟨aH2,⟨3,[0,1,(-1),(-1),(-1),(-1),(-1)],[(-1),0,0]⟩,true,[aE2,aE6,aE12]⟩
def Sb:GDesk:=⟨aH2,⟨3,[0,1,2,(-1),(-1),(-1),(-1)],[(-1),0,0]⟩,true,[aE2,aE6,aE18]⟩
def Sc:GDesk:=⟨aH2,⟨3,[0,0,2,(-1),(-1),(-1),(-1)],[1,0,0]⟩,true,[aE0,aE3,aE18]⟩
def Sd:GDesk:=⟨aH2,⟨3,[0,0,1,(-1),(-1),2,(-1)],[1,0,0]⟩,true,[aE0,aE9,aE22]⟩
def Se:GDesk:=⟨aH3,⟨3,[0,0,2,2,(-1),0],[1,0,0]⟩,false,[aE7,aE3,aE10]⟩
def Sf:GDesk:=⟨aH3,⟨3,[0,0,1,1,2,0],[1,0,0]⟩,false,[aE7,aE4,aE11]⟩
def Sg:GDesk:=⟨aH3,⟨3,[0,0,2,2,(-1),0],[(-1),0,0]⟩,false,[aE8,aE3,aE10]⟩
def Si:GDesk:=⟨aH3,⟨3,[0,0,1,1,2,0],[(-1),0,0]⟩,false,[aE8,aE4,aE11]⟩
def Sj:GDesk:=⟨aH3,⟨3,[0,0,2,2,(-1),1],[1,0,0]⟩,false,[aE0,aE13,aE10]⟩
def Sk:GDesk:=⟨aH3,⟨3,[0,0,1,1,2,1],[1,0,0]⟩,false,[aE0,aE14,aE11]⟩
def Sl:GDesk:=⟨aH3,⟨3,[0,0,2,2,(-1),2],[1,0,0]⟩,false,[aE0,aE3,aE21]⟩
def Sm:GDesk:=⟨aH3,⟨3,[0,1,(-1),(-1),(-1),1],[1,0,0]⟩,false,[aE2,aE15,aE12]⟩
def Sn:GDesk:=⟨aH3,⟨3,[0,1,2,2,(-1),1],[1,0,0]⟩,false,[aE2,aE15,aE10]⟩
def So:GDesk:=⟨aH3,⟨3,[0,1,(-1),(-1),(-1),1],[(-1),0,0]⟩,false,[aE2,aE16,aE12]⟩
def Sp:GDesk:=⟨aH3,⟨3,[0,1,2,2,(-1),1],[(-1),0,0]⟩,false,[aE2,aE16,aE10]⟩
def Sq:GDesk:=⟨aH3,⟨3,[0,1,(-1),(-1),(-1),2],[1,0,0]⟩,false,[aE2,aE5,aE22]⟩
def Sr:GDesk:=⟨aH3,⟨3,[0,1,2,2,(-1),2],[1,0,0]⟩,false,[aE2,aE5,aE21]⟩
def Ss:GDesk:=⟨aH3,⟨3,[0,1,(-1),(-1),(-1),(-1)],[1,0,0]⟩,false,[aE2,aE5,aE12]⟩
def Su:GDesk:=⟨aH3,⟨3,[0,1,(-1),(-1),(-1),(-1)],[1,0,0]⟩,true,[aE2,aE5,aE12]⟩
def Sv:GDesk:=⟨aH3,⟨3,[0,1,2,(-1),(-1),(-1)],[1,0,0]⟩,true,[aE2,aE5,aE18]⟩
def Sw:GDesk:=⟨aH3,⟨3,[0,1,(-1),(-1),(-1),(-1)],[(-1),0,0]⟩,true,[aE2,aE6,aE12]⟩
def Sx:GDesk:=⟨aH3,⟨3,[0,1,2,(-1),(-1),(-1)],[(-1),0,0]⟩,true,[aE2,aE6,aE18]⟩
def Sy:GDesk:=⟨aH3,⟨3,[0,0,2,(-1),(-1),(-1)],[1,0,0]⟩,true,[aE0,aE3,aE18]⟩
def Sz:GDesk:=⟨aH3,⟨3,[0,0,1,(-1),(-1),(-1)],[1,0,0]⟩,true,[aE0,aE9,aE12]⟩
def SA:GDesk:=⟨aH8,⟨1,[0,0,0],[0,0,0]⟩,false,[aE25]⟩
def SB:GDesk:=⟨aH8,⟨1,[0,(-1),0],[0,0,0]⟩,false,[aE26]⟩
def SC:GDesk:=⟨aH8,⟨1,[0,(-1),(-1)],[0,0,0]⟩,false,[aE2]⟩
def SD:GDesk:=⟨aH8,⟨1,[0,(-1),(-1)],[0,0,0]⟩,true,[aE2]⟩
def SE:GDesk:=⟨aH8,⟨1,[0,(-1),0],[0,0,0]⟩,true,[aE26]⟩
def SF:GDesk:=⟨aH6,⟨2,[0,1],[0,0,0]⟩,false,[aE2,aE27]⟩
def SG:GDesk:=⟨aH6,⟨2,[0,(-1)],[0,0,0]⟩,false,[aE2,aE3]⟩
def SH:GDesk:=⟨aH6,⟨2,[0,(-1)],[0,0,0]⟩,true,[aE2,aE3]⟩
def SI:GDesk:=⟨aH9,⟨1,[0,0,(-1)],[0,0,0]⟩,false,[aE17]⟩
def SJ:GDesk:=⟨aH9,⟨1,[0,(-1),(-1)],[0,0,0]⟩,false,[aE2]⟩
def SK:GDesk:=⟨aH9,⟨1,[0,(-1),(-1)],[0,0,0]⟩,true,[aE2]⟩
def SL:GDesk:=⟨aH9,⟨1,[0,0,(-1)],[0,0,0]⟩,true,[aE17]⟩
def SM:GDesk:=⟨aH10,⟨1,[0,0,0,(-1)],[0,0,0]⟩,false,[aE25]⟩
def SN:GDesk:=⟨aH10,⟨1,[0,0,(-1),(-1)],[0,0,0]⟩,false,[aE17]⟩
def SO:GDesk:=⟨aH10,⟨1,[0,(-1),(-1),(-1)],[0,0,0]⟩,false,[aE2]⟩
def SP:GDesk:=⟨aH10,⟨1,[0,(-1),(-1),(-1)],[0,0,0]⟩,true,[aE2]⟩
def SQ:GDesk:=⟨aH10,⟨1,[0,0,(-1),(-1)],[0,0,0]⟩,true,[aE17]⟩
def SR:GDesk:=⟨aH11,⟨1,[0,0,0],[0,0,0]⟩,false,[aE25]⟩
def SS:GDesk:=⟨aH11,⟨1,[0,0,(-1)],[0,0,0]⟩,false,[aE17]⟩
def ST:GDesk:=⟨aH11,⟨1,[0,(-1),(-1)],[0,0,0]⟩,false,[aE2]⟩
def SU:GDesk:=⟨aH11,⟨1,[0,(-1),(-1)],[0,0,0]⟩,true,[aE2]⟩
def SV:GDesk:=⟨aH11,⟨1,[0,0,(-1)],[0,0,0]⟩,true,[aE17]⟩
def SW:GDesk:=⟨aH7,⟨2,[0,1],[0,0,0]⟩,false,[aE2,aE27]⟩
def SX:GDesk:=⟨aH7,⟨2,[0,1],[0,0,0]⟩,true,[aE2,aE27]⟩
def SY:GDesk:=⟨aH5,⟨3,[0,0,2,2,(-1),(-1)],[1,0,0]⟩,false,[aE0,aE3,aE10]⟩
def SZ:GDesk:=⟨aH5,⟨3,[0,0,1,1,2,(-1)],[1,0,0]⟩,false,[aE0,aE4,aE11]⟩
def Ta:GDesk:=⟨aH5,⟨3,[0,0,2,2,(-1),1],[(-1),0,0]⟩,false,[aE1,aE13,aE10]⟩
def Tb:GDesk:=⟨aH5,⟨3,[0,0,1,1,2,1],[(-1),0,0]⟩,false,[aE1,aE14,aE11]⟩
def Tc:GDesk:=⟨aH5,⟨3,[0,1,(-1),(-1),(-1),(-1)],[1,0,0]⟩,false,[aE2,aE5,aE12]⟩
def Td:GDesk:=⟨aH5,⟨3,[0,1,2,2,(-1),(-1)],[1,0,0]⟩,false,[aE2,aE5,aE10]⟩
def Te:GDesk:=⟨aH5,⟨3,[0,1,(-1),(-1),(-1),2],[(-1),0,0]⟩,false,[aE2,aE6,aE22]⟩
def Tf:GDesk:=⟨aH5,⟨3,[0,1,2,2,(-1),2],[(-1),0,0]⟩,false,[aE2,aE6,aE21]⟩
def Tg:GDesk:=⟨aH5,⟨3,[0,1,(-1),(-1),(-1),(-1)],[1,0,0]⟩,true,[aE2,aE5,aE12]⟩
def Th:GDesk:=⟨aH5,⟨3,[0,1,2,(-1),(-1),(-1)],[1,0,0]⟩,true,[aE2,aE5,aE18]⟩
def Ti:GDesk:=⟨aH5,⟨3,[0,1,(-1),(-1),(-1),2],[(-1),0,0]⟩,true,[aE2,aE6,aE22]⟩
def Tj:GDesk:=⟨aH5,⟨3,[0,1,2,(-1),(-1),2],[(-1),0,0]⟩,true,[aE2,aE6,aE23]⟩
def Tk:GDesk:=⟨aH5,⟨3,[0,0,2,(-1),(-1),(-1)],[1,0,0]⟩,true,[aE0,aE3,aE18]⟩
def Tl:GDesk:=⟨aH5,⟨3,[0,0,1,(-1),(-1),(-1)],[1,0,0]⟩,true,[aE0,aE9,aE12]⟩
def Tm:GDesk:=⟨aH0,⟨4,[0,1,3,(-1),(-1)],[1,0,0]⟩,true,[aE2,aE5,aE12,aE28]⟩
def Tn:GDesk:=⟨aH0,⟨4,[0,1,2,(-1),(-1)],[1,0,0]⟩,true,[aE2,aE5,aE18,aE29]⟩
def To:GDesk:=⟨aH0,⟨4,[0,1,3,(-1),(-1)],[(-1),0,0]⟩,true,[aE2,aE6,aE12,aE28]⟩
def Tp:GDesk:=⟨aH0,⟨4,[0,1,2,(-1),(-1)],[(-1),0,0]⟩,true,[aE2,aE6,aE18,aE29]⟩
def Tq:GDesk:=⟨aH0,⟨4,[0,0,2,(-1),(-1)],[1,0,0]⟩,true,[aE0,aE3,aE18,aE29]⟩
def Tr:GDesk:=⟨aH0,⟨4,[0,0,1,3,(-1)],[1,0,0]⟩,true,[aE0,aE9,aE12,aE30]⟩
def Ts:GDesk:=⟨aH0,⟨5,[0,1,3,3,4],[1,0,0]⟩,false,[aE2,aE5,aE12,aE20,aE31]⟩
def Tt:GDesk:=⟨aH0,⟨5,[0,1,3,3,4],[(-1),0,0]⟩,false,[aE2,aE6,aE12,aE20,aE31]⟩
def Tu:GDesk:=⟨aH1,⟨4,[0,0,2,2,3,1],[1,0,0]⟩,false,[aE0,aE13,aE10,aE19]⟩
def Tv:GDesk:=⟨aH1,⟨4,[0,0,2,2,3,2],[1,0,0]⟩,false,[aE0,aE3,aE21,aE19]⟩
def Tw:GDesk:=⟨aH1,⟨4,[0,0,2,2,3,1],[(-1),0,0]⟩,false,[aE1,aE13,aE10,aE19]⟩
def Tx:GDesk:=⟨aH1,⟨4,[0,0,2,2,3,2],[(-1),0,0]⟩,false,[aE1,aE3,aE21,aE19]⟩
def Tz:GDesk:=⟨aH1,⟨4,[0,1,3,3,(-1),2],[1,0,0]⟩,false,[aE2,aE5,aE22,aE20]⟩
def TA:GDesk:=⟨aH1,⟨4,[0,1,2,2,3,2],[1,0,0]⟩,false,[aE2,aE5,aE21,aE19]⟩
def TB:GDesk:=⟨aH1,⟨4,[0,1,3,3,(-1),3],[1,0,0]⟩,false,[aE2,aE5,aE12,aE32]⟩
def TC:GDesk:=⟨aH1,⟨4,[0,1,3,3,(-1),2],[(-1),0,0]⟩,false,[aE2,aE6,aE22,aE20]⟩
def TD:GDesk:=⟨aH1,⟨4,[0,1,2,2,3,2],[(-1),0,0]⟩,false,[aE2,aE6,aE21,aE19]⟩
def TE:GDesk:=⟨aH1,⟨4,[0,1,3,3,(-1),3],[(-1),0,0]⟩,false,[aE2,aE6,aE12,aE32]⟩
def TF:GDesk:=⟨aH1,⟨4,[0,1,3,(-1),(-1),3],[1,0,0]⟩,true,[aE2,aE5,aE12,aE33]⟩
def TG:GDesk:=⟨aH1,⟨4,[0,1,2,(-1),(-1),3],[1,0,0]⟩,true,[aE2,aE5,aE18,aE34]⟩
def TH:GDesk:=⟨aH1,⟨4,[0,1,3,(-1),(-1),3],[(-1),0,0]⟩,true,[aE2,aE6,aE12,aE33]⟩
def TJ:GDesk:=⟨aH1,⟨4,[0,1,2,(-1),(-1),3],[(-1),0,0]⟩,true,[aE2,aE6,aE18,aE34]⟩
def TL:GDesk:=⟨aH1,⟨4,[0,0,2,(-1),(-1),2],[1,0,0]⟩,true,[aE0,aE3,aE23,aE29]⟩
def TM:GDesk:=⟨aH1,⟨4,[0,0,1,3,(-1),2],[1,0,0]⟩,true,[aE0,aE9,aE22,aE30]⟩
def TN:GDesk:=⟨aH2,⟨4,[0,0,2,2,3,2,3],[1,0,0]⟩,false,[aE0,aE3,aE21,aE35]⟩
def TO:GDesk:=⟨aH2,⟨4,[0,0,2,2,3,2,3],[(-1),0,0]⟩,false,[aE1,aE3,aE21,aE35]⟩
def TP:GDesk:=⟨aH2,⟨4,[0,1,3,3,(-1),3,(-1)],[1,0,0]⟩,false,[aE2,aE5,aE12,aE32]⟩
def TQ:GDesk:=⟨aH2,⟨4,[0,1,2,2,3,2,3],[1,0,0]⟩,false,[aE2,aE5,aE21,aE35]⟩
def TR:GDesk:=⟨aH2,⟨4,[0,1,3,3,(-1),3,(-1)],[(-1),0,0]⟩,false,[aE2,aE6,aE12,aE32]⟩
def TS:GDesk:=⟨aH2,⟨4,[0,1,2,2,3,2,3],[(-1),0,0]⟩,false,[aE2,aE6,aE21,aE35]⟩
def TT:GDesk:=⟨aH2,⟨4,[0,1,3,(-1),(-1),(-1),(-1)],[1,0,0]⟩,true,[aE2,aE5,aE12,aE28]⟩
def TU:GDesk:=⟨aH2,⟨4,[0,1,2,(-1),(-1),3,(-1)],[1,0,0]⟩,true,[aE2,aE5,aE18,aE34]⟩
def TV:GDesk:=⟨aH2,⟨4,[0,1,3,(-1),(-1),(-1),(-1)],[(-1),0,0]⟩,true,[aE2,aE6,aE12,aE28]⟩
def TW:GDesk:=⟨aH2,⟨4,[0,1,2,(-1),(-1),3,(-1)],[(-1),0,0]⟩,true,[aE2,aE6,aE18,aE34]⟩
def TX:GDesk:=⟨aH2,⟨4,[0,0,2,(-1),(-1),3,(-1)],[1,0,0]⟩,true,[aE0,aE3,aE18,aE34]⟩
def TY:GDesk:=⟨aH2,⟨4,[0,0,1,3,(-1),2,(-1)],[1,0,0]⟩,true,[aE0,aE9,aE22,aE30]⟩
def TZ:GDesk:=⟨aH3,⟨4,[0,0,2,2,3,0],[1,0,0]⟩,false,[aE7,aE3,aE10,aE19]⟩
def Ua:GDesk:=⟨aH3,⟨4,[0,0,2,2,3,0],[(-1),0,0]⟩,false,[aE8,aE3,aE10,aE19]⟩
def Ub:GDesk:=⟨aH3,⟨4,[0,0,2,2,3,1],[1,0,0]⟩,false,[aE0,aE13,aE10,aE19]⟩
def Uc:GDesk:=⟨aH3,⟨4,[0,0,2,2,3,2],[1,0,0]⟩,false,[aE0,aE3,aE21,aE19]⟩
def Ud:GDesk:=⟨aH3,⟨4,[0,1,3,3,(-1),1],[1,0,0]⟩,false,[aE2,aE15,aE12,aE20]⟩
def Ue:GDesk:=⟨aH3,⟨4,[0,1,2,2,3,1],[1,0,0]⟩,false,[aE2,aE15,aE10,aE19]⟩
def Uf:GDesk:=⟨aH3,⟨4,[0,1,3,3,(-1),1],[(-1),0,0]⟩,false,[aE2,aE16,aE12,aE20]⟩
def Ug:GDesk:=⟨aH3,⟨4,[0,1,2,2,3,1],[(-1),0,0]⟩,false,[aE2,aE16,aE10,aE19]⟩
def Uh:GDesk:=⟨aH3,⟨4,[0,1,3,3,(-1),2],[1,0,0]⟩,false,[aE2,aE5,aE22,aE20]⟩
def Ui:GDesk:=⟨aH3,⟨4,[0,1,2,2,3,2],[1,0,0]⟩,false,[aE2,aE5,aE21,aE19]⟩
def Uj:GDesk:=⟨aH3,⟨4,[0,1,3,3,(-1),3],[1,0,0]⟩,false,[aE2,aE5,aE12,aE32]⟩
def Uk:GDesk:=⟨aH3,⟨4,[0,1,3,(-1),(-1),3],[1,0,0]⟩,true,[aE2,aE5,aE12,aE33]⟩
def Ul:GDesk:=⟨aH3,⟨4,[0,1,2,(-1),(-1),3],[1,0,0]⟩,true,[aE2,aE5,aE18,aE34]⟩
def Um:GDesk:=⟨aH3,⟨4,[0,1,3,(-1),(-1),3],[(-1),0,0]⟩,true,[aE2,aE6,aE12,aE33]⟩
def Un:GDesk:=⟨aH3,⟨4,[0,1,2,(-1),(-1),3],[(-1),0,0]⟩,true,[aE2,aE6,aE18,aE34]⟩
def Uo:GDesk:=⟨aH3,⟨4,[0,0,2,(-1),(-1),3],[1,0,0]⟩,true,[aE0,aE3,aE18,aE34]⟩
def Up:GDesk:=⟨aH3,⟨4,[0,0,1,3,(-1),3],[1,0,0]⟩,true,[aE0,aE9,aE12,aE36]⟩
def Uq:GDesk:=⟨aH8,⟨2,[0,1,0],[0,0,0]⟩,false,[aE26,aE27]⟩
def Ur:GDesk:=⟨aH8,⟨2,[0,(-1),0],[0,0,0]⟩,false,[aE26,aE3]⟩
def Us:GDesk:=⟨aH8,⟨2,[0,1,1],[0,0,0]⟩,false,[aE2,aE37]⟩
def Ut:GDesk:=⟨aH8,⟨2,[0,(-1),1],[0,0,0]⟩,false,[aE2,aE38]⟩
def Uu:GDesk:=⟨aH8,⟨2,[0,(-1),1],[0,0,0]⟩,true,[aE2,aE38]⟩
def Uv:GDesk:=⟨aH8,⟨2,[0,(-1),0],[0,0,0]⟩,true,[aE26,aE3]⟩
def Uw:GDesk:=⟨aH6,⟨3,[0,2],[0,0,0]⟩,false,[aE2,aE3,aE39]⟩
def Ux:GDesk:=⟨aH6,⟨3,[0,(-1)],[0,0,0]⟩,false,[aE2,aE3,aE12]⟩
def Uy:GDesk:=⟨aH6,⟨3,[0,(-1)],[0,0,0]⟩,true,[aE2,aE3,aE12]⟩
def Uz:GDesk:=⟨aH9,⟨2,[0,0,1],[0,0,0]⟩,false,[aE17,aE38]⟩
def UA:GDesk:=⟨aH9,⟨2,[0,0,(-1)],[0,0,0]⟩,false,[aE17,aE3]⟩
def UB:GDesk:=⟨aH9,⟨2,[0,1,(-1)],[0,0,0]⟩,false,[aE2,aE27]⟩
def UC:GDesk:=⟨aH9,⟨2,[0,1,(-1)],[0,0,0]⟩,true,[aE2,aE27]⟩
def UD:GDesk:=⟨aH9,⟨2,[0,0,(-1)],[0,0,0]⟩,true,[aE17,aE3]⟩
def UE:GDesk:=⟨aH10,⟨2,[0,0,0,1],[0,0,0]⟩,false,[aE25,aE40]⟩
def UF:GDesk:=⟨aH10,⟨2,[0,0,0,(-1)],[0,0,0]⟩,false,[aE25,aE3]⟩
def UG:GDesk:=⟨aH10,⟨2,[0,0,1,(-1)],[0,0,0]⟩,false,[aE17,aE38]⟩
def UH:GDesk:=⟨aH10,⟨2,[0,1,1,(-1)],[0,0,0]⟩,false,[aE2,aE37]⟩
def UI:GDesk:=⟨aH10,⟨2,[0,1,(-1),(-1)],[0,0,0]⟩,false,[aE2,aE27]⟩
def UJ:GDesk:=⟨aH10,⟨2,[0,1,(-1),(-1)],[0,0,0]⟩,true,[aE2,aE27]⟩
def UK:GDesk:=⟨aH10,⟨2,[0,0,1,(-1)],[0,0,0]⟩,true,[aE17,aE38]⟩
def UL:GDesk:=⟨aH11,⟨2,[0,0,1],[0,0,0]⟩,false,[aE17,aE38]⟩
def UM:GDesk:=⟨aH11,⟨2,[0,0,(-1)],[0,0,0]⟩,false,[aE17,aE3]⟩
def UN:GDesk:=⟨aH11,⟨2,[0,1,1],[0,0,0]⟩,false,[aE2,aE37]⟩
def UO:GDesk:=⟨aH11,⟨2,[0,1,(-1)],[0,0,0]⟩,false,[aE2,aE27]⟩
def UP:GDesk:=⟨aH11,⟨2,[0,1,(-1)],[0,0,0]⟩,true,[aE2,aE27]⟩
def UQ:GDesk:=⟨aH11,⟨2,[0,0,(-1)],[0,0,0]⟩,true,[aE17,aE3]⟩
def UR:GDesk:=⟨aH5,⟨4,[0,0,2,2,3,(-1)],[1,0,0]⟩,false,[aE0,aE3,aE10,aE19]⟩
def US:GDesk:=⟨aH5,⟨4,[0,0,2,2,3,1],[(-1),0,0]⟩,false,[aE1,aE13,aE10,aE19]⟩
def UT:GDesk:=⟨aH5,⟨4,[0,1,3,3,(-1),(-1)],[1,0,0]⟩,false,[aE2,aE5,aE12,aE20]⟩
def UU:GDesk:=⟨aH5,⟨4,[0,1,2,2,3,(-1)],[1,0,0]⟩,false,[aE2,aE5,aE10,aE19]⟩
def UV:GDesk:=⟨aH5,⟨4,[0,1,3,3,(-1),2],[(-1),0,0]⟩,false,[aE2,aE6,aE22,aE20]⟩
def UW:GDesk:=⟨aH5,⟨4,[0,1,2,2,3,2],[(-1),0,0]⟩,false,[aE2,aE6,aE21,aE19]⟩
def UX:GDesk:=⟨aH5,⟨4,[0,1,3,(-1),(-1),(-1)],[1,0,0]⟩,true,[aE2,aE5,aE12,aE28]⟩
def UY:GDesk:=⟨aH5,⟨4,[0,1,2,(-1),(-1),(-1)],[1,0,0]⟩,true,[aE2,aE5,aE18,aE29]⟩
def UZ:GDesk:=⟨aH5,⟨4,[0,1,3,(-1),(-1),2],[(-1),0,0]⟩,true,[aE2,aE6,aE22,aE28]⟩
def Va:GDesk:=⟨aH5,⟨4,[0,1,2,(-1),(-1),2],[(-1),0,0]⟩,true,[aE2,aE6,aE23,aE29]⟩
def Vb:GDesk:=⟨aH5,⟨4,[0,0,2,(-1),(-1),(-1)],[1,0,0]⟩,true,[aE0,aE3,aE18,aE29]⟩
def Vc:GDesk:=⟨aH5,⟨4,[0,0,1,3,(-1),(-1)],[1,0,0]⟩,true,[aE0,aE9,aE12,aE30]⟩
def Vd:GDesk:=⟨aH0,⟨5,[0,1,3,(-1),(-1)],[1,0,0]⟩,true,[aE2,aE5,aE12,aE28,aE41]⟩
def Ve:GDesk:=⟨aH0,⟨5,[0,1,2,4,(-1)],[1,0,0]⟩,true,[aE2,aE5,aE18,aE29,aE42]⟩
def Vf:GDesk:=⟨aH0,⟨5,[0,1,3,(-1),(-1)],[(-1),0,0]⟩,true,[aE2,aE6,aE12,aE28,aE41]⟩
def Vg:GDesk:=⟨aH0,⟨5,[0,1,2,4,(-1)],[(-1),0,0]⟩,true,[aE2,aE6,aE18,aE29,aE42]⟩
def Vh:GDesk:=⟨aH0,⟨5,[0,0,2,4,(-1)],[1,0,0]⟩,true,[aE0,aE3,aE18,aE29,aE42]⟩
def Vi:GDesk:=⟨aH0,⟨5,[0,0,1,3,4],[1,0,0]⟩,true,[aE0,aE9,aE12,aE30,aE31]⟩
def skS (i:Nat):GSheet:=List.getD [aS0,aS1,aS2,aS3,aS4,aS5,aS6,aS7,aS8,aS9,aS10,aS11,aS12] i aS0
def skH (i:Nat):GShow:=List.getD [aH0,aH1,aH2,aH3,aH4,aH5,aH6,aH7,aH8,aH9,aH10,aH11] i aH0
def skD (i:Nat):GDesk:=List.getD [aD0,aD1,aD2,aD3,aD4,aD5,aD6,aD7,aD8,aD9,aD10,aD11,aD12,aD13,aD14,aD15,aD16,aD17,aD18,aD19,aD20,aD21,aD22,aD23,aD24,aD25,aD26,aD27,aD28,aD29,aD30,aD31,aD32,aD33,aD34,aD35,aD36,aD37,aD38,aD39,aD40,aD41,aD42,aD43,aD44,aD45,aD46,aD47,aD48,aD49,aD50,aD51,aD52,aD53,aD54,aD55,aD56,aD57,aD58,aD59,aD60,aD61,aD62,aD63,aD64,aD65,aD66,aD67,aD68,aD69,aD70,aD71,aD72,aD73,aD74,aD75,aD76,aD77,aD78,aD79,aD80,aD81,aD82,aD83,aD84,aD85,aD86,aD87,aD88,aD89,aD90,aD91,aD92,aD93,aD94,aD95,aD96,aD97,aD98,aD99,QO,QP,QQ,QR,QS,QT,QU,QV,QW,QX,QY,QZ,Ra,Rb,Rc,Rd,Re,Rf,Rg,Rh,Ri,Rj,Rk,Rl,Rm,Rn,Ro,Rp,Rq,Rr,Rs,Rt,Ru,Rv,Rw,Ry,Rz,RA,RB,RC,RD,RE,RF,RG,RH,RI,RJ,RK,RL,RM,RN,RP,RQ,RR,RT,RU,RV,RW,RX,RY,RZ,Sa,Sb,Sc,Sd,Se,Sf,Sg,Si,Sj,Sk,Sl,Sm,Sn,So,Sp,Sq,Sr,Ss,Su,Sv,Sw,Sx,Sy,Sz,SA,SB,SC,SD,SE,SF,SG,SH,SI,SJ,SK,SL,SM,SN,SO,SP,SQ,SR,SS,ST,SU,SV,SW,SX,SY,SZ,Ta,Tb,Tc,Td,Te,Tf,Tg,Th,Ti,Tj,Tk,Tl,Tm,Tn,To,Tp,Tq,Tr,Ts,Tt,Tu,Tv,Tw,Tx,Tz,TA,TB,TC,TD,TE,TF,TG,TH,TJ,TL,TM,TN,TO,TP,TQ,TR,TS,TT,TU,TV,TW,TX,TY,TZ,Ua,Ub,Uc,Ud,Ue,Uf,Ug,Uh,Ui,Uj,Uk,Ul,Um,Un,Uo,Up,Uq,Ur,Us,Ut,Uu,Uv,Uw,Ux,Uy,Uz,UA,UB,UC,UD,UE,UF,UG,UH,UI,UJ,UK,UL,UM,UN,UO,UP,UQ,UR,US,UT,UU,UV,UW,UX,UY,UZ,Va,Vb,Vc,Vd,Ve,Vf,Vg,Vh,Vi] i aD0
def skT (i:Nat):List GTake:=List.getD [[],[⟨1,1⟩],[⟨1,2⟩],[⟨1,1⟩,⟨1,1⟩],[⟨1,2⟩,⟨1,2⟩],[⟨1,1⟩,⟨1,1⟩,⟨1,1⟩],[⟨1,2⟩,⟨1,2⟩,⟨1,2⟩],[⟨1,1⟩,⟨1,1⟩,⟨1,1⟩,⟨1,1⟩]] i []
def xz:List ByteArray:=[(ByteArray.mk #[99,117,101,32,99,32,119,105,116,104,32,97,32,49,32,50]),(ByteArray.mk #[99,117,101,32,99,32,97,102,116,101,114,32,97,32,48,32,49,32,108,97,115,116,115,32,49,32,50]),(ByteArray.mk #[99,117,101,32,99,32,115,116,97,114,116,32,48,32,51,32,100,101,118,105,99,101,32,49]),(ByteArray.mk #[115,104,101,101,116,32,53,32,48,32,49,32,48]),(ByteArray.mk #[99,117,101,32,99,32,119,105,116,104,32,97,32,48,32,49,32,105,102,32,33,112,49]),(ByteArray.mk #[99,117,101,32,97,32,115,116,97,114,116,32,48,32,49]),(ByteArray.mk #[99,117,101])]
def xA:List ByteArray:=[(ByteArray.mk #[115,116,97,114,116]),(ByteArray.mk #[115,116,97,114,116,32,108,97,122,121])]
def askL:List ByteArray:=[(ByteArray.mk #[99,108,97,115,115]),(ByteArray.mk #[114,101,112,111,114,116])]
def xB:List ByteArray:=[(ByteArray.mk #[116,105,99,107,32,45,32,45]),(ByteArray.mk #[116,105,99,107,32,45,32,112,49]),(ByteArray.mk #[116,105,99,107,32,45,32,33,112,49]),(ByteArray.mk #[116,105,99,107,32,97,122,32,45]),(ByteArray.mk #[109,97,110,117,97,108,32,45,32,97,32,45]),(ByteArray.mk #[109,97,110,117,97,108,32,45,32,45,32,45]),(ByteArray.mk #[104,111,108,100,32,45,32,98,32,45]),(ByteArray.mk #[116,105,99,107,32,98,122,32,45]),(ByteArray.mk #[115,116,97,116,101]),(ByteArray.mk #[108,111,103]),(ByteArray.mk #[116,97,107,101,111,118,101,114])]
def xC:List ByteArray:=[(ByteArray.mk #[104,117,114,114,121]),(ByteArray.mk #[116,105,109,101]),(ByteArray.mk #[114,101,108,97,120,32,51]),(ByteArray.mk #[116,105,99,107,32,120,32,45]),(ByteArray.mk #[104,111,108,100,32,45,32,122,32,45])]
def xD:List ByteArray:=[(ByteArray.mk #[119,104,97,116]),(ByteArray.mk #[116,105,99,107]),(ByteArray.mk #[114,101,108,97,120]),(ByteArray.mk #[114,101,108,97,120,32,120]),(ByteArray.mk #[115,104,101,101,116,32,53]),(ByteArray.mk #[109,97,110,117,97,108,32,45,32,97])]
def noL:List ByteArray:=[(ByteArray.mk #[]),(ByteArray.mk #[35,32,110,111,116,101])]
def rehT:ByteArray:=(ByteArray.mk #[114,101,104,101,97,114,115,101])
def tigT:ByteArray:=(ByteArray.mk #[116,105,103,104,116,101,110,32,48])
def nxT:List (List Nat):=[[2,2,3,0,2,4,2,0,0,0,0],[15,15,15,1,16,15,15,1,1,1,1],[17,17,17,18,2,17,17,2,2,2,2],[19,19,19,20,3,19,19,3,3,3,3],[21,21,22,4,21,4,21,4,4,4,4],[23,23,24,5,23,25,23,5,5,5,5],[26,26,26,6,27,26,26,6,6,6,6],[28,28,29,7,28,30,28,7,7,7,7],[31,31,31,8,32,31,31,8,8,8,8],[33,33,34,9,35,36,33,9,9,9,9],[37,37,37,10,38,37,37,10,10,10,10],[11,11,11,11,11,11,11,11,11,11,11],[12,12,12,12,12,12,12,12,12,12,12],[43,43,44,13,43,45,43,13,13,13,13],[46,46,46,14,47,46,46,14,14,14,14],[48,48,49,15,48,15,48,15,15,15,15],[50,50,50,51,16,50,50,16,16,16,16],[17,17,17,52,17,17,17,17,17,17,17],[53,53,53,18,18,18,53,18,18,18,18],[19,19,19,54,19,19,19,19,19,19,19],[55,55,55,20,20,20,55,20,20,20,20],[56,56,56,57,21,56,56,21,21,21,21],[58,58,58,59,22,58,58,22,22,22,22],[60,60,60,61,23,62,60,23,23,23,23],[63,63,63,64,24,65,63,24,24,24,24],[66,66,67,25,66,25,66,25,25,25,25],[68,68,69,26,68,26,68,26,26,26,26],[70,70,70,71,27,70,70,27,27,27,27],[72,72,72,73,28,72,72,28,28,28,28],[74,74,74,75,29,74,74,29,29,29,29],[76,76,77,30,76,30,76,30,30,30,30],[78,78,79,31,78,31,78,31,31,31,31],[80,80,80,81,32,80,80,32,32,32,32],[82,82,82,83,33,82,82,33,33,33,33],[84,84,84,85,34,84,84,34,34,34,34],[86,86,86,87,35,88,86,35,35,35,35],[89,89,90,36,91,36,89,36,36,36,36],[92,92,93,37,92,37,92,37,37,37,37],[94,94,94,95,38,94,94,38,38,38,38],[98,98,98,39,39,99,39,39,39,39,39],[100,100,100,40,40,100,40,40,40,40,40],[107,107,107,41,107,108,41,41,41,41,41],[109,109,109,42,110,109,42,42,42,42,42],[111,111,111,112,43,111,111,43,43,43,43],[113,113,113,114,44,44,113,44,44,44,44],[115,115,116,45,115,45,115,45,45,45,45],[117,117,118,46,117,46,117,46,46,46,46],[119,119,119,120,47,119,119,47,47,47,47],[121,121,121,122,48,121,121,48,48,48,48],[123,123,123,124,49,123,123,49,49,49,49],[50,50,50,125,50,50,50,50,50,50,50],[126,126,126,51,51,126,126,51,51,51,51],[127,127,127,52,52,52,127,52,52,52,52],[53,53,53,53,53,53,53,53,53,53,53],[128,128,128,54,54,54,128,54,54,54,54],[55,55,55,55,55,55,55,55,55,55,55],[56,56,56,129,56,56,56,56,56,56,56],[130,130,130,57,57,57,130,57,57,57,57],[58,58,58,131,58,58,58,58,58,58,58],[132,132,132,59,59,59,132,59,59,59,59],[60,60,60,133,60,60,60,60,60,60,60],[134,134,134,61,61,61,134,61,61,61,61],[62,62,62,135,62,62,62,62,62,62,62],[63,63,63,136,63,63,63,63,63,63,63],[137,137,137,64,64,64,137,64,64,64,64],[65,65,65,138,65,65,65,65,65,65,65],[139,139,139,140,66,141,139,66,66,66,66],[142,142,142,143,67,144,142,67,67,67,67],[145,145,145,146,68,145,145,68,68,68,68],[147,147,147,148,69,147,147,69,69,69,69],[70,70,70,149,70,70,70,70,70,70,70],[150,150,150,71,71,71,150,71,71,71,71],[72,72,72,151,72,72,72,72,72,72,72],[152,152,152,73,73,73,152,73,73,73,73],[74,74,74,153,74,74,74,74,74,74,74],[154,154,154,75,75,75,154,75,75,75,75],[155,155,155,156,76,155,155,76,76,76,76],[157,157,157,158,77,157,157,77,77,77,77],[159,159,159,160,78,159,159,78,78,78,78],[161,161,161,162,79,161,161,79,79,79,79],[80,80,80,163,80,80,80,80,80,80,80],[164,164,164,81,81,81,164,81,81,81,81],[82,82,82,165,82,82,82,82,82,82,82],[166,166,166,83,83,83,166,83,83,83,83],[84,84,84,167,84,84,84,84,84,84,84],[168,168,168,85,85,85,168,85,85,85,85],[86,86,86,169,86,86,86,86,86,86,86],[170,170,170,87,87,87,170,87,87,87,87],[88,88,88,171,88,88,88,88,88,88,88],[172,172,172,173,89,172,172,89,89,89,89],[174,174,174,175,90,174,174,90,90,90,90],[176,176,176,177,91,178,176,91,91,91,91],[179,179,179,180,92,179,179,92,92,92,92],[181,181,181,182,93,181,181,93,93,93,93],[94,94,94,183,94,94,94,94,94,94,94],[184,184,184,95,95,184,184,95,95,95,95],[185,185,185,96,186,187,96,96,96,96,96],[188,188,188,97,189,188,97,97,97,97,97],[98,98,98,98,98,98,98,98,98,98,98],[190,190,190,99,99,191,99,99,99,99,99],[192,192,192,100,100,192,100,100,100,100,100],[193,193,193,101,193,194,101,101,101,101,101],[195,195,195,102,196,195,102,102,102,102,102],[197,197,197,103,198,199,103,103,103,103,103],[200,200,200,104,201,200,104,104,104,104,104],[202,202,202,105,203,204,105,105,105,105,105],[205,205,205,106,206,205,106,106,106,106,106],[107,107,107,107,107,107,107,107,107,107,107],[207,207,207,108,207,108,108,108,108,108,108],[208,208,208,109,208,109,109,109,109,109,109],[110,110,110,110,110,110,110,110,110,110,110],[111,111,111,209,111,111,111,111,111,111,111],[210,210,210,112,112,112,210,112,112,112,112],[113,113,113,211,113,113,113,113,113,113,113],[212,212,212,114,114,114,212,114,114,114,114],[213,213,213,214,115,213,213,115,115,115,115],[215,215,215,216,116,116,215,116,116,116,116],[217,217,217,218,117,217,217,117,117,117,117],[219,219,219,220,118,118,219,118,118,118,118],[119,119,119,221,119,119,119,119,119,119,119],[222,222,222,120,120,222,222,120,120,120,120],[121,121,121,223,121,121,121,121,121,121,121],[224,224,224,122,122,224,224,122,122,122,122],[123,123,123,225,123,123,123,123,123,123,123],[226,226,226,124,124,226,226,124,124,124,124],[227,227,227,125,125,227,227,125,125,125,125],[228,228,228,126,126,126,126,126,126,126,126],[127,127,127,127,127,127,127,127,127,127,127],[128,128,128,128,128,128,128,128,128,128,128],[229,229,229,129,129,129,229,129,129,129,129],[130,130,130,130,130,130,130,130,130,130,130],[230,230,230,131,131,131,230,131,131,131,131],[132,132,132,132,132,132,132,132,132,132,132],[231,231,231,133,133,133,231,133,133,133,133],[134,134,134,134,134,134,134,134,134,134,134],[232,232,232,135,135,135,232,135,135,135,135],[233,233,233,136,136,136,233,136,136,136,136],[137,137,137,137,137,137,137,137,137,137,137],[234,234,234,138,138,138,234,138,138,138,138],[139,139,139,235,139,139,139,139,139,139,139],[236,236,236,140,140,140,236,140,140,140,140],[141,141,141,237,141,141,141,141,141,141,141],[142,142,142,238,142,142,142,142,142,142,142],[239,239,239,143,143,143,239,143,143,143,143],[144,144,144,240,144,144,144,144,144,144,144],[145,145,145,241,145,145,145,145,145,145,145],[242,242,242,146,146,146,242,146,146,146,146],[147,147,147,243,147,147,147,147,147,147,147],[244,244,244,148,148,148,244,148,148,148,148],[245,245,245,149,149,245,245,149,149,149,149],[246,246,246,150,150,150,150,150,150,150,150],[247,247,247,151,151,151,247,151,151,151,151],[152,152,152,152,152,152,152,152,152,152,152],[248,248,248,153,153,153,248,153,153,153,153],[154,154,154,154,154,154,154,154,154,154,154],[155,155,155,249,155,155,155,155,155,155,155],[250,250,250,156,156,156,250,156,156,156,156],[157,157,157,251,157,157,157,157,157,157,157],[252,252,252,158,158,158,252,158,158,158,158],[159,159,159,253,159,159,159,159,159,159,159],[254,254,254,160,160,160,254,160,160,160,160],[161,161,161,255,161,161,161,161,161,161,161],[256,256,256,162,162,162,256,162,162,162,162],[257,257,257,163,163,163,257,163,163,163,163],[258,258,258,164,164,164,164,164,164,164,164],[259,259,259,165,165,165,259,165,165,165,165],[166,166,166,166,166,166,166,166,166,166,166],[260,260,260,167,167,167,260,167,167,167,167],[168,168,168,168,168,168,168,168,168,168,168],[261,261,261,169,169,169,261,169,169,169,169],[170,170,170,170,170,170,170,170,170,170,170],[262,262,262,171,171,171,262,171,171,171,171],[172,172,172,263,172,172,172,172,172,172,172],[264,264,264,173,173,173,264,173,173,173,173],[174,174,174,265,174,174,174,174,174,174,174],[266,266,266,175,175,175,266,175,175,175,175],[176,176,176,267,176,176,176,176,176,176,176],[268,268,268,177,177,177,268,177,177,177,177],[178,178,178,269,178,178,178,178,178,178,178],[179,179,179,270,179,179,179,179,179,179,179],[271,271,271,180,180,180,271,180,180,180,180],[181,181,181,272,181,181,181,181,181,181,181],[273,273,273,182,182,182,273,182,182,182,182],[274,274,274,183,183,183,274,183,183,183,183],[275,275,275,184,184,184,184,184,184,184,184],[185,185,185,185,185,185,185,185,185,185,185],[276,276,276,186,186,277,186,186,186,186,186],[278,278,278,187,279,187,187,187,187,187,187],[280,280,280,188,280,188,188,188,188,188,188],[281,281,281,189,189,281,189,189,189,189,189],[190,190,190,190,190,190,190,190,190,190,190],[282,282,282,191,191,283,191,191,191,191,191],[284,284,284,192,192,284,192,192,192,192,192],[285,285,285,193,193,286,193,193,193,193,193],[287,287,287,194,287,194,194,194,194,194,194],[288,288,288,195,288,195,195,195,195,195,195],[289,289,289,196,196,289,196,196,196,196,196],[290,290,290,197,197,291,197,197,197,197,197],[292,292,292,198,198,198,198,198,198,198,198],[293,293,293,199,294,199,199,199,199,199,199],[295,295,295,200,295,200,200,200,200,200,200],[296,296,296,201,201,201,201,201,201,201,201],[202,202,202,202,202,202,202,202,202,202,202],[297,297,297,203,203,298,203,203,203,203,203],[299,299,299,204,300,204,204,204,204,204,204],[301,301,301,205,301,205,205,205,205,205,205],[302,302,302,206,206,302,206,206,206,206,206],[207,207,207,207,207,207,207,207,207,207,207],[208,208,208,208,208,208,208,208,208,208,208],[303,303,303,209,209,209,303,209,209,209,209],[210,210,210,210,210,210,210,210,210,210,210],[304,304,304,211,211,211,304,211,211,211,211],[212,212,212,212,212,212,212,212,212,212,212],[213,213,213,305,213,213,213,213,213,213,213],[306,306,306,214,214,214,306,214,214,214,214],[215,215,215,307,215,215,215,215,215,215,215],[308,308,308,216,216,216,308,216,216,216,216],[217,217,217,309,217,217,217,217,217,217,217],[310,310,310,218,218,310,310,218,218,218,218],[219,219,219,311,219,219,219,219,219,219,219],[312,312,312,220,220,312,312,220,220,220,220],[313,313,313,221,221,313,313,221,221,221,221],[314,314,314,222,222,222,222,222,222,222,222],[315,315,315,223,223,315,315,223,223,223,223],[316,316,316,224,224,224,224,224,224,224,224],[317,317,317,225,225,317,317,225,225,225,225],[318,318,318,226,226,226,226,226,226,226,226],[319,319,319,227,227,227,227,227,227,227,227],[320,320,320,228,228,228,320,228,228,228,228],[229,229,229,229,229,229,229,229,229,229,229],[230,230,230,230,230,230,230,230,230,230,230]]
def nx (i:Nat):List Nat:=nxT.getD i []
def rtT:List (List (Nat × Nat)):=[[(0,0)],[(0,0)],[(0,0)],[(0,0)],[(0,0)],[(0,0)],[(0,0)],[(0,0)],[(0,0)],[(0,0)],[(0,0)],[(0,0)],[(0,0)],[(0,0)],[(0,0)],[(0,0)],[(0,0)],[(0,0)],[(0,1),(1,3),(3,5),(5,7)],[(0,0)],[(0,1),(1,3),(3,5),(5,7)],[(0,0)],[(0,0)],[(0,0)],[(0,0)],[(0,0)],[(0,0)],[(0,0)],[(0,0)],[(0,0)],[(0,0)],[(0,0)],[(0,0)],[(0,0)],[(0,0)],[(0,0)],[(0,0)],[(0,0)],[(0,0)],[(0,0)],[(0,0)],[(0,0)],[(0,0)],[(0,0)],[(0,0)],[(0,0)],[(0,0)],[(0,0)],[(0,0)],[(0,0)],[(0,0)],[(0,1),(1,3),(3,5)],[(0,2),(2,4),(4,6)],[(0,1),(1,3),(3,5)],[(0,2),(2,4),(4,6)],[(0,1),(1,3),(3,5)],[(0,0)],[(0,1),(1,3),(3,5)],[(0,0)],[(0,1),(1,3),(3,5)],[(0,0)],[(0,1),(1,3)],[(0,0)],[(0,0)],[(0,1),(1,3)],[(0,0)],[(0,0)],[(0,0)],[(0,0)],[(0,0)],[(0,0)],[(0,1),(1,3)],[(0,0)],[(0,1),(1,3)],[(0,0)],[(0,1),(1,3)],[(0,0)],[(0,0)],[(0,0)],[(0,0)],[(0,0)],[(0,1),(1,3)],[(0,0)],[(0,1),(1,3)],[(0,0)],[(0,1),(1,3)],[(0,0)],[(0,1),(1,3)],[(0,0)],[(0,0)],[(0,0)],[(0,0)],[(0,0)],[(0,0)],[(0,0)],[(0,1),(1,3)],[(0,0)],[(0,0)],[(0,0)],[(0,0)],[(0,0)],[(0,0)],[(0,0)],[(0,0)],[(0,0)],[(0,0)],[(0,0)],[(0,0)],[(0,0)],[(0,0)],[(0,0)],[(0,0)],[(0,1),(1,3)],[(0,0)],[(0,1),(1,3)],[(0,0)],[(0,0)],[(0,0)],[(0,0)],[(0,0)],[(0,1),(1,3)],[(0,0)],[(0,1),(1,3)],[(0,0)],[(0,1),(1,3)],[(0,2),(2,4)],[(0,1),(1,3)],[(0,2),(2,4)],[(0,2),(2,4)],[(0,2),(2,4)],[(0,1),(1,3)],[(0,2),(2,4)],[(0,1),(1,3)],[(0,2)],[(0,1)],[(0,2)],[(0,2)],[(0,1)],[(0,2)],[(0,0)],[(0,1)],[(0,0)],[(0,0)],[(0,1)],[(0,0)],[(0,0)],[(0,1)],[(0,0)],[(0,1)],[(0,2)],[(0,1)],[(0,2)],[(0,1)],[(0,2)],[(0,1)],[(0,0)],[(0,1)],[(0,0)],[(0,1)],[(0,0)],[(0,1)],[(0,0)],[(0,1)],[(0,2)],[(0,1)],[(0,2)],[(0,1)],[(0,2)],[(0,1)],[(0,2)],[(0,1)],[(0,2)],[(0,0)],[(0,1)],[(0,0)],[(0,1)],[(0,0)],[(0,1)],[(0,0)],[(0,0)],[(0,1)],[(0,0)],[(0,1)],[(0,2)],[(0,1)],[(0,0)],[(0,0)],[(0,0)],[(0,0)],[(0,0)],[(0,0)],[(0,0)],[(0,0)],[(0,0)],[(0,0)],[(0,0)],[(0,0)],[(0,0)],[(0,0)],[(0,0)],[(0,0)],[(0,0)],[(0,0)],[(0,0)],[(0,0)],[(0,0)],[(0,0)],[(0,0)],[(0,0)],[(0,2)],[(0,1)],[(0,2)],[(0,1)],[(0,0)],[(0,1)],[(0,0)],[(0,1)],[(0,0)],[(0,1)],[(0,0)],[(0,1)],[(0,2)],[(0,1)],[(0,2)],[(0,1)],[(0,2)],[(0,1)],[(0,2)],[(0,1)],[(0,2)],[(0,2)],[],[],[],[],[],[],[],[],[],[],[],[],[],[],[],[],[],[],[],[],[],[],[],[],[],[],[],[],[],[],[],[],[],[],[],[],[],[],[],[],[],[],[],[],[],[],[],[],[],[],[],[],[],[],[],[],[],[],[],[],[],[],[],[],[],[],[],[],[],[],[],[],[],[],[],[],[],[],[],[],[],[],[],[],[],[],[],[],[],[]]
def rt (i:Nat):List (Nat × Nat):=rtT.getD i []
def rlT:List (List Nat):=[[],[],[],[],[],[],[],[],[],[],[],[],[],[],[],[],[],[],[7],[],[7],[],[],[],[],[],[],[],[],[],[],[],[],[],[],[],[],[],[],[],[],[],[],[],[],[],[],[],[],[],[],[5],[6],[5],[6],[5],[],[5],[],[5],[],[3],[],[],[3],[],[],[],[],[],[],[3],[],[3],[],[3],[],[],[],[],[],[3],[],[3],[],[3],[],[3],[],[],[],[],[],[],[],[3],[],[],[],[],[],[],[],[],[],[],[],[],[],[],[],[],[3],[],[3],[],[],[],[],[],[3],[],[3],[],[3],[4],[3],[4],[4],[4],[3],[4],[3],[2],[1],[2],[2],[1],[2],[],[1],[],[],[1],[],[],[1],[],[1],[2],[1],[2],[1],[2],[1],[],[1],[],[1],[],[1],[],[1],[2],[1],[2],[1],[2],[1],[2],[1],[2],[],[1],[],[1],[],[1],[],[],[1],[],[1],[2],[1],[],[],[],[],[],[],[],[],[],[],[],[],[],[],[],[],[],[],[],[],[],[],[],[],[2],[1],[2],[1],[],[1],[],[1],[],[1],[],[1],[2],[1],[2],[1],[2],[1],[2],[1],[2],[2],[0],[0],[0],[0],[0],[0],[0],[0],[0],[0],[0],[0],[0],[0],[0],[0],[0],[0],[0],[0],[0],[0],[0],[0],[0],[0],[0],[0],[0],[0],[0],[0],[0],[0],[0],[0],[0],[0],[0],[0],[0],[0],[0],[0],[0],[0],[0],[0],[0],[0],[0],[0],[0],[0],[0],[0],[0],[0],[0],[0],[0],[0],[0],[0],[0],[0],[0],[0],[0],[0],[0],[0],[0],[0],[0],[0],[0],[0],[0],[0],[0],[0],[0],[0],[0],[0],[0],[0],[0],[0]]
def rl (i:Nat):List Nat:=rlT.getD i []
def shT:List Nat:=[0,0,0,0,0,1,1,2,2,3,3,4,4,5,5,0,0,0,0,0,0,0,0,1,1,1,1,1,2,2,2,2,2,3,3,3,3,3,3,6,6,7,7,5,5,5,5,5,0,0,0,0,0,0,0,0,0,0,0,0,1,1,1,1,1,1,1,1,1,1,1,1,2,2,2,2,2,2,2,2,2,2,3,3,3,3,3,3,3,3,3,3,3,3,3,3,8,8,6,6,6,9,9,10,10,11,11,7,7,7,7,5,5,5,5,5,5,5,5,5,5,0,0,0,0,0,0,0,0,0,0,0,0,1,1,1,1,1,1,1,1,1,1,1,1,1,1,1,1,1,1,2,2,2,2,2,2,2,2,2,2,2,2,2,2,3,3,3,3,3,3,3,3,3,3,3,3,3,3,3,3,3,3,3,3,8,8,8,8,8,6,6,6,9,9,9,9,10,10,10,10,10,11,11,11,11,11,7,7,5,5,5,5,5,5,5,5,5,5,5,5,5,5,0,0,0,0,0,0,0,0,1,1,1,1,1,1,1,1,1,1,1,1,1,1,1,1,2,2,2,2,2,2,2,2,2,2,2,2,3,3,3,3,3,3,3,3,3,3,3,3,3,3,3,3,3,8,8,8,8,8,8,6,6,6,9,9,9,9,9,10,10,10,10,10,10,10,11,11,11,11,11,11,5,5,5,5,5,5,5,5,5,5,5,5,0,0,0,0,0,0]
def sh (i:Nat):Nat:=shT.getD i 0
def snT:List (List Nat):=[[1,2,3,4,5,0,0],[1,1,1,4,1,1,1],[2,2,2,4,2,2,2],[3,3,3,4,3,3,3],[4,4,6,4,4,7,4],[5,5,5,4,5,5,5],[6,6,6,4,6,8,6],[9,10,11,4,12,7,7],[8,8,8,4,8,8,8],[9,9,9,4,9,9,9],[10,10,10,4,10,10,10],[11,11,11,4,11,11,11],[12,12,12,4,12,12,12]]
def sn (i:Nat):List Nat:=snT.getD i []
def goT:List (List (Option Nat)):=[[some 0,some 1],[some 5,some 6],[some 7,some 8],[some 9,some 10],[some 11,some 12],[some 13,some 14],[some 39,some 40],[some 41,some 42],[some 96,some 97],[some 101,some 102],[some 103,some 104],[some 105,some 106],[none,none]]
def go (i:Nat):List (Option Nat):=goT.getD i []
def stT:List (Nat × Nat):=[(0,0),(0,1),(0,2),(0,3),(0,4),(0,5),(0,6),(0,7),(1,0),(1,1),(1,2),(1,3),(2,0),(2,1),(2,2),(2,3),(3,0),(3,1),(3,2),(3,3),(4,0),(5,0),(5,1),(5,2),(5,3),(6,0),(7,0),(8,0),(9,0),(10,0),(11,0)]
def bmT:List (List Nat):=[[1,0,0,0,0,0,0,0],[31,0,0,0,0,0,0,0],[8388607,0,0,0,0,0,0,0],[1152921504606846975,1310720,0,0,0,0,0,0],[10889035741470030830827987437816582766591,767863736467980288,22517998136852480,1310720,0,0,0,0],[3450873173395281893717377931138512726225554486085193277581262111899647,6918657679584599440855293577947977613312,3955782515455909637761752329392442310656,767863736467980288,22517998136852480,1310720,0,0],[4271974071841820164790043412339104229205409044713305539894083215644439451561281100045924173873151,575144980397726977711060345691163946437424226173308081170310029901824,2874608427146342535072794251420730345049050816044242059011762946048000,6918657679584599440855293577947977613312,3955782515455909637761752329392442310656,767863736467980288,22517998136852480,1310720]]
def bm (n j:Nat):Nat:=(bmT.getD n []).getD j 0
def smT:List Nat:=[1,63,255,8191,8191,8191,8191]
def sm (n:Nat):Nat:=smT.getD n 0
def szR (r:Option (ByteArray × GConsole)):Option (Bool × GConsole):=match r with
 | some p=>some (Nat.ble p.1.size 100000,p.2)
 | none=>none
def okR (r:Option (ByteArray × GConsole)):Bool:=match r with
 | some p=>Nat.ble p.1.size 100000
 | none=>false
def RowT (i:Nat):Prop:=∀ s t,(bq (skD i),xB.map (fun x=>szR (aH ⟨s,skD i,t⟩ x)),(rt i).map (fun p=>szR (aH ⟨s,skD i,skT p.1⟩ rehT)),(rl i).map (fun j=>okR (aH ⟨s,skD i,skT j⟩ rehT)))=(some (skD i),(nx i).map (fun k=>some (true,⟨s,skD k,t⟩)),(rt i).map (fun p=>some (true,⟨s,skD i,skT p.2⟩)),(rl i).map (fun _=>true))
def aE (i:Nat):Prop:=∀ s t,(bq (skD i),xB.map (fun x=>okR (aH ⟨s,skD i,t⟩ x)),(rl i).map (fun j=>okR (aH ⟨s,skD i,skT j⟩ rehT)))=(some (skD i),xB.map (fun _=>true),(rl i).map (fun _=>true))
def fw (a:Nat):Prop:=∀ d t,(ca (skS a),xz.map (fun x=>szR (aH ⟨skS a,d,t⟩ x)),askL.map (fun x=>szR (aH ⟨skS a,d,t⟩ x)),xA.map (fun x=>szR (aH ⟨skS a,d,t⟩ x)))=(some (skS a),(sn a).map (fun k=>some (true,⟨skS k,d,t⟩)),askL.map (fun _=>some (true,⟨skS a,d,t⟩)),(go a).map (fun k=>some (true,match k with|some i=>⟨skS a,skD i,[]⟩|none=>⟨skS a,d,t⟩)))
def jf (h:Nat):Prop:=∀ s x y z t,xC.map (fun l=>szR (aH ⟨s,⟨skH h,x,y,z⟩,t⟩ l))=xC.map (fun _=>some (true,⟨s,⟨skH h,x,y,z⟩,t⟩))
def TigT (p:Nat × Nat):Prop:=∀ s x y z,szR (aH ⟨s,⟨skH p.1,x,y,z⟩,skT p.2⟩ tigT)=some (true,⟨s,⟨skH p.1,x,y,z⟩,skT p.2⟩)
def AllP (P:Nat→Prop):Nat→Nat→Prop
 | _,0=>True
 | a,n+1=>P a∧AllP P (a+1) n
theorem AllP.out {P:Nat→Prop}{n:Nat}:∀ {a:Nat},AllP P a n→∀ i,a≤i→i<a+n→P i:=by
 induction n with
 | zero=>intro a _ i h1 h2;omega
 | succ n ih=>
  intro a h i h1 h2
  rcases Nat.eq_or_lt_of_le h1 with rfl|h3
  ·exact h.1
  exact ih h.2 i h3 (by omega)
end Go.Proofs.Qr
