/- Entries of a journal: written and read. Own work. -/
import Derived.Test.YtpkcmjnlnbddbaaGreatDoorXeP49
import Derived.Test.YtpkcmjnlnbddbaaGreatDoorXeP24
set_option linter.all false
set_option maxRecDepth 100000
set_option maxHeartbeats 1000000
namespace Go.Proofs.Qe
open Go Go.Lib
def rM (l:List Int):Prop:=∀ n,n∈l→i64 n
def lstB (l:List Int):List UInt8:=if l=[] then [45] else Lib.join (l.map itoa) [44]
def nc (l:List Int):List ByteArray:=l.map (fun n=>ofL (itoa n))
theorem Bc (l:List Int):(nc l).map bs=l.map itoa:=by
 unfold nc
 rw[List.map_map]
 exact List.map_congr_left (fun n _=>mE _)
theorem xO (l:List Int):(nc l).length=l.length:=by simp[nc]
theorem Dv {l:List Int}(h:rM l)(hl:l.length≤2097152)(sep:List UInt8)(hs:sep.length≤4):(Lib.join ((nc l).map bs) sep).length≤50331648:=by
 rw[Bc]
 have:=Ba (B:=20) sep (l.map itoa) (by
  intro x hx
  obtain⟨n,hn,rfl⟩:=List.mem_map.1 hx
  exact tO (h n hn))
 rw[List.length_map]at this
 have h2:l.length*(20+sep.length)≤2097152*24:=Nat.mul_le_mul hl (by omega)
 omega
theorem Bd {l:List Int}(h:rM l)(hl:l.length≤2097152):(lstB l).length≤50331648:=by
 unfold lstB
 split
 ·simp
 ·have:=Dv h hl [44] (by simp)
  rwa [Bc]at this
theorem ME {l:List Int}(h:rM l)(hl:l.length≤2097152)(body:Int × List ByteArray→Option (Step (Int × List ByteArray) (List ByteArray)))
  (h1:∀ i (hi:i<l.length) out,body ((i:Int),out)=(chk ((out.length+1)*16≤140737488355328) <| chk (out.length+1≤9223372036854775807) <| some (.next (IntKind.wrap .i64 ((i:Int)+1),out++[ofL (itoa l[i])]))))
  (h2:∀ out,body ((l.length:Int),out)=some (.done out)):ak body (0,[])=some (nc l):=by
 have key:ak body (((0:Nat):Int),nc (l.take 0))=some (nc l):=by
  refine aH l.length (fun i=>((i:Int),nc (l.take i))) ?_ ?_
  ·intro i hi
   have e:(nc (l.take i)).length=i:=by rw[xO,List.length_take];omega
   rw[h1 i hi,e,ah (by omega),ah (by omega),wr (by omega) (by omega)]
   congr 3
   rw[cG hi]
   unfold nc
   rw[List.map_append];rfl
  ·rw[h2,List.take_length]
 exact key
theorem sv {l:List Int}(h:rM l)(hl:l.length≤2097152):fJ l=some (ofL (lstB l)):=by
 unfold fJ
 rw[ME h hl _ ?_ ?_]
 ·simp only[obnd]
  unfold mX
  rw[xO]
  unfold lstB
  by_cases h0:l=[]
  ·subst h0
   rfl
  ·have hn:¬ ((l.length:Nat):Int)=0:=by
    intro he
    exact h0 (List.length_eq_zero_iff.1 (by omega))
   have:=Dv h hl [44] (by simp)
   rw[if_neg hn,FW (nc l) (ByteArray.mk #[44]) (by rw[xO];omega) (by
    show(Lib.join ((nc l).map bs) [44]).length≤_
    omega),if_neg h0]
   simp only[obnd]
   unfold MA
   rw[Bc];rfl
 ·intro i hi out
  unfold kU
  simp only
  rw[if_pos (by omega),an hi]
  simp only[obnd]
  rw[vj (h _ (List.getElem_mem hi))]
 ·intro out
  unfold kU
  simp only
  rw[if_neg (by omega)]
structure RngE (e:GEntry):Prop where
 now:i64 e.now
 ties:rM e.ties
 nodes:rM e.nodes
 values:rM e.values
def entL (e:GEntry):List (List UInt8):=[itoa e.now,lstB e.ties,lstB e.nodes,lstB e.values]
def entB (e:GEntry):List UInt8:=Lib.join (entL e) [32]
theorem Lb (e:GEntry):entB e=itoa e.now++[32]++lstB e.ties++[32]++lstB e.nodes++[32]++lstB e.values:=by
 unfold entB entL
 rw[Lib.join_cons]
 simp[joinTail]
theorem Pw {e:GEntry}(hf:FitE e)(hr:RngE e):(entB e).length≤268435456:=by
 have:=tO hr.now
 have h1:=hf.ties
 have h2:=hf.nodes
 have h3:=hf.values
 have:=Bd hr.ties (by omega)
 have:=Bd hr.nodes (by omega)
 have:=Bd hr.values (by omega)
 rw[Lb]
 simp only[List.length_append,List.length_singleton]
 omega
theorem Be {e:GEntry}(hf:FitE e)(hr:RngE e):ct e=some (ofL (entB e)):=by
 have h1:=hf.ties
 have h2:=hf.nodes
 have h3:=hf.values
 unfold ct
 rw[vj hr.now]
 simp only[obnd]
 rw[sv hr.ties (by omega)]
 simp only
 rw[sv hr.nodes (by omega)]
 simp only
 rw[sv hr.values (by omega)]
 simp only
 have hl:=Pw hf hr
 have e1:[ofL (itoa e.now),ofL (lstB e.ties),ofL (lstB e.nodes),ofL (lstB e.values)].map bs=entL e:=by
  simp only[List.map_cons,List.map_nil,mE];rfl
 rw[FW _ _ (by simp) (by
  rw[e1]
  show(Lib.join (entL e) [32]).length≤_
  unfold entB at hl
  omega)]
 simp only
 unfold MA
 rw[e1];rfl
def sR (l:List UInt8):List Int × Bool:=if l=[45] then ([],true) else match (aU (fun c=>c == 44) l).mapM iG with
 | some r=>(r,true)
 | none=>([],false)
theorem Px (c x:UInt8):sepB (ByteArray.mk #[c]) x=(x == c):=by
 unfold sepB
 show List.contains [c] x=_
 rw[List.contains_cons]
 simp only[List.contains_nil,Bool.or_false]
theorem Dw (s:ByteArray)(c:UInt8):xJ s (ByteArray.mk #[c])=(aU (fun x=>x == c) (bs s)).map ofL:=by
 unfold xJ
 congr 1
 congr 1
 funext x
 exact Px c x
theorem Oc {α β:Type}{f:α→Option β}{l:List α}{i:Nat}(hi:i<l.length){r:List β}(h:(l.take i).mapM f=some r):(l.take (i+1)).mapM f=(f l[i]).map (fun y=>r++[y]):=by
 rw[cG hi,List.mapM_append,h]
 cases hf:f l[i] <;> simp[hf]
theorem Od {α β:Type}{f:α→Option β}{l:List α}{i:Nat}(hi:i<l.length)(h:f l[i]=none):l.mapM f=none:=by
 have e:l=l.take i++l[i]::l.drop (i+1):=by rw[← List.drop_eq_getElem_cons hi,List.take_append_drop]
 rw[e,List.mapM_append,List.mapM_cons,h]
 cases(l.take i).mapM f <;> rfl
theorem Dx (l:List UInt8):iV (ofL l)=match iG l with|some v=>(v,true)|none=>(0,false):=by
 unfold iV
 rw[mE]
 cases iG l <;> rfl
theorem Ju {ws:List (List UInt8)}(hw:ws.length≤2097152)(body:Int × List Int→Option (Step (Int × List Int) (Sum (List Int) (List Int × Bool))))
  (h1:∀ i (hi:i<ws.length) out,body ((i:Int),out)=if (iV (ofL ws[i])).2=true then
    (chk ((out.length+1)*8≤140737488355328) <| chk (out.length+1≤9223372036854775807) <| some (.next (IntKind.wrap .i64 ((i:Int)+1),out++[(iV (ofL ws[i])).1])))
   else some (.done (.inr ([],false))))
  (h2:∀ out,body ((ws.length:Int),out)=some (.done (.inl out))) :
  ak body (0,[])=some (match ws.mapM iG with|some r=>.inl r|none=>.inr ([],false)):=by
 have key:∃ q,ak body (0,[])=some q∧q=(match ws.mapM iG with|some r=>.inl r|none=>.inr ([],false)):=by
  refine bo ws.length (fun i st=>st.1=(i:Int)∧(ws.take i).mapM iG=some st.2∧st.2.length=i) _ ⟨rfl,rfl,rfl⟩ ?_ ?_
  ·rintro i ⟨j,out⟩ hi ⟨rfl,hm,hl⟩
   simp only at hm hl
   rw[h1 i hi,Dx]
   cases hn:iG ws[i] with
   | none=>
    simp only[Bool.false_eq_true,if_false]
    rw[Od hi hn]
    exact .inr ⟨_,rfl,rfl⟩
   | some v=>
    simp only[if_true]
    rw[ah (by omega),ah (by omega),wr (by omega) (by omega)]
    refine .inl ⟨_,rfl,rfl,?_,?_⟩
    ·rw[Oc hi hm,hn];rfl
    ·simp only[List.length_append,List.length_singleton];omega
  ·rintro⟨j,out⟩ ⟨rfl,hm,hl⟩
   simp only at hm
   rw[h2]
   rw[List.take_length]at hm
   rw[hm]
   exact⟨_,rfl,rfl⟩
 obtain⟨q,hq,rfl⟩:=key
 exact hq
theorem AL {s:ByteArray}(hs:s.size≤1048576)(c:UInt8):((aU (fun x=>x == c) (bs s))).length≤2097152∧∀ w,w∈aU (fun x=>x == c) (bs s)→(ofL w).size≤1048576:=by
 have h:=sP (fun x=>x == c) (bs s)
 rw[← kv]at h
 refine⟨by omega,?_⟩
 intro w hw
 have:=rC _ _ hw
 rw[← kv]at this
 rw[AY];omega
theorem sw {s:ByteArray}(hs:s.size≤1048576):fK s=some (sR (bs s)):=by
 obtain⟨w1,w2⟩:=AL hs 44
 unfold fK sR
 have e45:s=ByteArray.mk #[45]↔bs s=[45]:=⟨fun h=>by rw[h];rfl,fun h=>UZ h⟩
 by_cases h45:s=ByteArray.mk #[45]
 ·rw[if_pos h45,if_pos (e45.1 h45)]
 ·rw[if_neg h45,if_neg (fun h=>h45 (e45.2 h)),wy s _ (by omega),Dw]
  simp only[obnd]
  generalize aU (fun c=>c == 44) (bs s)=ws at *
  rw[Ju (ws:=ws) w1 _ ?_ ?_]
  ·cases ws.mapM iG <;> rfl
  ·intro i hi out
   unfold kV
   simp only
   rw[if_pos (by rw[List.length_map];omega),an (by rw[List.length_map];exact hi)]
   simp only[obnd]
   rw[List.getElem_map,ww _ (by have:=w2 _ (List.getElem_mem hi);omega)]
  ·intro out
   unfold kV
   simp only
   rw[if_neg (by rw[List.length_map];omega)]
def noE:GEntry:=⟨0,[],[],[]⟩
def parW:List (List UInt8)→GEntry × Bool
 | [a,b,c,d]=>match iG a,sR b,sR c,sR d with
  | some n,(x,true),(y,true),(z,true)=>(⟨n,x,y,z⟩,true)
  | _,_,_,_=>(noE,false)
 | _=>(noE,false)
def parE (l:List UInt8):GEntry × Bool:=parW (aU (fun c=>c == 32) l)
theorem four {α:Type}{l:List α}(h:l.length=4):∃ a b c d,l=[a,b,c,d]:=by
 match l,h with
 | [a,b,c,d],_=>exact⟨a,b,c,d,rfl⟩
theorem Re {l:List (List UInt8)}(h:l.length≠4):parW l=(noE,false):=by
 match l,h with
 | [],_=>rfl
 | [_],_=>rfl
 | [_,_],_=>rfl
 | [_,_,_],_=>rfl
 | [_,_,_,_],h=>exact absurd rfl h
 | _::_::_::_::_::_,_=>rfl
theorem Oe (a:List UInt8)(b c d:List Int × Bool) :
  (if (iV (ofL a)).2=true then
   if b.2=true then
    if c.2=true then
     if d.2=true then
      some ((GEntry.mk (iV (ofL a)).1 b.1 c.1 d.1),true)
     else
      some ((GEntry.mk 0 ([]) ([]) ([])),false)
    else
     some ((GEntry.mk 0 ([]) ([]) ([])),false)
   else
    some ((GEntry.mk 0 ([]) ([]) ([])),false)
  else
   some ((GEntry.mk 0 ([]) ([]) ([])),false))=some (match iG a,b,c,d with
  | some n,(x,true),(y,true),(z,true)=>((⟨n,x,y,z⟩:GEntry),true)
  | _,_,_,_=>(noE,false)):=by
 rw[Dx]
 obtain⟨b1,b2⟩:=b
 obtain⟨c1,c2⟩:=c
 obtain⟨d1,d2⟩:=d
 cases iG a <;> cases b2 <;> cases c2 <;> cases d2 <;> rfl
theorem Dy {s:ByteArray}(hs:s.size≤1048576):jl s=some (parE (bs s)):=by
 obtain⟨w1,w2⟩:=AL hs 32
 unfold jl parE
 rw[wy s _ (by omega),Dw]
 simp only[obnd]
 generalize aU (fun c=>c == 32) (bs s)=ws at *
 rw[List.length_map]
 by_cases h4:ws.length=4
 ·obtain⟨a,b,c,d,rfl⟩:=four h4
  rw[if_pos (by rfl)]
  have ha:=w2 a (by simp)
  have hb:=w2 b (by simp)
  have hc:=w2 c (by simp)
  have hd:=w2 d (by simp)
  have g0:getI ([a,b,c,d].map ofL) 0=some (ofL a):=rfl
  have g1:getI ([a,b,c,d].map ofL) 1=some (ofL b):=rfl
  have g2:getI ([a,b,c,d].map ofL) 2=some (ofL c):=rfl
  have g3:getI ([a,b,c,d].map ofL) 3=some (ofL d):=rfl
  rw[g0]
  simp only
  rw[ww _ (by omega),g1]
  simp only
  rw[sw hb,g2]
  simp only
  rw[sw hc,g3]
  simp only
  rw[sw hd]
  simp only[mE]
  exact Oe a _ _ _
 ·rw[if_neg (by omega),Re h4];rfl
theorem Jv {α β:Type}{f:α→Option β}:∀ {l:List α} {r:List β},l.mapM f=some r→r.length=l.length
 | [],r,h=>by simp at h;subst h;rfl
 | a::l,r,h=>by
  rw[List.mapM_cons]at h
  cases hf:f a with
  | none=>rw[hf]at h;cases h
  | some y=>
   rw[hf]at h
   cases hm:l.mapM f with
   | none=>rw[hm]at h;cases h
   | some ys=>
    rw[hm]at h
    have:r=y::ys:=by simpa using h.symm
    subst this
    rw[List.length_cons,List.length_cons,Jv hm]
theorem Jw {α β:Type}{f:α→Option β}:∀ {l:List α} {r:List β},l.mapM f=some r→∀ a,a∈l→∃ b,f a=some b
 | [],_,_,a,ha=>by cases ha
 | x::l,r,h,a,ha=>by
  rw[List.mapM_cons]at h
  cases hf:f x with
  | none=>rw[hf]at h;cases h
  | some y=>
   rw[hf]at h
   cases hm:l.mapM f with
   | none=>rw[hm]at h;cases h
   | some ys=>
    rcases List.mem_cons.1 ha with rfl|ha
    ·exact⟨y,hf⟩
    ·exact Jw hm a ha
theorem Py {l:List UInt8}{v:Int}(h:iG l=some v):1≤l.length:=by
 have:=(Mx h).1
 have h2:=La v
 rw[← this]at h2
 cases l with
 | nil=>exact absurd rfl h2
 | cons a b=>simp
theorem xP (l:List UInt8)(h:l.length≤1048576):(sR l).1.length≤1048576:=by
 unfold sR
 split
 ·simp
 ·split
  ·rename_i r hr
   rw[Jv hr]
   have h1:=sP (fun c:UInt8=>c == 44) l
   have h2:(aU (fun c:UInt8=>c == 44) l).length≤((aU (fun c:UInt8=>c == 44) l).map List.length).sum:=by
    have hall:∀ x,x∈aU (fun c:UInt8=>c == 44) l→1≤x.length:=by
     intro x hx
     obtain⟨b,hb⟩:=Jw hr x hx
     exact Py hb
    generalize aU (fun c:UInt8=>c == 44) l=ws at hall
    induction ws with
    | nil=>simp
    | cons a r ih=>
     have:=ih (fun x hx=>hall x (by simp[hx]))
     have:=hall a (by simp)
     simp only[List.length_cons,List.map_cons,List.sum_cons]
     omega
   show _≤_
   omega
  ·simp
theorem Pz (l:List UInt8)(h:l.length≤1048576):FitE (parE l).1:=by
 have hno:FitE noE:=⟨by simp[noE],by simp[noE],by simp[noE]⟩
 unfold parE parW
 split
 ·rename_i a b c d hs
  have hm:∀ x,x∈[a,b,c,d]→x.length≤1048576:=by
   intro x hx
   rw[← hs]at hx
   have:=rC _ _ hx
   omega
  split
  ·rename_i n x y z hn hb hc hd
   have h1:=xP b (hm b (by simp))
   have h2:=xP c (hm c (by simp))
   have h3:=xP d (hm d (by simp))
   rw[hb]at h1
   rw[hc]at h2
   rw[hd]at h3
   exact⟨h1,h2,h3⟩
  ·exact hno
 ·exact hno
end Go.Proofs.Qe
set_option maxRecDepth 100000
set_option maxHeartbeats 1000000
namespace Go.Proofs.Qe
open Go Go.Lib
def goJ:List (List UInt8)→List GEntry
 | []=>[]
 | w::r=>if r=[] then [] else if (parE w).2=true then (parE w).1::goJ r else []
def lj (l:List UInt8):List GEntry:=goJ (aU (fun c=>c == 10) l)
theorem PA {ws:List (List UInt8)}(h:ws≠[]):(goJ ws).length+1≤ws.length:=by
 induction ws with
 | nil=>exact absurd rfl h
 | cons w r ih=>
  unfold goJ
  split
  ·simp
  ·rename_i hr
   have:=ih hr
   split
   ·simp only[List.length_cons];omega
   ·simp
theorem Lc:∀ ws,(∀ w,w∈ws→w.length≤1048576)→∀ e,e∈goJ ws→FitE e
 | [],_,e,he=>by cases he
 | w::r,h,e,he=>by
  unfold goJ at he
  split at he
  ·cases he
  ·split at he
   ·rcases List.mem_cons.1 he with rfl|he
    ·exact Pz w (h w (by simp))
    ·exact Lc r (fun x hx=>h x (by simp[hx])) e he
   ·cases he
theorem KD {l:List UInt8}(h:l.length≤1048576):(lj l).length≤1048576∧∀ e,e∈lj l→FitE e:=by
 have h1:=sP (fun c:UInt8=>c == 10) l
 have h2:=PA (nK (fun c:UInt8=>c == 10) l)
 refine⟨by unfold lj;omega,?_⟩
 refine Lc _ (fun w hw=>?_)
 have:=rC _ _ hw
 omega
theorem tT {t:ByteArray}(hs:t.size≤1048576):fo t=some (lj (bs t),((lj (bs t)).length:Int)):=by
 have hsz:=kv t
 unfold fo
 have key:∃ q,ak iR (t,[])=some q∧q=lj (bs t):=by
  refine bo ((bs t).length+1) (fun i st=>(bs st.1).length+i≤(bs t).length∧st.2.length=i∧st.2++lj (bs st.1)=lj (bs t)) _ ⟨Nat.le_refl _,rfl,rfl⟩ ?_ ?_
  ·rintro i ⟨s,out⟩ hi ⟨h1,h2,h3⟩
   simp only at h1 h2 h3
   have hz:=kv s
   unfold iR
   simp only
   unfold pl xCut
   rw[if_pos (by omega)]
   simp only[obnd]
   have e10:bs (ByteArray.mk #[10])=[10]:=rfl
   rw[e10]
   obtain⟨c1,c2,c3,c4⟩|⟨c1,c2⟩:=Rc (bs s) 10
   ·rw[if_pos c1,Dy (by rw[AY];omega),mE]
    simp only
    unfold lj at h3
    rw[c2]at h3
    conv at h3=>lhs;unfold goJ
    rw[if_neg (nK _ _)]at h3
    cases hp:(parE (Lib.cut (bs s) [10]).1).2
    ·rw[hp]at h3
     simp only[Bool.false_eq_true,if_false]at h3 ⊢
     rw[List.append_nil]at h3
     exact .inr ⟨_,rfl,h3⟩
    ·rw[hp]at h3
     simp only[if_true]at h3 ⊢
     rw[ah (by omega),ah (by omega)]
     refine .inl ⟨_,rfl,?_,?_,?_⟩
     ·simp only;rw[mE];omega
     ·simp only[List.length_append,List.length_singleton];omega
     ·simp only
      rw[mE,List.append_assoc]
      exact h3
   ·rw[c1]
    simp only[Bool.false_eq_true,if_false]
    unfold lj at h3
    rw[c2]at h3
    conv at h3=>lhs;unfold goJ
    rw[if_pos rfl,List.append_nil]at h3
    exact .inr ⟨_,rfl,h3⟩
  ·rintro⟨s,out⟩ ⟨h1,_,_⟩
   simp only at h1
   omega
 obtain⟨q,hq,rfl⟩:=key
 rw[hq]
 simp only[obnd]
theorem Jx {n:Int}{c:UInt8}(h:c∈itoa n)(x:UInt8)(hx:x.toNat=10∨x.toNat=32∨x.toNat=44):c≠x:=by
 rintro rfl
 have:=AZ h
 omega
theorem Jy {sep:List UInt8}{xs:List (List UInt8)}{c:UInt8}(h:c∈Lib.join xs sep):(∃ x,x∈xs∧c∈x)∨c∈sep:=by
 cases xs with
 | nil=>cases h
 | cons x r=>
  rw[Lib.join_cons]at h
  rcases List.mem_append.1 h with h|h
  ·exact .inl ⟨x,by simp,h⟩
  ·unfold joinTail at h
   rw[List.mem_flatten]at h
   obtain⟨l,hl,hc⟩:=h
   obtain⟨y,hy,rfl⟩:=List.mem_map.1 hl
   rcases List.mem_append.1 hc with hc|hc
   ·exact .inr hc
   ·exact .inl ⟨y,by simp[hy],hc⟩
theorem rD {l:List Int}{c:UInt8}(h:c∈lstB l):c.toNat=45∨c.toNat=44∨48≤c.toNat∧c.toNat≤57:=by
 unfold lstB at h
 split at h
 ·simp only[List.mem_singleton]at h
  subst h;exact .inl rfl
 ·rcases Jy h with ⟨x,hx,hc⟩|hc
  ·obtain⟨n,_,rfl⟩:=List.mem_map.1 hx
   have:=AZ hc
   omega
  ·simp only[List.mem_singleton]at hc
   subst hc;exact .inr (.inl rfl)
theorem PB {e:GEntry}{c:UInt8}(h:c∈entB e):c.toNat=32∨c.toNat=45∨c.toNat=44∨48≤c.toNat∧c.toNat≤57:=by
 unfold entB entL at h
 rcases Jy h with ⟨x,hx,hc⟩|hc
 ·simp only[List.mem_cons,List.not_mem_nil,or_false]at hx
  rcases hx with rfl|rfl|rfl|rfl
  ·have:=AZ hc;omega
  ·have:=rD hc;omega
  ·have:=rD hc;omega
  ·have:=rD hc;omega
 ·simp only[List.mem_singleton]at hc
  subst hc;exact .inl rfl
theorem KE {n:Int}:itoa n≠[45]:=by
 unfold itoa
 split
 ·intro h
  injection h with _ h
  exact nJ _ h
 ·intro h
  have:=nb n.toNat 45 (by rw[h];simp)
  have e:(45:UInt8).toNat=45:=rfl
  omega
theorem Dz:∀ {l:List Int},rM l→(l.map itoa).mapM iG=some l
 | [],_=>rfl
 | n::l,h=>by
  rw[List.map_cons,List.mapM_cons,Dq (h n (by simp)),Dz (fun m hm=>h m (by simp[hm]))];rfl
theorem vZ {l:List Int}(h:rM l):sR (lstB l)=(l,true):=by
 unfold lstB
 by_cases h0:l=[]
 ·rw[if_pos h0,h0];rfl
 ·rw[if_neg h0]
  unfold sR
  have hne:Lib.join (l.map itoa) [44]≠[45]:=by
   cases l with
   | nil=>exact absurd rfl h0
   | cons n r=>
    rw[List.map_cons,Lib.join_cons]
    intro he
    cases r with
    | nil=>simp[joinTail]at he;exact KE he
    | cons m r=>
     have:=congrArg List.length he
     have h1:=La n
     cases hi:itoa n with
     | nil=>exact absurd hi h1
     | cons a b=>
      rw[hi]at this
      simp[joinTail]at this
  rw[if_neg hne,AI _ (by simpa using h0) (by
   intro x hx c hc
   obtain⟨n,_,rfl⟩:=List.mem_map.1 hx
   exact Jx hc 44 (by decide)),Dz h]
theorem Of {e:GEntry}(h:RngE e):parE (entB e)=(e,true):=by
 unfold parE entB
 rw[AI _ (by simp[entL]) (by
  intro x hx c hc
  unfold entL at hx
  simp only[List.mem_cons,List.not_mem_nil,or_false]at hx
  have e32:(32:UInt8).toNat=32:=rfl
  rcases hx with rfl|rfl|rfl|rfl
  ·exact Jx hc 32 (by decide)
  ·rintro rfl;have:=rD hc;omega
  ·rintro rfl;have:=rD hc;omega
  ·rintro rfl;have:=rD hc;omega)]
 unfold entL
 show parW [itoa e.now,lstB e.ties,lstB e.nodes,lstB e.values]=_
 simp only[parW,Dq h.now,vZ h.ties,vZ h.nodes,vZ h.values,if_true,Bool.and_self]
theorem Og {e:GEntry}:∀ c,c∈entB e→(fun c:UInt8=>c == 10) c=false:=by
 intro c hc
 have:=PB hc
 rw[beq_eq_false_iff_ne]
 rintro rfl
 have e10:(10:UInt8).toNat=10:=rfl
 omega
theorem AM:∀ (es:List GEntry) (rest:List UInt8),(∀ e,e∈es→RngE e)→(∀ c,c∈rest→(fun c:UInt8=>c == 10) c=false)→lj ((es.map (fun e=>entB e++[10])).flatten++rest)=es
 | [],rest,_,hr=>by
  unfold lj
  rw[List.map_nil,List.flatten_nil,List.nil_append,Ds hr];rfl
 | e::es,rest,h,hr=>by
  have ih:=AM es rest (fun x hx=>h x (by simp[hx])) hr
  unfold lj at ih ⊢
  rw[List.map_cons,List.flatten_cons]
  have e1:entB e++[10]++(es.map (fun e=>entB e++[10])).flatten++rest=entB e++10::((es.map (fun e=>entB e++[10])).flatten++rest):=by simp
  rw[e1,wx Og (by rfl)]
  conv=>lhs;unfold goJ
  rw[if_neg (nK _ _),Of (h e (by simp))]
  simp only[if_true]
  rw[ih]
end Go.Proofs.Qe
set_option maxRecDepth 100000
set_option maxHeartbeats 1000000
namespace Go.Proofs.Qe
open Go Go.Lib
theorem MF {n:ByteArray}(h:oY n=true):1≤(bs n).length∧(bs n).length≤8∧∀ c,c∈bs n→97≤c.toNat∧c.toNat≤122∨48≤c.toNat∧c.toNat≤57:=by
 have h':=of_decide_eq_true h
 have hz:=kv n
 refine⟨by omega,by omega,fun c hc=>?_⟩
 obtain⟨i,hi,rfl⟩:=List.mem_iff_getElem.1 hc
 have h3:=h'.1 i (by omega)
 rw[sf (by omega)]at h3
 have e:n[i]'(by omega)=(bs n)[i]:=rfl
 rw[e]at h3
 have:=of_decide_eq_true h3
 omega
def nmB (s:GShow)(k:Int):ByteArray:=((s.nodes[k.toNat]?).map (fun n=>n.name)).getD (ByteArray.mk #[])
theorem Oh {s:GShow}{k:Int}(h0:0≤k)(h1:k<s.nodes.length):∃ n,getI s.nodes k=some n∧n.name=nmB s k∧n∈s.nodes:=by
 refine⟨s.nodes[k.toNat]'(by omega),?_,?_,List.getElem_mem _⟩
 ·unfold getI
  rw[if_pos h0,List.getElem?_eq_getElem (by omega)]
 ·unfold nmB
  rw[List.getElem?_eq_getElem (by omega)];rfl
theorem Oi {s:GShow}(h:aI s=true){n:GNode}(hn:n∈s.nodes):oY n.name=true:=by
 unfold aI fN at h
 simp only[Bool.and_eq_true,decide_eq_true_eq]at h
 obtain⟨i,hi,rfl⟩:=List.mem_iff_getElem.1 hn
 have hp:=h.1.1.1.1.2 i hi
 unfold qX lV at hp
 rw[List.getElem?_eq_getElem hi]at hp
 simp only[Option.any_some,Bool.and_eq_true]at hp
 exact hp.1.1.1
theorem Oj {s:GShow}(h:aI s=true){k:Int}(h0:0≤k)(h1:k<s.nodes.length):1≤(bs (nmB s k)).length∧(bs (nmB s k)).length≤8∧∀ c,c∈bs (nmB s k)→97≤c.toNat∧c.toNat≤122∨48≤c.toNat∧c.toNat≤57:=by
 obtain⟨n,_,e,hn⟩:=Oh h0 h1
 rw[← e]
 exact MF (Oi h hn)
end Go.Proofs.Qe
set_option maxRecDepth 100000
set_option maxHeartbeats 1000000
namespace Go.Proofs.Qe
open Go Go.Lib
def tmW (s:GShow)(ts:List Int)(i:Nat):ByteArray:=nmB s i++ByteArray.mk #[64]++ofL (itoa (tm ts i))
def tmL (s:GShow)(ts:List Int):Nat→List ByteArray
 | 0=>[]
 | i+1=>tmL s ts i++(if tm ts i=-1 then [] else [tmW s ts i])
theorem Ld (s:GShow)(ts:List Int):∀ i,(tmL s ts i).length≤i
 | 0=>Nat.le_refl _
 | i+1=>by
  have:=Ld s ts i
  unfold tmL
  rw[List.length_append]
  split <;> simp <;> omega
theorem Le {s:GShow}{ts:List Int}:∀ {i:Nat} {w},w∈tmL s ts i→∃ j,j<i∧w=tmW s ts j
 | 0,w,h=>by cases h
 | i+1,w,h=>by
  unfold tmL at h
  rcases List.mem_append.1 h with h|h
  ·obtain⟨j,hj,e⟩:=Le h
   exact⟨j,by omega,e⟩
  ·split at h
   ·cases h
   ·simp only[List.mem_singleton]at h
    exact⟨i,by omega,h⟩
structure TmR (s:GShow) (ts:List Int):Prop where
 ok:aI s=true
 len:ts.length=s.nodes.length
 all:∀ i:Nat,i<ts.length→i64 (tm ts i)
theorem TmR.name {s:GShow}{ts:List Int}(h:TmR s ts){i:Nat}(hi:i<ts.length):∃ n,getI s.nodes (i:Int)=some n∧n.name=nmB s i∧n.name.size≤8:=by
 have hl:=h.len
 obtain⟨n,a,b,_⟩:=Oh (s:=s) (k:=(i:Int)) (by omega) (by omega)
 refine⟨n,a,b,?_⟩
 rw[b,kv]
 exact(Oj h.ok (by omega) (by omega)).2.1
theorem TmR.word {s:GShow}{ts:List Int}(h:TmR s ts){i:Nat}(hi:i<ts.length):(bs (tmW s ts i)).length≤29:=by
 obtain⟨n,_,b,c⟩:=h.name hi
 have:=tO (h.all i hi)
 unfold tmW
 rw[FV,FV,mE,← b,List.length_append,List.length_append,← kv]
 have:(bs (ByteArray.mk #[64])).length=1:=rfl
 omega
theorem TmR.join {s:GShow}{ts:List Int}(h:TmR s ts):(Lib.join ((tmL s ts ts.length).map bs) (bs (ByteArray.mk #[32]))).length≤300:=by
 have h7:=(bZ h.ok).nodes
 have hl:=h.len
 have h1:=Ld s ts ts.length
 have:=Ba (B:=29) (bs (ByteArray.mk #[32])) ((tmL s ts ts.length).map bs) (by
  intro x hx
  obtain⟨w,hw,rfl⟩:=List.mem_map.1 hx
  obtain⟨j,hj,rfl⟩:=Le hw
  exact h.word hj)
 rw[List.length_map]at this
 have e:(bs (ByteArray.mk #[32])).length=1:=rfl
 rw[e]at this
 omega
structure FmR (s:GShow) (x:GState):Prop where
 tmr:TmR s x.times
 now:i64 x.now
 v3:x.values.length=3
 val:∀ i:Nat,i<x.values.length→-1≤tm x.values i∧tm x.values i≤1
theorem MG {s:GShow}{x:GState}(h:aB s x=true):FmR s x:=by
 have hr:=cD h
 have hh:=hr.right.hor
 have hl:=hr.len
 unfold aB at h
 simp only[Bool.and_eq_true,decide_eq_true_eq]at h
 obtain⟨v1,v2⟩:=aV h.1.1.2
 refine⟨⟨h.1.1.1.1.1,hl,fun i hi=>?_⟩,by unfold i64;omega,v1,fun i hi=>?_⟩
 ·have:=hr.all (i:Int) (by omega) (by omega)
  unfold i64;omega
 ·exact v2 _ (ND (by omega) (by omega))
end Go.Proofs.Qe
namespace Go.Proofs.Qe
open Go
end Go.Proofs.Qe
set_option maxRecDepth 100000
set_option maxHeartbeats 1000000
namespace Go.Proofs.Qe
open Go Go.Lib
noncomputable def DA (s:GShow)(t:List UInt8)(z:Bool):GDesk × Bool:=if (bp s (lj t)).2=true then (⟨s,(bp s (lj t)).1,z,lj t⟩,true) else (vc,false)
theorem Gt {s:GShow}{t:ByteArray}(z:Bool)(hf:FitS s)(ht:t.size≤1048576):kW s t z=some (DA s (bs t) z):=by
 have hl:(bs t).length≤1048576:=by rw[← kv];exact ht
 obtain⟨h1,h2⟩:=KD hl
 unfold kW DA
 rw[tT ht]
 simp only[obnd]
 rw[oa s _ hf h1 h2]
 simp only
 split
 ·rw[Aw s hf]
 ·rfl
theorem xQ {s:GShow}:∀ (log:List GEntry) (x:GState),aB s x=true→(aP s x log).2=true→∀ e,e∈log→∃ y,aB s y=true∧rB s y e
 | [],x,_,_,e,he=>by cases he
 | a::r,x,hx,h,e,he=>by
  unfold aP at h
  by_cases hs:(bO s x a).2=true
  ·rw[if_pos hs]at h
   rcases List.mem_cons.1 he with rfl|he
   ·refine⟨x,hx,?_⟩
    unfold bO at hs
    by_cases ho:rB s x e
    ·exact ho
    ·rw[if_neg ho]at hs;simp at hs
   ·exact xQ r _ (EG hx hs) h e he
  ·rw[if_neg hs]at h;simp at h
theorem KF {s:GShow}{log:List GEntry}(h:(bp s log).2=true):aI s=true:=by
 unfold bp at h
 split at h
 ·assumption
 ·simp at h
end Go.Proofs.Qe
set_option maxRecDepth 100000
set_option maxHeartbeats 1000000
namespace Go.Proofs.Qe
open Go Go.Lib
structure zb (e:GEntry):Prop where
 rng:RngE e
 t6:e.ties.length≤6
 n7:e.nodes.length≤7
 v3:e.values.length≤3
theorem KG {s:GShow}{log:List GEntry}(hs:aI s=true)(h:(bp s log).2=true):∀ e,e∈log→zb e:=by
 intro e hm
 unfold bp at h
 rw[if_pos hs]at h
 obtain⟨y,hy,e1,e2,e3,e4,e5⟩:=xQ log _ (tN hs) h e hm
 have hR:=bZ hs
 obtain⟨a1,a2,a3⟩:=ia hs e2
 obtain⟨d1,d2,d3⟩:=dc hR e4
 have hr:=MG hy
 have h14:=hR.ties
 have h7:=hR.nodes
 have hv:e.values.length≤3:=by
  have:=congrArg List.length e5
  rw[List.length_map]at this
  rw[this]
  unfold ay
  exact List.length_filter_le _ _
 refine⟨⟨by rw[e1];exact hr.now,fun k hk=>?_,fun k hk=>?_,fun k hk=>?_⟩,a2,d2,hv⟩
 ·obtain⟨i,hi,_,rfl⟩:=kY.1 (a3 k hk)
  unfold i64;omega
 ·obtain⟨i,hi,rfl,_,_⟩:=mZ (d3 k hk)
  unfold i64;omega
 ·obtain⟨_,q2,q3⟩:=xM e3 hk
  unfold i64;omega
theorem wa {l:List Int}(h:rM l){n:Nat}(hl:l.length≤n):(lstB l).length≤1+n*21:=by
 unfold lstB
 split
 ·simp
 ·have:=Ba (B:=20) [44] (l.map itoa) (by
   intro x hx
   obtain⟨n,hn,rfl⟩:=List.mem_map.1 hx
   exact tO (h n hn))
  rw[List.length_map]at this
  have e1:(20+[(44:UInt8)].length)=21:=rfl
  rw[e1]at this
  have:=Nat.mul_le_mul_right 21 hl
  omega
theorem zb.len {e:GEntry}(h:zb e):(entB e).length≤400:=by
 have h0:=tO h.rng.now
 have h1:=wa h.rng.ties h.t6
 have h2:=wa h.rng.nodes h.n7
 have h3:=wa h.rng.values h.v3
 rw[Lb]
 simp only[List.length_append,List.length_singleton]
 omega
def sS (log:List GEntry):List UInt8:=(log.map (fun e=>entB e++[10])).flatten
theorem xR:∀ {log:List GEntry},(∀ e,e∈log→zb e)→(sS log).length≤log.length*401
 | [],_=>Nat.zero_le _
 | e::log,h=>by
  have ih:=xR (log:=log) (fun x hx=>h x (by simp[hx]))
  have he:=(h e (by simp)).len
  show((entB e++[10])++sS log).length≤_
  rw[List.length_append,List.length_append,List.length_singleton,List.length_cons,Nat.succ_mul]
  omega
theorem MH (log:List GEntry):cO (log.map (fun e=>ofL (entB e)))=sS log:=by
 unfold cO sS
 rw[List.map_map]
 congr 1
theorem AN:∀ {log:List GEntry},(∀ e,e∈log→FitE e)→(∀ e,e∈log→zb e)→log.mapM ct=some (log.map (fun e=>ofL (entB e)))
 | [],_,_=>rfl
 | e::log,h1,h2=>by
  rw[List.mapM_cons,Be (h1 e (by simp)) (h2 e (by simp)).rng,AN (fun x hx=>h1 x (by simp[hx])) (fun x hx=>h2 x (by simp[hx]))];rfl
structure WM (d:GDesk):Prop where
 state:aB d.show_ d.state=true
 shw:aI d.show_=true
 log:d.log.length≤11
 fine:(bp d.show_ d.log).2=true
 same:(bp d.show_ d.log).1=d.state
 jour:∀ e,e∈d.log→zb e
theorem tU {d:GDesk}(h:bP d=true):WM d:=by
 unfold bP at h
 simp only[Bool.and_eq_true,decide_eq_true_eq]at h
 obtain⟨⟨⟨h1,h2⟩,h3⟩,h4⟩:=h
 have hs:=KF h3
 have hh:=(bZ hs).hor
 have h1':=h1
 unfold aB at h1'
 simp only[Bool.and_eq_true,decide_eq_true_eq]at h1'
 exact⟨h1,hs,by omega,h3,h4,KG hs h3⟩
noncomputable def DB (d:GDesk):ByteArray:=if bP d=true then ofL (sS d.log) else ByteArray.mk #[]
theorem zh {d:GDesk}(hf:FitD d):gH d=some (DB d):=by
 unfold gH DB
 rw[uC d hf]
 simp only[obnd]
 by_cases h:bP d=true
 ·have r:=tU h
  have hl:=xR r.jour
  have h11:=r.log
  rw[if_pos h,if_pos h,AN hf.entry r.jour]
  simp only[Ik]
  rw[MH,if_pos (by omega)]
 ·rw[if_neg h,if_neg h]
theorem AO {s:GShow}:∀ (log:List GEntry) (x:GState) (k:Nat),(aP s x log).2=true→(aP s x (log.take k)).2=true
 | _,_,0,_=>rfl
 | [],_,_+1,_=>rfl
 | e::r,x,k+1,h=>by
  rw[List.take_succ_cons]
  unfold aP at h ⊢
  by_cases hs:(bO s x e).2=true
  ·rw[if_pos hs]at h ⊢
   exact AO r _ k h
  ·rw[if_neg hs]at h;simp at h
theorem Gu (code:List Int):kX code=some true:=by
 unfold kX
 by_cases h0:1048576<((code.length:Nat):Int)
 ·rw[if_pos h0]
 rw[if_neg h0]
 obtain⟨d,hd,hok,hf⟩:=Kt code (by omega)
 have r:=tU hok
 have h11:=r.log
 have hl:=xR r.jour
 rw[hd]
 simp only[obnd]
 rw[zh hf]
 have hw:DB d=ofL (sS d.log):=by unfold DB;rw[if_pos hok]
 rw[hw]
 simp only
 have hsz:(ofL (sS d.log)).size≤1048576:=by rw[AY];omega
 have hj:lj (sS d.log)=d.log:=by
  have:=AM d.log [] (fun e he=>(r.jour e he).rng) (fun c hc=>by cases hc)
  rw[List.append_nil]at this
  exact this
 rw[tT hsz,mE,hj]
 simp only
 rw[Gt d.lazy hf.sh hsz,mE]
 have ht:DA d.show_ (sS d.log) d.lazy=(d,true):=by
  unfold DA
  rw[hj,if_pos r.fine,r.same]
 rw[ht]
 simp only[if_true]
 rw[ry d d hf]
 simp only[decide_true,if_true]
 obtain⟨c,hc⟩:=Gq code 40 (by omega) (by omega) (by omega) hf.sh r.shw
 rw[hc]
 simp only
 rw[Jf d c hf]
 simp only
 have hok2:=NU c hok
 obtain⟨hf2,_⟩:=Ps d c hf
 generalize (runR d c)=q at hok2 hf2 ⊢
 obtain⟨g,n⟩:=q
 simp only at hok2 hf2 ⊢
 have r2:=tU hok2
 rw[oa _ _ hf2.sh hf2.log hf2.entry]
 simp only
 have hp:∀ k,∃ y,cv g.show_ (g.log.take k)=some y∧y.2=true:=by
  intro k
  refine⟨_,oa _ _ hf2.sh (by have:=hf2.log;rw[List.length_take];omega) (fun e he=>hf2.entry e (List.mem_of_mem_take he)),?_⟩
  have hfi:=r2.fine
  unfold bp at hfi ⊢
  rw[if_pos r2.shw]at hfi ⊢
  exact AO _ _ k hfi
 have hend:cB (bp g.show_ g.log).1 g.state=some true:=by
  rw[qN _ _ (by rw[r2.same];exact hf2.st),r2.same,decide_eq_true rfl]
 by_cases hg:0<((g.log.length:Nat):Int)
 ·rw[if_pos hg]
  obtain⟨m,hm,hm0⟩:=Ku code 42 (by omega) (by omega) (by omega)
  rw[hm]
  simp only
  have t0:0≤Int.tmod m ((g.log.length:Nat):Int):=Int.tmod_nonneg _ hm0
  have t1:Int.tmod m ((g.log.length:Nat):Int)<((g.log.length:Nat):Int):=Int.tmod_lt_of_pos _ hg
  rw[ah (by omega),ah t0,ah (by omega)]
  obtain⟨y,hy,hy2⟩:=hp (Int.tmod m ((g.log.length:Nat):Int)).toNat
  rw[hy]
  simp only[if_true]
  rw[ry g g hf2]
  simp only[decide_true,if_true]
  rw[if_pos r2.fine,if_pos hy2,hend]
 ·rw[if_neg hg,ah (by omega)]
  obtain⟨y,hy,hy2⟩:=hp 0
  rw[hy]
  simp only[if_true]
  rw[ry g g hf2]
  simp only[decide_true,if_true]
  rw[if_pos r2.fine,if_pos hy2,hend]
end Go.Proofs.Qe
set_option maxRecDepth 100000
set_option maxHeartbeats 1000000
namespace Go.Proofs.Qe
open Go Go.Lib
end Go.Proofs.Qe
set_option maxRecDepth 100000
set_option maxHeartbeats 1000000
namespace Go.Proofs.Qe
open Go Go.Lib
end Go.Proofs.Qe
set_option maxRecDepth 100000
set_option maxHeartbeats 1000000
namespace Go.Proofs.Qe
open Go Go.Lib
end Go.Proofs.Qe
set_option maxRecDepth 100000
set_option maxHeartbeats 1000000
namespace Go.Proofs.Qe
open Go Go.Lib
end Go.Proofs.Qe
set_option maxRecDepth 100000
set_option maxHeartbeats 1000000
namespace Go.Proofs.Qe
open Go Go.Lib
end Go.Proofs.Qe
set_option maxRecDepth 100000
set_option maxHeartbeats 1000000
namespace Go.Proofs.Qe
open Go Go.Lib
end Go.Proofs.Qe
set_option maxRecDepth 100000
set_option maxHeartbeats 1000000
namespace Go.Proofs.Qe
open Go Go.Lib
end Go.Proofs.Qe
set_option maxRecDepth 100000
set_option maxHeartbeats 1000000
namespace Go.Proofs.Qe
open Go Go.Lib
end Go.Proofs.Qe
set_option maxRecDepth 100000
set_option maxHeartbeats 1000000
namespace Go.Proofs.Qe
open Go Go.Lib
end Go.Proofs.Qe
set_option maxRecDepth 100000
set_option maxHeartbeats 1000000
namespace Go.Proofs.Qe
open Go Go.Lib
def WN:GCue:=⟨ByteArray.mk #[],0,false,0,0,0,0,false,0,0,0⟩
def wb (t:aq)(k:Int):GCue:=(t.cues[k.toNat]?).getD WN
end Go.Proofs.Qe
set_option maxRecDepth 100000
set_option maxHeartbeats 1000000
namespace Go.Proofs.Qe
open Go Go.Lib
def WO (t:aq)(i k:Int):Bool:=decide ((wb t i).if_=0) || (decide ((wb t k).if_=0) || decide (¬ (wb t i).if_=0 - (wb t k).if_))
def dvP (t:aq)(i:Int)(k:Nat):Prop:=¬ (wb t i).device=0∧(wb t (k:Int)).device=(wb t i).device∧WO t (k:Int) i=true
instance (t:aq) (i:Int) (k:Nat):Decidable (dvP t i k):=by unfold dvP;exact inferInstance
end Go.Proofs.Qe
set_option maxRecDepth 100000
set_option maxHeartbeats 1000000
namespace Go.Proofs.Qe
open Go Go.Lib
end Go.Proofs.Qe
namespace Go.Proofs.Qe
namespace BF
structure G where
 n:Nat
 E:Nat
 fr:Nat→Nat
 to:Nat→Nat
 wt:Nat→Int
 hfr:∀ i,i<E→fr i<n
 hto:∀ i,i<E→to i<n
structure X where
 d:Nat→Int
 la:Nat→Nat
 kn:Nat→Bool
 t:Nat→Nat
def upd {α:Type}(f:Nat→α)(k:Nat)(v:α):Nat→α:=fun j=>if j=k then v else f j
def Rx (g:G)(x:X)(i:Nat):Prop:=x.kn (g.fr i)=true∧(x.kn (g.to i)=true→x.d (g.fr i)+g.wt i<x.d (g.to i))
instance (g:G) (x:X) (i:Nat):Decidable (Rx g x i):=by unfold Rx;exact inferInstance
def put (g:G)(s i:Nat)(x:X):X:=⟨upd x.d (g.to i) (x.d (g.fr i)+g.wt i),upd x.la (g.to i) i,upd x.kn (g.to i) true,upd x.t (g.to i) (s+1)⟩
def step (g:G)(s i:Nat)(x:X):X:=if Rx g x i then put g s i x else x
def run (g:G)(x0:X):Nat→X
 | 0=>x0
 | s+1=>step g s (s % g.E) (run g x0 s)
def pr (g:G)(x:X)(v:Nat):Nat:=g.fr (x.la v)
end BF
end Go.Proofs.Qe
set_option maxRecDepth 100000
set_option maxHeartbeats 1000000
namespace Go.Proofs.Qe
open Go Go.Lib
end Go.Proofs.Qe
set_option maxRecDepth 100000
set_option maxHeartbeats 1000000
namespace Go.Proofs.Qe
open Go Go.Lib
end Go.Proofs.Qe
set_option maxRecDepth 100000
set_option maxHeartbeats 1000000
namespace Go.Proofs.Qe
open Go Go.Lib
end Go.Proofs.Qe
set_option maxRecDepth 100000
set_option maxHeartbeats 1000000
namespace Go.Proofs.Qe
open Go Go.Lib
end Go.Proofs.Qe
set_option maxRecDepth 100000
set_option maxHeartbeats 1000000
namespace Go.Proofs.Qe
open Go Go.Lib
end Go.Proofs.Qe
