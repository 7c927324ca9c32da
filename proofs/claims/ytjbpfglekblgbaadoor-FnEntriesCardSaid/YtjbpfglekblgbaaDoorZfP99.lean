/- Entries of a journal: written and read. Own work. -/
import Derived.Test.YtjbpfglekblgbaaDoorZfP49
import Derived.Test.YtjbpfglekblgbaaDoorZfP24
set_option linter.all false
set_option maxRecDepth 100000
set_option maxHeartbeats 1000000
namespace Go.Proofs.Qf
open Go Go.Lib
theorem lT (a b:List UInt8):ofL a++ofL b=ofL (a++b):=sa (by rw [iC,cd,cd,cd])
def cN (l:List Int):Prop:=∀ n,n∈l→i64 n
def lstB (l:List Int):List UInt8:=if l=[] then [45] else Lib.join (l.map itoa) [44]
def db (l:List Int):List ByteArray:=l.map (fun n=>ofL (itoa n))
theorem km (l:List Int):(db l).map bs=l.map itoa:=by
 unfold db
 rw [List.map_map]
 exact List.map_congr_left (fun n _=>cd _)
theorem iF (l:List Int):(db l).length=l.length:=by simp [db]
theorem lU {l:List Int}(h:cN l)(hl:l.length≤2097152)(sep:List UInt8)(hs:sep.length≤4):(Lib.join ((db l).map bs) sep).length≤50331648:=by
 rw [km]
 have:=kk (B:=20) sep (l.map itoa) (by
  intro x hx
  obtain ⟨n,hn,rfl⟩:=List.mem_map.1 hx
  exact fQ (h n hn))
 rw [List.length_map] at this
 have h2:l.length*(20+sep.length)≤2097152*24:=Nat.mul_le_mul hl (by omega)
 omega
theorem ko {l:List Int}(h:cN l)(hl:l.length≤2097152):(lstB l).length≤50331648:=by
 unfold lstB
 split
 ·simp
 ·have:=lU h hl [44] (by simp)
  rwa [km] at this
theorem qT {l:List Int}(h:cN l)(hl:l.length≤2097152)(body:Int × List ByteArray→Option (Step (Int × List ByteArray) (List ByteArray)))
  (h1:∀ i (hi:i<l.length) out,body ((i:Int),out)=(chk ((out.length+1)*16≤140737488355328) <| chk (out.length+1≤9223372036854775807) <| some (.next (IntKind.wrap .i64 ((i:Int)+1),out++[ofL (itoa l[i])]))))
  (h2:∀ out,body ((l.length:Int),out)=some (.done out)):bf body (0,[])=some (db l):=by
 have key:bf body (((0:Nat):Int),db (l.take 0))=some (db l):=by
  refine kg l.length (fun i=>((i:Int),db (l.take i))) ?_ ?_
  ·intro i hi
   have e:(db (l.take i)).length=i:=by rw [iF,List.length_take];omega
   rw [h1 i hi,e,aO (by omega),aO (by omega),wr (by omega) (by omega)]
   congr 3
   rw [fP hi]
   unfold db
   rw [List.map_append];rfl
  ·rw [h2,List.take_length]
 exact key
theorem fh {l:List Int}(h:cN l)(hl:l.length≤2097152):bq l=some (ofL (lstB l)):=by
 unfold bq
 rw [qT h hl _ ?_ ?_]
 ·simp only [obnd]
  unfold cY
  rw [iF]
  unfold lstB
  by_cases h0:l=[]
  ·subst h0
   rfl
  ·have hn:¬ ((l.length:Nat):Int)=0:=by
    intro he
    exact h0 (List.length_eq_zero_iff.1 (by omega))
   have:=lU h hl [44] (by simp)
   rw [if_neg hn,ny (db l) (ByteArray.mk #[44]) (by rw [iF];omega) (by
    show (Lib.join ((db l).map bs) [44]).length≤_
    omega),if_neg h0]
   simp only [obnd]
   unfold qR
   rw [km];rfl
 ·intro i hi out
  unfold co
  simp only
  rw [if_pos (by omega),jb hi]
  simp only [obnd]
  rw [gD (h _ (List.getElem_mem hi))]
 ·intro out
  unfold co
  simp only
  rw [if_neg (by omega)]
structure RngE (e:GEntry):Prop where
 now:i64 e.now
 ties:cN e.ties
 nodes:cN e.nodes
 values:cN e.values
def entL (e:GEntry):List (List UInt8):=[itoa e.now,lstB e.ties,lstB e.nodes,lstB e.values]
def entB (e:GEntry):List UInt8:=Lib.join (entL e) [32]
theorem pV (e:GEntry):entB e=itoa e.now++[32]++lstB e.ties++[32]++lstB e.nodes++[32]++lstB e.values:=by
 unfold entB entL
 rw [Lib.join_cons]
 simp [joinTail]
theorem tu {e:GEntry}(hf:FitE e)(hr:RngE e):(entB e).length≤268435456:=by
 have:=fQ hr.now
 have h1:=hf.ties
 have h2:=hf.nodes
 have h3:=hf.values
 have:=ko hr.ties (by omega)
 have:=ko hr.nodes (by omega)
 have:=ko hr.values (by omega)
 rw [pV]
 simp only [List.length_append,List.length_singleton]
 omega
theorem fR {e:GEntry}(hf:FitE e)(hr:RngE e):bj e=some (ofL (entB e)):=by
 have h1:=hf.ties
 have h2:=hf.nodes
 have h3:=hf.values
 unfold bj
 rw [gD hr.now]
 simp only [obnd]
 rw [fh hr.ties (by omega)]
 simp only
 rw [fh hr.nodes (by omega)]
 simp only
 rw [fh hr.values (by omega)]
 simp only
 have hl:=tu hf hr
 have e1:[ofL (itoa e.now),ofL (lstB e.ties),ofL (lstB e.nodes),ofL (lstB e.values)].map bs=entL e:=by
  simp only [List.map_cons,List.map_nil,cd];rfl
 rw [ny _ _ (by simp) (by
  rw [e1]
  show (Lib.join (entL e) [32]).length≤_
  unfold entB at hl
  omega)]
 simp only
 unfold qR
 rw [e1];rfl
def gT (l:List UInt8):List Int × Bool:=if l=[45] then ([],true) else match (ar (fun c=>c == 44) l).mapM ck with
 | some r=>(r,true)
 | none=>([],false)
theorem tv (c x:UInt8):sepB (ByteArray.mk #[c]) x=(x == c):=by
 unfold sepB
 show List.contains [c] x=_
 rw [List.contains_cons]
 simp only [List.contains_nil,Bool.or_false]
theorem lV (s:ByteArray)(c:UInt8):iE s (ByteArray.mk #[c])=(ar (fun x=>x == c) (bs s)).map ofL:=by
 unfold iE
 congr 1
 congr 1
 funext x
 exact tv c x
theorem sg {α β:Type}{f:α→Option β}{l:List α}{i:Nat}(hi:i<l.length){r:List β}(h:(l.take i).mapM f=some r):(l.take (i+1)).mapM f=(f l[i]).map (fun y=>r++[y]):=by
 rw [fP hi,List.mapM_append,h]
 cases hf:f l[i] <;> simp [hf]
theorem si {α β:Type}{f:α→Option β}{l:List α}{i:Nat}(hi:i<l.length)(h:f l[i]=none):l.mapM f=none:=by
 have e:l=l.take i++l[i]::l.drop (i+1):=by rw [← List.drop_eq_getElem_cons hi,List.take_append_drop]
 rw [e,List.mapM_append,List.mapM_cons,h]
 cases (l.take i).mapM f <;> rfl
theorem lW (l:List UInt8):bR (ofL l)=match ck l with | some v=>(v,true) | none=>(0,false):=by
 unfold bR
 rw [cd]
 cases ck l <;> rfl
theorem oY {ws:List (List UInt8)}(hw:ws.length≤2097152)(body:Int × List Int→Option (Step (Int × List Int) (Sum (List Int) (List Int × Bool))))
  (h1:∀ i (hi:i<ws.length) out,body ((i:Int),out)=if (bR (ofL ws[i])).2=true then
    (chk ((out.length+1)*8≤140737488355328) <| chk (out.length+1≤9223372036854775807) <| some (.next (IntKind.wrap .i64 ((i:Int)+1),out++[(bR (ofL ws[i])).1])))
   else some (.done (.inr ([],false))))
  (h2:∀ out,body ((ws.length:Int),out)=some (.done (.inl out))) :
  bf body (0,[])=some (match ws.mapM ck with | some r=>.inl r | none=>.inr ([],false)):=by
 have key:∃ q,bf body (0,[])=some q∧q=(match ws.mapM ck with | some r=>.inl r | none=>.inr ([],false)):=by
  refine eW ws.length (fun i st=>st.1=(i:Int)∧(ws.take i).mapM ck=some st.2∧st.2.length=i) _ ⟨rfl,rfl,rfl⟩ ?_ ?_
  ·rintro i ⟨j,out⟩ hi ⟨rfl,hm,hl⟩
   simp only at hm hl
   rw [h1 i hi,lW]
   cases hn:ck ws[i] with
   | none=>
    simp only [Bool.false_eq_true,if_false]
    rw [si hi hn]
    exact .inr ⟨_,rfl,rfl⟩
   | some v=>
    simp only [if_true]
    rw [aO (by omega),aO (by omega),wr (by omega) (by omega)]
    refine .inl ⟨_,rfl,rfl,?_,?_⟩
    ·rw [sg hi hm,hn];rfl
    ·simp only [List.length_append,List.length_singleton];omega
  ·rintro ⟨j,out⟩ ⟨rfl,hm,hl⟩
   simp only at hm
   rw [h2]
   rw [List.take_length] at hm
   rw [hm]
   exact ⟨_,rfl,rfl⟩
 obtain ⟨q,hq,rfl⟩:=key
 exact hq
theorem kd {s:ByteArray}(hs:s.size≤1048576)(c:UInt8):((ar (fun x=>x == c) (bs s))).length≤2097152∧∀ w,w∈ar (fun x=>x == c) (bs s)→(ofL w).size≤1048576:=by
 have h:=lP (fun x=>x == c) (bs s)
 rw [← cG] at h
 refine ⟨by omega,?_⟩
 intro w hw
 have:=mM _ _ hw
 rw [← cG] at this
 rw [dH];omega
theorem fi {s:ByteArray}(hs:s.size≤1048576):br s=some (gT (bs s)):=by
 obtain ⟨w1,w2⟩:=kd hs 44
 unfold br gT
 have e45:s=ByteArray.mk #[45]↔bs s=[45]:=⟨fun h=>by rw [h];rfl,fun h=>sa h⟩
 by_cases h45:s=ByteArray.mk #[45]
 ·rw [if_pos h45,if_pos (e45.1 h45)]
 ·rw [if_neg h45,if_neg (fun h=>h45 (e45.2 h)),hY s _ (by omega),lV]
  simp only [obnd]
  generalize ar (fun c=>c == 44) (bs s)=ws at *
  rw [oY (ws:=ws) w1 _ ?_ ?_]
  ·cases ws.mapM ck <;> rfl
  ·intro i hi out
   unfold cp
   simp only
   rw [if_pos (by rw [List.length_map];omega),jb (by rw [List.length_map];exact hi)]
   simp only [obnd]
   rw [List.getElem_map,hP _ (by have:=w2 _ (List.getElem_mem hi);omega)]
  ·intro out
   unfold cp
   simp only
   rw [if_neg (by rw [List.length_map];omega)]
def noE:GEntry:=⟨0,[],[],[]⟩
def parW:List (List UInt8)→GEntry × Bool
 | [a,b,c,d]=>match ck a,gT b,gT c,gT d with
  | some n,(x,true),(y,true),(z,true)=>(⟨n,x,y,z⟩,true)
  | _,_,_,_=>(noE,false)
 | _=>(noE,false)
def parE (l:List UInt8):GEntry × Bool:=parW (ar (fun c=>c == 32) l)
theorem four {α:Type}{l:List α}(h:l.length=4):∃ a b c d,l=[a,b,c,d]:=by
 match l,h with
 | [a,b,c,d],_=>exact ⟨a,b,c,d,rfl⟩
theorem uH {l:List (List UInt8)}(h:l.length≠4):parW l=(noE,false):=by
 match l,h with
 | [],_=>rfl
 | [_],_=>rfl
 | [_,_],_=>rfl
 | [_,_,_],_=>rfl
 | [_,_,_,_],h=>exact absurd rfl h
 | _::_::_::_::_::_,_=>rfl
theorem sj (a:List UInt8)(b c d:List Int × Bool) :
  (if (bR (ofL a)).2=true then
   if b.2=true then
    if c.2=true then
     if d.2=true then
      some ((GEntry.mk (bR (ofL a)).1 b.1 c.1 d.1),true)
     else
      some ((GEntry.mk 0 ([]) ([]) ([])),false)
    else
     some ((GEntry.mk 0 ([]) ([]) ([])),false)
   else
    some ((GEntry.mk 0 ([]) ([]) ([])),false)
  else
   some ((GEntry.mk 0 ([]) ([]) ([])),false))=some (match ck a,b,c,d with
  | some n,(x,true),(y,true),(z,true)=>((⟨n,x,y,z⟩:GEntry),true)
  | _,_,_,_=>(noE,false)):=by
 rw [lW]
 obtain ⟨b1,b2⟩:=b
 obtain ⟨c1,c2⟩:=c
 obtain ⟨d1,d2⟩:=d
 cases ck a <;> cases b2 <;> cases c2 <;> cases d2 <;> rfl
theorem gi {s:ByteArray}(hs:s.size≤1048576):bu s=some (parE (bs s)):=by
 obtain ⟨w1,w2⟩:=kd hs 32
 unfold bu parE
 rw [hY s _ (by omega),lV]
 simp only [obnd]
 generalize ar (fun c=>c == 32) (bs s)=ws at *
 rw [List.length_map]
 by_cases h4:ws.length=4
 ·obtain ⟨a,b,c,d,rfl⟩:=four h4
  rw [if_pos (by rfl)]
  have ha:=w2 a (by simp)
  have hb:=w2 b (by simp)
  have hc:=w2 c (by simp)
  have hd:=w2 d (by simp)
  have g0:getI ([a,b,c,d].map ofL) 0=some (ofL a):=rfl
  have g1:getI ([a,b,c,d].map ofL) 1=some (ofL b):=rfl
  have g2:getI ([a,b,c,d].map ofL) 2=some (ofL c):=rfl
  have g3:getI ([a,b,c,d].map ofL) 3=some (ofL d):=rfl
  rw [g0]
  simp only
  rw [hP _ (by omega),g1]
  simp only
  rw [fi hb,g2]
  simp only
  rw [fi hc,g3]
  simp only
  rw [fi hd]
  simp only [cd]
  exact sj a _ _ _
 ·rw [if_neg (by omega),uH h4];rfl
end Go.Proofs.Qf
set_option maxRecDepth 100000
set_option maxHeartbeats 1000000
namespace Go.Proofs.Qf
open Go Go.Lib
def goJ:List (List UInt8)→List GEntry
 | []=>[]
 | w::r=>if r=[] then [] else if (parE w).2=true then (parE w).1::goJ r else []
def ev (l:List UInt8):List GEntry:=goJ (ar (fun c=>c == 10) l)
theorem kq {t:ByteArray}(hs:t.size≤1048576):bN t=some (ev (bs t),((ev (bs t)).length:Int)):=by
 have hsz:=cG t
 unfold bN
 have key:∃ q,bf bQ (t,[])=some q∧q=ev (bs t):=by
  refine eW ((bs t).length+1) (fun i st=>(bs st.1).length+i≤(bs t).length∧st.2.length=i∧st.2++ev (bs st.1)=ev (bs t)) _ ⟨Nat.le_refl _,rfl,rfl⟩ ?_ ?_
  ·rintro i ⟨s,out⟩ hi ⟨h1,h2,h3⟩
   simp only at h1 h2 h3
   have hz:=cG s
   unfold bQ
   simp only
   unfold dF xCut
   rw [if_pos (by omega)]
   simp only [obnd]
   have e10:bs (ByteArray.mk #[10])=[10]:=rfl
   rw [e10]
   obtain ⟨c1,c2,c3,c4⟩|⟨c1,c2⟩:=uA (bs s) 10
   ·rw [if_pos c1,gi (by rw [dH];omega),cd]
    simp only
    unfold ev at h3
    rw [c2] at h3
    conv at h3=>lhs;unfold goJ
    rw [if_neg (dV _ _)] at h3
    cases hp:(parE (Lib.cut (bs s) [10]).1).2
    ·rw [hp] at h3
     simp only [Bool.false_eq_true,if_false] at h3 ⊢
     rw [List.append_nil] at h3
     exact .inr ⟨_,rfl,h3⟩
    ·rw [hp] at h3
     simp only [if_true] at h3 ⊢
     rw [aO (by omega),aO (by omega)]
     refine .inl ⟨_,rfl,?_,?_,?_⟩
     ·simp only;rw [cd];omega
     ·simp only [List.length_append,List.length_singleton];omega
     ·simp only
      rw [cd,List.append_assoc]
      exact h3
   ·rw [c1]
    simp only [Bool.false_eq_true,if_false]
    unfold ev at h3
    rw [c2] at h3
    conv at h3=>lhs;unfold goJ
    rw [if_pos rfl,List.append_nil] at h3
    exact .inr ⟨_,rfl,h3⟩
  ·rintro ⟨s,out⟩ ⟨h1,_,_⟩
   simp only at h1
   omega
 obtain ⟨q,hq,rfl⟩:=key
 rw [hq]
 simp only [obnd]
theorem oZ {n:Int}{c:UInt8}(h:c∈itoa n)(x:UInt8)(hx:x.toNat=10∨x.toNat=32∨x.toNat=44):c≠x:=by
 rintro rfl
 have:=kj h
 omega
theorem pd {sep:List UInt8}{xs:List (List UInt8)}{c:UInt8}(h:c∈Lib.join xs sep):(∃ x,x∈xs∧c∈x)∨c∈sep:=by
 cases xs with
 | nil=>cases h
 | cons x r=>
  rw [Lib.join_cons] at h
  rcases List.mem_append.1 h with h | h
  ·exact .inl ⟨x,by simp,h⟩
  ·unfold joinTail at h
   rw [List.mem_flatten] at h
   obtain ⟨l,hl,hc⟩:=h
   obtain ⟨y,hy,rfl⟩:=List.mem_map.1 hl
   rcases List.mem_append.1 hc with hc | hc
   ·exact .inr hc
   ·exact .inl ⟨y,by simp [hy],hc⟩
theorem eF {l:List Int}{c:UInt8}(h:c∈lstB l):c.toNat=45∨c.toNat=44∨48≤c.toNat∧c.toNat≤57:=by
 unfold lstB at h
 split at h
 ·simp only [List.mem_singleton] at h
  subst h;exact .inl rfl
 ·rcases pd h with ⟨x,hx,hc⟩ | hc
  ·obtain ⟨n,_,rfl⟩:=List.mem_map.1 hx
   have:=kj hc
   omega
  ·simp only [List.mem_singleton] at hc
   subst hc;exact .inr (.inl rfl)
theorem tw {e:GEntry}{c:UInt8}(h:c∈entB e):c.toNat=32∨c.toNat=45∨c.toNat=44∨48≤c.toNat∧c.toNat≤57:=by
 unfold entB entL at h
 rcases pd h with ⟨x,hx,hc⟩ | hc
 ·simp only [List.mem_cons,List.not_mem_nil,or_false] at hx
  rcases hx with rfl | rfl | rfl | rfl
  ·have:=kj hc;omega
  ·have:=eF hc;omega
  ·have:=eF hc;omega
  ·have:=eF hc;omega
 ·simp only [List.mem_singleton] at hc
  subst hc;exact .inl rfl
theorem pK {n:Int}:itoa n≠[45]:=by
 unfold itoa
 split
 ·intro h
  injection h with _ h
  exact dj _ h
 ·intro h
  have:=da n.toNat 45 (by rw [h];simp)
  have e:(45:UInt8).toNat=45:=rfl
  omega
theorem lX:∀ {l:List Int},cN l→(l.map itoa).mapM ck=some l
 | [],_=>rfl
 | n::l,h=>by
  rw [List.map_cons,List.mapM_cons,lO (h n (by simp)),lX (fun m hm=>h m (by simp [hm]))];rfl
theorem gU {l:List Int}(h:cN l):gT (lstB l)=(l,true):=by
 unfold lstB
 by_cases h0:l=[]
 ·rw [if_pos h0,h0];rfl
 ·rw [if_neg h0]
  unfold gT
  have hne:Lib.join (l.map itoa) [44]≠[45]:=by
   cases l with
   | nil=>exact absurd rfl h0
   | cons n r=>
    rw [List.map_cons,Lib.join_cons]
    intro he
    cases r with
    | nil=>simp [joinTail] at he;exact pK he
    | cons m r=>
     have:=congrArg List.length he
     have h1:=uz n
     cases hi:itoa n with
     | nil=>exact absurd hi h1
     | cons a b=>
      rw [hi] at this
      simp [joinTail] at this
  rw [if_neg hne,kc _ (by simpa using h0) (by
   intro x hx c hc
   obtain ⟨n,_,rfl⟩:=List.mem_map.1 hx
   exact oZ hc 44 (by decide)),lX h]
theorem nz {e:GEntry}(h:RngE e):parE (entB e)=(e,true):=by
 unfold parE entB
 rw [kc _ (by simp [entL]) (by
  intro x hx c hc
  unfold entL at hx
  simp only [List.mem_cons,List.not_mem_nil,or_false] at hx
  have e32:(32:UInt8).toNat=32:=rfl
  rcases hx with rfl | rfl | rfl | rfl
  ·exact oZ hc 32 (by decide)
  ·rintro rfl;have:=eF hc;omega
  ·rintro rfl;have:=eF hc;omega
  ·rintro rfl;have:=eF hc;omega)]
 unfold entL
 show parW [itoa e.now,lstB e.ties,lstB e.nodes,lstB e.values]=_
 simp only [parW,lO h.now,gU h.ties,gU h.nodes,gU h.values,if_true,Bool.and_self]
theorem nD {e:GEntry}:∀ c,c∈entB e→(fun c:UInt8=>c == 10) c=false:=by
 intro c hc
 have:=tw hc
 rw [beq_eq_false_iff_ne]
 rintro rfl
 have e10:(10:UInt8).toNat=10:=rfl
 omega
theorem ke:∀ (es:List GEntry) (rest:List UInt8),(∀ e,e∈es→RngE e)→(∀ c,c∈rest→(fun c:UInt8=>c == 10) c=false)→ev ((es.map (fun e=>entB e++[10])).flatten++rest)=es
 | [],rest,_,hr=>by
  unfold ev
  rw [List.map_nil,List.flatten_nil,List.nil_append,lR hr];rfl
 | e::es,rest,h,hr=>by
  have ih:=ke es rest (fun x hx=>h x (by simp [hx])) hr
  unfold ev at ih ⊢
  rw [List.map_cons,List.flatten_cons]
  have e1:entB e++[10]++(es.map (fun e=>entB e++[10])).flatten++rest=entB e++10::((es.map (fun e=>entB e++[10])).flatten++rest):=by simp
  rw [e1,hU nD (by rfl)]
  conv=>lhs;unfold goJ
  rw [if_neg (dV _ _),nz (h e (by simp))]
  simp only [if_true]
  rw [ih]
theorem kr:cN []:=fun n hn=>by cases hn
theorem pf (code:List Int)(h:code.length≤1048576):∃ e,ca code=some e∧RngE e∧e.ties.length≤10∧e.nodes.length≤10∧e.values.length≤10:=by
 unfold ca
 obtain ⟨c,ec,hc⟩:=rZ code h
 rw [ec]
 simp only [obnd]
 unfold cZ
 obtain ⟨r1,e1,a1,b1,c1⟩:=dz hc 5 (by omega)
 have b1':=b1 (by omega)
 rw [e1]
 simp only [obnd]
 obtain ⟨r2,e2,a2,b2,c2⟩:=dz c1 3 (by omega)
 have b2':=b2 (by omega)
 rw [e2]
 simp only
 have key:∃ q,bf (bM r1.1) (r2.1,r2.2.b,r2.2.i,r2.2.h,[],[])=some q∧(Cur (GL01Cur.mk q.1 q.2.1 q.2.2.1)∧cN q.2.2.2.1∧cN q.2.2.2.2∧q.2.2.2.1.length≤10∧q.2.2.2.2.length≤10):=by
  refine eW r2.1.toNat (fun i st=>st.1=r2.1 - (i:Int)∧Cur (GL01Cur.mk st.2.1 st.2.2.1 st.2.2.2.1)∧cN st.2.2.2.2.1∧cN st.2.2.2.2.2∧st.2.2.2.2.1.length=i∧st.2.2.2.2.2.length=i) _ ⟨by simp,c2,kr,kr,rfl,rfl⟩ ?_ ?_
  ·rintro i ⟨n,v0,v1,v2,x,y⟩ hi ⟨h1,h2,h3,h4,h5,h6⟩
   simp only at h1 h2 h3 h4 h5 h6
   unfold bM
   simp only
   rw [if_pos (by omega)]
   obtain ⟨r3,e3,a3,b3,c3⟩:=dz h2 4 (by omega)
   have b3':=b3 (by omega)
   rw [e3]
   simp only [obnd]
   rw [aO (by omega),aO (by omega)]
   obtain ⟨r4,e4,a4,b4,c4⟩:=dz c3 5 (by omega)
   have b4':=b4 (by omega)
   rw [e4]
   simp only
   rw [aO (by omega),aO (by omega),wr (by omega) (by omega)]
   refine .inl ⟨_,rfl,by simp only;omega,c4,?_,?_,?_,?_⟩
   ·intro m hm
    rcases List.mem_append.1 hm with hm | hm
    ·exact h3 m hm
    ·simp only [List.mem_singleton] at hm
     subst hm;unfold i64;omega
   ·intro m hm
    rcases List.mem_append.1 hm with hm | hm
    ·exact h4 m hm
    ·simp only [List.mem_singleton] at hm
     subst hm;unfold i64;omega
   ·simp only [List.length_append,List.length_singleton];omega
   ·simp only [List.length_append,List.length_singleton];omega
  ·rintro ⟨n,v0,v1,v2,x,y⟩ ⟨h1,h2,h3,h4,h5,h6⟩
   simp only at h1 h2 h3 h4 h5 h6
   unfold bM
   simp only
   rw [if_neg (by omega)]
   exact ⟨_,rfl,h2,h3,h4,by simp only;omega,by simp only;omega⟩
 obtain ⟨q,hq,k1,k2,k3,k4,k5⟩:=key
 rw [hq]
 simp only
 obtain ⟨r5,e5,c5⟩:=qO k1 2 (by omega)
 rw [e5]
 simp only
 by_cases h9:r5.1=true
 ·refine ⟨⟨r1.1,q.2.2.2.1,q.2.2.2.2,[-1]⟩,?_,⟨by unfold i64;simp only;omega,k2,k3,?_⟩,k4,k5,by simp⟩
  ·rw [if_pos h9]
  ·intro m hm
   simp only [List.mem_singleton] at hm
   subst hm;unfold i64;omega
 ·refine ⟨⟨r1.1,q.2.2.2.1,q.2.2.2.2,[]⟩,?_,⟨by unfold i64;simp only;omega,k2,k3,kr⟩,k4,k5,by simp⟩
  rw [if_neg h9]
theorem pL (code:List Int):cM code=some true:=by
 unfold cM
 by_cases h0:1048576<((code.length:Nat):Int)
 ·rw [if_pos h0]
 ·rw [if_neg h0]
  obtain ⟨e,he,hr,l1,l2,l3⟩:=pf code (by omega)
  have hf:FitE e:=⟨by omega,by omega,by omega⟩
  rw [he]
  simp only [obnd]
  rw [fR hf hr]
  simp only
  have ls:∀ {l:List Int},cN l→l.length≤10→(lstB l).length≤300:=by
   intro l ha hl
   unfold lstB
   split
   ·simp
   ·have:=kk (B:=20) [44] (l.map itoa) (by
     intro x hx
     obtain ⟨n,hn,rfl⟩:=List.mem_map.1 hx
     exact fQ (ha n hn))
    rw [List.length_map] at this
    have h2:l.length*(20+[(44:UInt8)].length)≤10*21:=Nat.mul_le_mul hl (by decide)
    omega
  have hl:(entB e).length≤1000:=by
   have:=fQ hr.now
   have:=ls hr.ties l1
   have:=ls hr.nodes l2
   have:=ls hr.values l3
   rw [pV]
   simp only [List.length_append,List.length_singleton]
   omega
  rw [gi (by rw [dH];omega),cd,nz hr]
  simp only
  have es:ByteArray.mk #[10]=ofL [10]:=rfl
  rw [es,lT,lT,aO (by rw [dH];omega),aO (by rw [dH,dH,List.length_append,List.length_singleton];omega)]
  rw [kq (by rw [dH,List.length_append,List.length_append,List.length_singleton];omega),cd]
  have hj:ev (entB e++[10]++entB e)=[e]:=by
   have:=ke [e] (entB e) (fun x hx=>by simp only [List.mem_singleton] at hx;subst hx;exact hr) nD
   simpa using this
  rw [hj]
  simp only [if_true]
  rw [fR hf hr]
  simp only [if_true,List.length_singleton]
  rw [show getI [e] 0=some e from rfl]
  simp only
  rw [if_pos (by rfl),if_pos (by rfl),pJ e.nodes e.nodes (by unfold Cnt;omega)]
  simp
end Go.Proofs.Qf
set_option maxRecDepth 100000
set_option maxHeartbeats 1000000
namespace Go.Proofs.Qf
open Go Go.Lib
theorem qU {n:ByteArray}(h:oW n=true):1≤(bs n).length∧(bs n).length≤8∧∀ c,c∈bs n→97≤c.toNat∧c.toNat≤122∨48≤c.toNat∧c.toNat≤57:=by
 have h':=of_decide_eq_true h
 have hz:=cG n
 refine ⟨by omega,by omega,fun c hc=>?_⟩
 obtain ⟨i,hi,rfl⟩:=List.mem_iff_getElem.1 hc
 have h3:=h'.1 i (by omega)
 rw [se (by omega)] at h3
 have e:n[i]'(by omega)=(bs n)[i]:=rfl
 rw [e] at h3
 have:=of_decide_eq_true h3
 omega
def nmB (s:ai)(k:Int):ByteArray:=((s.nodes[k.toNat]?).map (fun n=>n.name)).getD (ByteArray.mk #[])
theorem sk {s:ai}{k:Int}(h0:0≤k)(h1:k<s.nodes.length):∃ n,getI s.nodes k=some n∧n.name=nmB s k∧n∈s.nodes:=by
 refine ⟨s.nodes[k.toNat]'(by omega),?_,?_,List.getElem_mem _⟩
 ·unfold getI
  rw [if_pos h0,List.getElem?_eq_getElem (by omega)]
 ·unfold nmB
  rw [List.getElem?_eq_getElem (by omega)];rfl
theorem sm {s:ai}(h:gF s=true){n:ak}(hn:n∈s.nodes):oW n.name=true:=by
 unfold gF oX at h
 simp only [Bool.and_eq_true,decide_eq_true_eq] at h
 obtain ⟨i,hi,rfl⟩:=List.mem_iff_getElem.1 hn
 have hp:=h.1.1.1.1.2 i hi
 unfold tH sf at hp
 rw [List.getElem?_eq_getElem hi] at hp
 simp only [Option.any_some,Bool.and_eq_true] at hp
 exact hp.1.1.1
theorem so {s:ai}(h:gF s=true){k:Int}(h0:0≤k)(h1:k<s.nodes.length):1≤(bs (nmB s k)).length∧(bs (nmB s k)).length≤8∧∀ c,c∈bs (nmB s k)→97≤c.toNat∧c.toNat≤122∨48≤c.toNat∧c.toNat≤57:=by
 obtain ⟨n,_,e,hn⟩:=sk h0 h1
 rw [← e]
 exact qU (sm h hn)
end Go.Proofs.Qf
set_option maxRecDepth 100000
set_option maxHeartbeats 1000000
namespace Go.Proofs.Qf
open Go Go.Lib
def tmW (s:ai)(ts:List Int)(i:Nat):ByteArray:=nmB s i++ByteArray.mk #[64]++ofL (itoa (tm ts i))
def tmL (s:ai)(ts:List Int):Nat→List ByteArray
 | 0=>[]
 | i+1=>tmL s ts i++(if tm ts i=-1 then [] else [tmW s ts i])
theorem pW (s:ai)(ts:List Int):∀ i,(tmL s ts i).length≤i
 | 0=>Nat.le_refl _
 | i+1=>by
  have:=pW s ts i
  unfold tmL
  rw [List.length_append]
  split <;> simp <;> omega
theorem pX {s:ai}{ts:List Int}:∀ {i:Nat} {w},w∈tmL s ts i→∃ j,j<i∧w=tmW s ts j
 | 0,w,h=>by cases h
 | i+1,w,h=>by
  unfold tmL at h
  rcases List.mem_append.1 h with h | h
  ·obtain ⟨j,hj,e⟩:=pX h
   exact ⟨j,by omega,e⟩
  ·split at h
   ·cases h
   ·simp only [List.mem_singleton] at h
    exact ⟨i,by omega,h⟩
structure TmR (s:ai) (ts:List Int):Prop where
 ok:gF s=true
 len:ts.length=s.nodes.length
 all:∀ i:Nat,i<ts.length→i64 (tm ts i)
theorem TmR.name {s:ai}{ts:List Int}(h:TmR s ts){i:Nat}(hi:i<ts.length):∃ n,getI s.nodes (i:Int)=some n∧n.name=nmB s i∧n.name.size≤8:=by
 have hl:=h.len
 obtain ⟨n,a,b,_⟩:=sk (s:=s) (k:=(i:Int)) (by omega) (by omega)
 refine ⟨n,a,b,?_⟩
 rw [b,cG]
 exact (so h.ok (by omega) (by omega)).2.1
theorem TmR.word {s:ai}{ts:List Int}(h:TmR s ts){i:Nat}(hi:i<ts.length):(bs (tmW s ts i)).length≤29:=by
 obtain ⟨n,_,b,c⟩:=h.name hi
 have:=fQ (h.all i hi)
 unfold tmW
 rw [iC,iC,cd,← b,List.length_append,List.length_append,← cG]
 have:(bs (ByteArray.mk #[64])).length=1:=rfl
 omega
theorem TmR.join {s:ai}{ts:List Int}(h:TmR s ts):(Lib.join ((tmL s ts ts.length).map bs) (bs (ByteArray.mk #[32]))).length≤300:=by
 have h7:=(oS h.ok).nodes
 have hl:=h.len
 have h1:=pW s ts ts.length
 have:=kk (B:=29) (bs (ByteArray.mk #[32])) ((tmL s ts ts.length).map bs) (by
  intro x hx
  obtain ⟨w,hw,rfl⟩:=List.mem_map.1 hx
  obtain ⟨j,hj,rfl⟩:=pX hw
  exact h.word hj)
 rw [List.length_map] at this
 have e:(bs (ByteArray.mk #[32])).length=1:=rfl
 rw [e] at this
 omega
end Go.Proofs.Qf
namespace Go.Proofs.Qf
open Go
end Go.Proofs.Qf
