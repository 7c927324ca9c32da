/- Entries of a journal: written and read. Own work. -/
import Derived.Test.YtjbpfglekblgbaaDoorZcP49
import Derived.Test.YtjbpfglekblgbaaDoorZcP24
set_option linter.all false
set_option maxRecDepth 100000
set_option maxHeartbeats 1000000
namespace Go.Proofs.Qc
open Go Go.Lib
def wD (l:List Int):List ByteArray:=l.map (fun n=>ofL (itoa n))
theorem pg (e:GEntry)(h1:e.ties.length≤1048576)(h2:e.nodes.length≤1048576)(h3:e.values.length≤1048576):cB e e=some true:=by
 unfold cB
 rw [if_pos rfl,je _ _ (by unfold Cnt;omega)]
 simp only [obnd,decide_true,if_true]
 rw [je _ _ (by unfold Cnt;omega)]
 simp only [decide_true,if_true]
 rw [je _ _ (by unfold Cnt;omega)]
 simp only [decide_true,if_true]
def fM (l:List UInt8):List Int × Bool:=if l=[45] then ([],true) else match (aD (fun c=>c == 44) l).mapM bL with
 | some r=>(r,true)
 | none=>([],false)
theorem tj (c x:UInt8):sepB (ByteArray.mk #[c]) x=(x == c):=by
 unfold sepB
 show List.contains [c] x=_
 rw [List.contains_cons]
 simp only [List.contains_nil,Bool.or_false]
theorem fN (s:ByteArray)(c:UInt8):gX s (ByteArray.mk #[c])=(aD (fun x=>x == c) (bs s)).map ofL:=by
 unfold gX
 congr 1
 congr 1
 funext x
 exact tj c x
theorem sc {α β:Type}{f:α→Option β}{l:List α}{i:Nat}(hi:i<l.length){r:List β}(h:(l.take i).mapM f=some r):(l.take (i+1)).mapM f=(f l[i]).map (fun y=>r++[y]):=by
 rw [gb hi,List.mapM_append,h]
 cases hf:f l[i] <;> simp [hf]
theorem sd {α β:Type}{f:α→Option β}{l:List α}{i:Nat}(hi:i<l.length)(h:f l[i]=none):l.mapM f=none:=by
 have e:l=l.take i++l[i]::l.drop (i+1):=by rw [← List.drop_eq_getElem_cons hi,List.take_append_drop]
 rw [e,List.mapM_append,List.mapM_cons,h]
 cases (l.take i).mapM f <;> rfl
theorem mc (l:List UInt8):bc (ofL l)=match bL l with | some v=>(v,true) | none=>(0,false):=by
 unfold bc
 rw [dG]
 cases bL l <;> rfl
theorem jf {ws:List (List UInt8)}(hw:ws.length≤2097152)(body:Int × List Int→Option (Step (Int × List Int) (Sum (List Int) (List Int × Bool))))
  (h1:∀ i (hi:i<ws.length) out,body ((i:Int),out)=if (bc (ofL ws[i])).2=true then
    (chk ((out.length+1)*8≤140737488355328) <| chk (out.length+1≤9223372036854775807) <| some (.next (IntKind.wrap .i64 ((i:Int)+1),out++[(bc (ofL ws[i])).1])))
   else some (.done (.inr ([],false))))
  (h2:∀ out,body ((ws.length:Int),out)=some (.done (.inl out))) :
  aJ body (0,[])=some (match ws.mapM bL with | some r=>.inl r | none=>.inr ([],false)):=by
 have key:∃ q,aJ body (0,[])=some q∧q=(match ws.mapM bL with | some r=>.inl r | none=>.inr ([],false)):=by
  refine fj ws.length (fun i st=>st.1=(i:Int)∧(ws.take i).mapM bL=some st.2∧st.2.length=i) _ ⟨rfl,rfl,rfl⟩ ?_ ?_
  ·rintro i ⟨j,out⟩ hi ⟨rfl,hm,hl⟩
   simp only at hm hl
   rw [h1 i hi,mc]
   cases hn:bL ws[i] with
   | none=>
    simp only [Bool.false_eq_true,if_false]
    rw [sd hi hn]
    exact .inr ⟨_,rfl,rfl⟩
   | some v=>
    simp only [if_true]
    rw [aE (by omega),aE (by omega),wr (by omega) (by omega)]
    refine .inl ⟨_,rfl,rfl,?_,?_⟩
    ·rw [sc hi hm,hn];rfl
    ·simp only [List.length_append,List.length_singleton];omega
  ·rintro ⟨j,out⟩ ⟨rfl,hm,hl⟩
   simp only at hm
   rw [h2]
   rw [List.take_length] at hm
   rw [hm]
   exact ⟨_,rfl,rfl⟩
 obtain ⟨q,hq,rfl⟩:=key
 exact hq
theorem eZ {s:ByteArray}(hs:s.size≤1048576)(c:UInt8):((aD (fun x=>x == c) (bs s))).length≤2097152∧∀ w,w∈aD (fun x=>x == c) (bs s)→(ofL w).size≤1048576:=by
 have h:=im (fun x=>x == c) (bs s)
 rw [← aV] at h
 refine ⟨by omega,?_⟩
 intro w hw
 have:=gW _ _ hw
 rw [← aV] at this
 rw [oV];omega
theorem fA {s:ByteArray}(hs:s.size≤1048576):bE s=some (fM (bs s)):=by
 obtain ⟨w1,w2⟩:=eZ hs 44
 unfold bE fM
 have e45:s=ByteArray.mk #[45]↔bs s=[45]:=⟨fun h=>by rw [h];rfl,fun h=>jc h⟩
 by_cases h45:s=ByteArray.mk #[45]
 ·rw [if_pos h45,if_pos (e45.1 h45)]
 ·rw [if_neg h45,if_neg (fun h=>h45 (e45.2 h)),iC s _ (by omega),fN]
  simp only [obnd]
  generalize aD (fun c=>c == 44) (bs s)=ws at *
  rw [jf (ws:=ws) w1 _ ?_ ?_]
  ·cases ws.mapM bL <;> rfl
  ·intro i hi out
   unfold cL
   simp only
   rw [if_pos (by rw [List.length_map];omega),gO (by rw [List.length_map];exact hi)]
   simp only [obnd]
   rw [List.getElem_map,iA _ (by have:=w2 _ (List.getElem_mem hi);omega)]
  ·intro out
   unfold cL
   simp only
   rw [if_neg (by rw [List.length_map];omega)]
theorem gE {s:ByteArray}(hs:s.size≤1048576):bD s=some (fM (bs s)):=by
 obtain ⟨w1,w2⟩:=eZ hs 44
 unfold bD fM
 have e45:s=ByteArray.mk #[45]↔bs s=[45]:=⟨fun h=>by rw [h];rfl,fun h=>jc h⟩
 by_cases h45:s=ByteArray.mk #[45]
 ·rw [if_pos h45,if_pos (e45.1 h45)]
 ·rw [if_neg h45,if_neg (fun h=>h45 (e45.2 h)),iD s _ (by omega) (by
   show 1≤_
   omega),fN]
  simp only [obnd]
  generalize aD (fun c=>c == 44) (bs s)=ws at *
  rw [jf (ws:=ws) w1 _ ?_ ?_]
  ·cases ws.mapM bL <;> rfl
  ·intro i hi out
   unfold cK
   simp only
   rw [if_pos (by rw [List.length_map];omega),gO (by rw [List.length_map];exact hi)]
   simp only [obnd]
   rw [List.getElem_map,iz _ (by have:=w2 _ (List.getElem_mem hi);unfold Cnt;omega)]
  ·intro out
   unfold cK
   simp only
   rw [if_neg (by rw [List.length_map];omega)]
def noE:GEntry:=⟨0,[],[],[]⟩
def parW:List (List UInt8)→GEntry × Bool
 | [a,b,c,d]=>match bL a,fM b,fM c,fM d with
  | some n,(x,true),(y,true),(z,true)=>(⟨n,x,y,z⟩,true)
  | _,_,_,_=>(noE,false)
 | _=>(noE,false)
def parE (l:List UInt8):GEntry × Bool:=parW (aD (fun c=>c == 32) l)
theorem four {α:Type}{l:List α}(h:l.length=4):∃ a b c d,l=[a,b,c,d]:=by
 match l,h with
 | [a,b,c,d],_=>exact ⟨a,b,c,d,rfl⟩
theorem qa {l:List (List UInt8)}(h:l.length≠4):parW l=(noE,false):=by
 match l,h with
 | [],_=>rfl
 | [_],_=>rfl
 | [_,_],_=>rfl
 | [_,_,_],_=>rfl
 | [_,_,_,_],h=>exact absurd rfl h
 | _::_::_::_::_::_,_=>rfl
theorem nJ (a:List UInt8)(b c d:List Int × Bool) :
  (if (bc (ofL a)).2=true then
   if b.2=true then
    if c.2=true then
     if d.2=true then
      some ((GEntry.mk (bc (ofL a)).1 b.1 c.1 d.1),true)
     else
      some ((GEntry.mk 0 ([]) ([]) ([])),false)
    else
     some ((GEntry.mk 0 ([]) ([]) ([])),false)
   else
    some ((GEntry.mk 0 ([]) ([]) ([])),false)
  else
   some ((GEntry.mk 0 ([]) ([]) ([])),false))=some (match bL a,b,c,d with
  | some n,(x,true),(y,true),(z,true)=>((⟨n,x,y,z⟩:GEntry),true)
  | _,_,_,_=>(noE,false)):=by
 rw [mc]
 obtain ⟨b1,b2⟩:=b
 obtain ⟨c1,c2⟩:=c
 obtain ⟨d1,d2⟩:=d
 cases bL a <;> cases b2 <;> cases c2 <;> cases d2 <;> rfl
theorem me {s:ByteArray}(hs:s.size≤1048576):bI s=some (parE (bs s)):=by
 obtain ⟨w1,w2⟩:=eZ hs 32
 unfold bI parE
 rw [iC s _ (by omega),fN]
 simp only [obnd]
 generalize aD (fun c=>c == 32) (bs s)=ws at *
 rw [List.length_map]
 by_cases h4:ws.length=4
 ·obtain ⟨a,b,c,d,rfl⟩:=four h4
  rw [if_pos (by rfl)]
  have ha:=w2 a (by simp)
  have hb:=w2 b (by simp)
  have hc:=w2 c (by simp)
  have hd:=w2 d (by simp)
  have g0:getI ([a,b,c,d].map ofL) 0=some (ofL a):=rfl
  have g1:getI ([a,b,c,d].map ofL) 1=some (ofL b):=rfl
  have g2:getI ([a,b,c,d].map ofL) 2=some (ofL c):=rfl
  have g3:getI ([a,b,c,d].map ofL) 3=some (ofL d):=rfl
  rw [g0]
  simp only
  rw [iA _ (by omega),g1]
  simp only
  rw [fA hb,g2]
  simp only
  rw [fA hc,g3]
  simp only
  rw [fA hd]
  simp only [dG]
  exact nJ a _ _ _
 ·rw [if_neg (by omega),qa h4];rfl
theorem mf {s:ByteArray}(hs:s.size≤1048576):ct s=some (parE (bs s)):=by
 obtain ⟨w1,w2⟩:=eZ hs 32
 unfold ct parE
 rw [iD s _ (by omega) (by
  show 1≤_
  omega),fN]
 simp only [obnd]
 generalize aD (fun c=>c == 32) (bs s)=ws at *
 rw [List.length_map]
 by_cases h4:ws.length=4
 ·obtain ⟨a,b,c,d,rfl⟩:=four h4
  rw [if_pos (by rfl)]
  have ha:=w2 a (by simp)
  have hb:=w2 b (by simp)
  have hc:=w2 c (by simp)
  have hd:=w2 d (by simp)
  have g0:getI ([a,b,c,d].map ofL) 0=some (ofL a):=rfl
  have g1:getI ([a,b,c,d].map ofL) 1=some (ofL b):=rfl
  have g2:getI ([a,b,c,d].map ofL) 2=some (ofL c):=rfl
  have g3:getI ([a,b,c,d].map ofL) 3=some (ofL d):=rfl
  rw [g0]
  simp only
  rw [iz _ (by unfold Cnt;omega),g1]
  simp only
  rw [gE hb,g2]
  simp only
  rw [gE hc,g3]
  simp only
  rw [gE hd]
  simp only [dG]
  exact nJ a _ _ _
 ·rw [if_neg (by omega),qa h4];rfl
theorem ph {α β:Type}{f:α→Option β}:∀ {l:List α} {r:List β},l.mapM f=some r→r.length=l.length
 | [],r,h=>by simp at h;subst h;rfl
 | a::l,r,h=>by
  rw [List.mapM_cons] at h
  cases hf:f a with
  | none=>rw [hf] at h;cases h
  | some y=>
   rw [hf] at h
   cases hm:l.mapM f with
   | none=>rw [hm] at h;cases h
   | some ys=>
    rw [hm] at h
    have:r=y::ys:=by simpa using h.symm
    subst this
    rw [List.length_cons,List.length_cons,ph hm]
theorem pi {α β:Type}{f:α→Option β}:∀ {l:List α} {r:List β},l.mapM f=some r→∀ a,a∈l→∃ b,f a=some b
 | [],_,_,a,ha=>by cases ha
 | x::l,r,h,a,ha=>by
  rw [List.mapM_cons] at h
  cases hf:f x with
  | none=>rw [hf] at h;cases h
  | some y=>
   rw [hf] at h
   cases hm:l.mapM f with
   | none=>rw [hm] at h;cases h
   | some ys=>
    rcases List.mem_cons.1 ha with rfl | ha
    ·exact ⟨y,hf⟩
    ·exact pi hm a ha
theorem tk {l:List UInt8}{v:Int}(h:bL l=some v):1≤l.length:=by
 have:=(ik h).1
 have h2:=uw v
 rw [← this] at h2
 cases l with
 | nil=>exact absurd rfl h2
 | cons a b=>simp
theorem jg (l:List UInt8)(h:l.length≤1048576):(fM l).1.length≤1048576:=by
 unfold fM
 split
 ·simp
 ·split
  ·rename_i r hr
   rw [ph hr]
   have h1:=im (fun c:UInt8=>c == 44) l
   have h2:(aD (fun c:UInt8=>c == 44) l).length≤((aD (fun c:UInt8=>c == 44) l).map List.length).sum:=by
    have hall:∀ x,x∈aD (fun c:UInt8=>c == 44) l→1≤x.length:=by
     intro x hx
     obtain ⟨b,hb⟩:=pi hr x hx
     exact tk hb
    generalize aD (fun c:UInt8=>c == 44) l=ws at hall
    induction ws with
    | nil=>simp
    | cons a r ih=>
     have:=ih (fun x hx=>hall x (by simp [hx]))
     have:=hall a (by simp)
     simp only [List.length_cons,List.map_cons,List.sum_cons]
     omega
   show _≤_
   omega
  ·simp
theorem tn (l:List UInt8)(h:l.length≤1048576):FitE (parE l).1:=by
 have hno:FitE noE:=⟨by simp [noE],by simp [noE],by simp [noE]⟩
 unfold parE parW
 split
 ·rename_i a b c d hs
  have hm:∀ x,x∈[a,b,c,d]→x.length≤1048576:=by
   intro x hx
   rw [← hs] at hx
   have:=gW _ _ hx
   omega
  split
  ·rename_i n x y z hn hb hc hd
   have h1:=jg b (hm b (by simp))
   have h2:=jg c (hm c (by simp))
   have h3:=jg d (hm d (by simp))
   rw [hb] at h1
   rw [hc] at h2
   rw [hd] at h3
   exact ⟨h1,h2,h3⟩
  ·exact hno
 ·exact hno
theorem pj (e:GEntry)(h:FitE e):cD e 1=some (1+(e.ties.length:Int)+(e.nodes.length:Int)+(e.values.length:Int),mkI 1 e.ties.length,mkI (1+(e.ties.length:Int)) e.nodes.length,mkI (1+(e.ties.length:Int)+(e.nodes.length:Int)) e.values.length):=by
 have h1:=h.ties
 have h2:=h.nodes
 have h3:=h.values
 unfold cD
 rw [gC _ 1 h1 (by omega) (by omega)]
 simp only [obnd]
 rw [gC _ _ h2 (by omega) (by omega)]
 simp only
 rw [gC _ _ h3 (by omega) (by omega)]
theorem pk (t:Int)(a b c:Nat)(h1:a≤1048576)(h2:b≤1048576)(h3:c≤1048576):bV ⟨t,mkI 1 a,mkI (1+(a:Int)) b,mkI (1+(a:Int)+(b:Int)) c⟩ 1=some (1+(a:Int)+(b:Int)+(c:Int)):=by
 unfold bV
 simp only
 rw [gD 1 a h1 (by omega) (by omega)]
 simp only [obnd]
 rw [if_neg (by omega),gD _ b h2 (by omega) (by omega)]
 simp only
 rw [if_neg (by omega),gD _ c h3 (by omega) (by omega)]
 simp only
 rw [if_neg (by omega)]
theorem kK (k:Int)(n:Nat):(mkI k n).length=n:=by simp [mkI]
theorem mV (s:ByteArray):bH s=some true:=by
 unfold bH
 by_cases h0:1048576<((s.size:Nat):Int)
 ·rw [if_pos h0]
 ·rw [if_neg h0,mf (by omega)]
  simp only [obnd]
  rw [me (by omega)]
  simp only
  have hf:=tn (bs s) (by rw [← aV];omega)
  rw [pg _ hf.ties hf.nodes hf.values]
  simp only [if_true]
  rw [pj _ hf]
  simp only
  rw [kK,kK,kK,aE (Nat.le_refl _),aE (Nat.le_refl _),aE (Nat.le_refl _),kJ,kJ,kJ,pk _ _ _ _ hf.ties hf.nodes hf.values]
  simp only
  rw [if_neg (by omega)]
  simp only [if_true]
  rw [if_neg (by omega)]
end Go.Proofs.Qc
set_option maxRecDepth 100000
set_option maxHeartbeats 1000000
namespace Go.Proofs.Qc
open Go Go.Lib
end Go.Proofs.Qc
set_option maxRecDepth 100000
set_option maxHeartbeats 1000000
namespace Go.Proofs.Qc
open Go Go.Lib
theorem qW {n:ByteArray}(h:pf n=true):1≤(bs n).length∧(bs n).length≤8∧∀ c,c∈bs n→97≤c.toNat∧c.toNat≤122∨48≤c.toNat∧c.toNat≤57:=by
 have h':=of_decide_eq_true h
 have hz:=aV n
 refine ⟨by omega,by omega,fun c hc=>?_⟩
 obtain ⟨i,hi,rfl⟩:=List.mem_iff_getElem.1 hc
 have h3:=h'.1 i (by omega)
 rw [rY (by omega)] at h3
 have e:n[i]'(by omega)=(bs n)[i]:=rfl
 rw [e] at h3
 have:=of_decide_eq_true h3
 omega
def nmB (s:ai)(k:Int):ByteArray:=((s.nodes[k.toNat]?).map (fun n=>n.name)).getD (ByteArray.mk #[])
theorem se {s:ai}{k:Int}(h0:0≤k)(h1:k<s.nodes.length):∃ n,getI s.nodes k=some n∧n.name=nmB s k∧n∈s.nodes:=by
 refine ⟨s.nodes[k.toNat]'(by omega),?_,?_,List.getElem_mem _⟩
 ·unfold getI
  rw [if_pos h0,List.getElem?_eq_getElem (by omega)]
 ·unfold nmB
  rw [List.getElem?_eq_getElem (by omega)];rfl
theorem sf {s:ai}(h:mb s=true){n:al}(hn:n∈s.nodes):pf n.name=true:=by
 unfold mb sb at h
 simp only [Bool.and_eq_true,decide_eq_true_eq] at h
 obtain ⟨i,hi,rfl⟩:=List.mem_iff_getElem.1 hn
 have hp:=h.1.1.1.1.2 i hi
 unfold tD rZ at hp
 rw [List.getElem?_eq_getElem hi] at hp
 simp only [Option.any_some,Bool.and_eq_true] at hp
 exact hp.1.1.1
theorem sg {s:ai}(h:mb s=true){k:Int}(h0:0≤k)(h1:k<s.nodes.length):1≤(bs (nmB s k)).length∧(bs (nmB s k)).length≤8∧∀ c,c∈bs (nmB s k)→97≤c.toNat∧c.toNat≤122∨48≤c.toNat∧c.toNat≤57:=by
 obtain ⟨n,_,e,hn⟩:=se h0 h1
 rw [← e]
 exact qW (sf h hn)
end Go.Proofs.Qc
set_option maxRecDepth 100000
set_option maxHeartbeats 1000000
namespace Go.Proofs.Qc
open Go Go.Lib
structure TmR (s:ai) (ts:List Int):Prop where
 ok:mb s=true
 len:ts.length=s.nodes.length
 all:∀ i:Nat,i<ts.length→i64 (tm ts i)
theorem TmR.name {s:ai}{ts:List Int}(h:TmR s ts){i:Nat}(hi:i<ts.length):∃ n,getI s.nodes (i:Int)=some n∧n.name=nmB s i∧n.name.size≤8:=by
 have hl:=h.len
 obtain ⟨n,a,b,_⟩:=se (s:=s) (k:=(i:Int)) (by omega) (by omega)
 refine ⟨n,a,b,?_⟩
 rw [b,aV]
 exact (sg h.ok (by omega) (by omega)).2.1
end Go.Proofs.Qc
namespace Go.Proofs.Qc
open Go
end Go.Proofs.Qc
