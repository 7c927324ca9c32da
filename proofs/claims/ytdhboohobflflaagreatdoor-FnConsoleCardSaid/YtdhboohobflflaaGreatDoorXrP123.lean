/- FnConsole: every line goes on. Own work. -/
import Derived.Test.YtdhboohobflflaaGreatDoorXrP116
import Derived.Test.YtdhboohobflflaaGreatDoorXrP117
import Derived.Test.YtdhboohobflflaaGreatDoorXrP118
import Derived.Test.YtdhboohobflflaaGreatDoorXrP119
import Derived.Test.YtdhboohobflflaaGreatDoorXrP120
import Derived.KernelRfl
set_option linter.all false
set_option maxRecDepth 100000
set_option maxHeartbeats 4000000
namespace Go.Proofs.Qr
open Go
theorem rowT {i:Nat}(h:i<231):RowT i:=by
 rcases Nat.lt_or_ge i 43 with h1|h1
 ·exact Mh.out i (by omega) (by omega)
 rcases Nat.lt_or_ge i 108 with h2|h2
 ·exact Mr.out i (by omega) (by omega)
 rcases Nat.lt_or_ge i 205 with h3|h3
 ·exact On.out i (by omega) (by omega)
 exact QG.out i (by omega) (by omega)
theorem Ee {i:Nat}(h0:231≤i)(h:i<321):aE i:=QH.out i (by omega) (by omega)
theorem ud {α β γ:Type}{L:List α}{f:α→γ}{K:List β}{g:β→γ}(h:L.map f=K.map g){x:α}(hx:x∈L):∃ k,k∈K∧g k=f x:=by
 have h1:f x∈K.map g:=h ▸ List.mem_map_of_mem hx
 obtain⟨k,h2,h3⟩:=List.mem_map.1 h1
 exact⟨k,h2,h3⟩
theorem gO {α γ:Type}{L:List α}{f g:α→γ}(h:L.map f=L.map g){x:α}(hx:x∈L):f x=g x:=by
 induction L with
 | nil=>cases hx
 | cons a r ih=>
  simp only[List.map_cons,List.cons.injEq]at h
  rcases List.mem_cons.1 hx with rfl|hx
  ·exact h.1
  exact ih h.2 hx
theorem fH {r:Option (ByteArray × GConsole)}{c:GConsole}(h:some (true,c)=szR r):∃ o,r=some (o,c)∧o.size≤100000:=by
 cases r with
 | none=>cases h
 | some p=>
  simp only[szR,Option.some.injEq,Prod.mk.injEq]at h
  refine⟨p.1,by rw[h.2],Nat.le_of_ble_eq_true h.1.symm⟩
theorem vI {r:Option (ByteArray × GConsole)}(h:true=okR r):∃ o c,r=some (o,c)∧o.size≤100000:=by
 cases r with
 | none=>cases h
 | some p=>exact⟨p.1,p.2,rfl,Nat.le_of_ble_eq_true h.symm⟩
def does (x:ByteArray):Bool:=match getS x 0 with
 | some c=>decide (¬ ((c.toNat:Nat):Int)=35)
 | none=>false
theorem Fq {j:Nat}(h:j<8):bM (skT j)=some (skT j):=by
 have:=gO Fo (x:=j) (List.mem_range.2 h)
 exact this
theorem KT {i:Nat}(h:i<321):(skD i).show_=skH (sh i):=by
 have:=gO Fp (x:=i) (List.mem_range.2 h)
 exact this
theorem zS {s:GSheet}{d:GDesk}{t:List GTake}(hs:ca s=some s)(hd:bq d=some d)(ht:bM t=some t){x:ByteArray}(hx:x∈noL):aS ⟨s,d,t⟩ x=some (⟨s,d,t⟩,eT):=by
 unfold aS
 simp only[hs,hd,ht,obnd]
 unfold noL at hx
 simp only[List.mem_cons,List.not_mem_nil,or_false]at hx
 rcases hx with rfl|rfl
 ·rw[if_pos rfl];rfl
 rw[if_neg (by decide)]
 rfl
theorem br {s:GSheet}{d:GDesk}{t:List GTake}(hs:ca s=some s)(hd:bq d=some d)(ht:bM t=some t){x:ByteArray}(hx:does x=true){o:ByteArray}{c:GConsole}(h:aH ⟨s,d,t⟩ x=some (o,c)):aS ⟨s,d,t⟩ x=some (c,o):=by
 unfold aS
 simp only[hs,hd,ht,obnd]
 unfold does at hx
 have hne:¬ x=ByteArray.mk #[]:=by
  rintro rfl
  cases hx
 rw[if_neg hne]
 cases hg:getS x 0 with
 | none=>rw[hg]at hx;cases hx
 | some c=>
  rw[hg]at hx
  simp only at hx ⊢
  rw[if_neg (of_decide_eq_true hx),h]
def Good (n:Nat)(c:GConsole):Prop:=∃ a i j,a<13∧i<321∧j<8∧c=⟨skS a,skD i,skT j⟩∧(sm n).testBit a=true∧(bm n j).testBit i=true
def bits (m:Nat)(l:List Nat):Bool:=l.all fun k=>m.testBit k&&Nat.blt k 321
def goOk (n:Nat):Bool:=
 ((List.range 13).all fun a=>!(sm n).testBit a || ((a::sn a).all fun k=>(sm (n+1)).testBit k&&Nat.blt k 13)&&((go a).all fun o=>match o with|some k=>(bm (n+1) 0).testBit k&&Nat.blt k 321|none=>true)) &&
 ((List.range 8).all fun j=>(List.range 321).all fun i=>!(bm n j).testBit i || (Nat.blt i 231&&bits (bm (n+1) j) (i::nx i)&&((rt i).any fun p=>Nat.beq p.1 j)&&((rt i).all fun p=>!Nat.beq p.1 j || (Nat.blt p.2 8&&(bm (n+1) p.2).testBit i))&&stT.contains (sh i,j)&&Nat.blt (sh i) 12))
def GX:Bool:=(List.range 8).all fun j=>(List.range 321).all fun i=>!(bm 6 j).testBit i || (((rt i).any (fun p=>Nat.beq p.1 j)&&Nat.blt i 231 || (rl i).contains j)&&stT.contains (sh i,j)&&Nat.blt (sh i) 12)
theorem KU:goOk 0=true:=by decide +kernel
theorem KV:goOk 1=true:=by decide +kernel
theorem KW:goOk 2=true:=by decide +kernel
theorem KX:goOk 3=true:=by decide +kernel
theorem KY:goOk 4=true:=by decide +kernel
theorem KZ:goOk 5=true:=by decide +kernel
theorem HT:GX=true:=by decide +kernel
theorem AS {a b:Bool}(h:(!a || b)=true)(ha:a=true):b=true:=by subst ha;simpa using h
theorem Gt {n a:Nat}(h:goOk n=true)(ha:a<13)(hb:(sm n).testBit a=true):(∀ k,k∈a::sn a→(sm (n+1)).testBit k=true∧k<13)∧∀ k,some k∈go a→(bm (n+1) 0).testBit k=true∧k<321:=by
 unfold goOk at h
 rw[Bool.and_eq_true]at h
 have h1:=AS (List.all_eq_true.1 h.1 a (List.mem_range.2 ha)) hb
 rw[Bool.and_eq_true]at h1
 refine⟨fun k hk=>?_,fun k hk=>?_⟩
 ·have:=List.all_eq_true.1 h1.1 k hk
  rw[Bool.and_eq_true]at this
  exact⟨this.1,Nat.le_of_ble_eq_true this.2⟩
 have:=List.all_eq_true.1 h1.2 _ hk
 simp only[Bool.and_eq_true]at this
 exact⟨this.1,Nat.le_of_ble_eq_true this.2⟩
theorem HU {n i j:Nat}(h:goOk n=true)(hj:j<8)(hi:i<321)(hb:(bm n j).testBit i=true):i<231∧(∀ k,k∈i::nx i→(bm (n+1) j).testBit k=true∧k<321)∧(∃ j',(j,j')∈rt i∧j'<8∧(bm (n+1) j').testBit i=true)∧(sh i,j)∈stT∧sh i<12:=by
 unfold goOk at h
 rw[Bool.and_eq_true]at h
 have h1:=AS (List.all_eq_true.1 (List.all_eq_true.1 h.2 j (List.mem_range.2 hj)) i (List.mem_range.2 hi)) hb
 simp only[Bool.and_eq_true]at h1
 obtain⟨⟨⟨⟨⟨h1,h2⟩,h3⟩,h4⟩,h5⟩,h6⟩:=h1
 refine⟨Nat.le_of_ble_eq_true h1,fun k hk=>?_,?_,List.contains_iff_mem.1 h5,Nat.le_of_ble_eq_true h6⟩
 ·have:=List.all_eq_true.1 h2 k hk
  rw[Bool.and_eq_true]at this
  exact⟨this.1,Nat.le_of_ble_eq_true this.2⟩
 obtain⟨⟨j1,j'⟩,hp,he⟩:=List.any_eq_true.1 h3
 have he:j1=j:=Nat.eq_of_beq_eq_true he
 subst he
 have h7:=AS (List.all_eq_true.1 h4 _ hp) (by simp)
 rw[Bool.and_eq_true]at h7
 exact⟨j',hp,Nat.le_of_ble_eq_true h7.1,h7.2⟩
theorem Gu {i j:Nat}(hj:j<8)(hi:i<321)(hb:(bm 6 j).testBit i=true):((∃ j',(j,j')∈rt i∧i<231)∨j∈rl i)∧(sh i,j)∈stT∧sh i<12:=by
 have h:=HT
 unfold GX at h
 have h1:=AS (List.all_eq_true.1 (List.all_eq_true.1 h j (List.mem_range.2 hj)) i (List.mem_range.2 hi)) hb
 simp only[Bool.and_eq_true,Bool.or_eq_true]at h1
 obtain⟨⟨h2,h5⟩,h6⟩:=h1
 refine⟨?_,List.contains_iff_mem.1 h5,Nat.le_of_ble_eq_true h6⟩
 rcases h2 with ⟨h3,h4⟩|h3
 ·obtain⟨⟨j1,j'⟩,hp,he⟩:=List.any_eq_true.1 h3
  have he:j1=j:=Nat.eq_of_beq_eq_true he
  subst he
  exact .inl ⟨j',hp,Nat.le_of_ble_eq_true h4⟩
 exact .inr (List.contains_iff_mem.1 h3)
def inL (x:ByteArray)(l:List ByteArray):Bool:=l.any fun y=>decide (y=x)
theorem mu {x:ByteArray}{l:List ByteArray}(h:inL x l=true):x∈l:=by
 obtain⟨y,hy,he⟩:=List.any_eq_true.1 h
 rw[← of_decide_eq_true he];exact hy
theorem Gv:(menu.all fun x=>inL x noL || (does x&&(inL x xB || (inL x xz || (inL x xA || (inL x askL || (inL x xC || (inL x xD || (decide (x=tigT) || decide (x=rehT))))))))))=true:=by decide +kernel
theorem CF (x:ByteArray)(hx:x∈menu):x∈noL∨(does x=true∧(x∈xB∨x∈xz∨x∈xA∨x∈askL∨x∈xC∨x∈xD∨x=tigT∨x=rehT)):=by
 have h:=List.all_eq_true.1 Gv x hx
 simp only[Bool.or_eq_true,Bool.and_eq_true,decide_eq_true_eq]at h
 rcases h with h|⟨hd,h⟩
 ·exact .inl (mu h)
 refine .inr ⟨hd,?_⟩
 rcases h with h|h|h|h|h|h|h|h
 ·exact .inl (mu h)
 ·exact .inr (.inl (mu h))
 ·exact .inr (.inr (.inl (mu h)))
 ·exact .inr (.inr (.inr (.inl (mu h))))
 ·exact .inr (.inr (.inr (.inr (.inl (mu h)))))
 ·exact .inr (.inr (.inr (.inr (.inr (.inl (mu h))))))
 ·exact .inr (.inr (.inr (.inr (.inr (.inr (.inl h))))))
 exact .inr (.inr (.inr (.inr (.inr (.inr (.inr h))))))
theorem other {a i j:Nat}(ha:a<13)(hi:i<321)(hst:(sh i,j)∈stT)(hsh:sh i<12){x:ByteArray} :
  (x∈xz→∃ o k,k∈sn a∧aH ⟨skS a,skD i,skT j⟩ x=some (o,⟨skS k,skD i,skT j⟩)∧o.size≤100000) ∧
  (x∈xA→∃ o c,(c=⟨skS a,skD i,skT j⟩∨∃ k,some k∈go a∧c=⟨skS a,skD k,[]⟩)∧aH ⟨skS a,skD i,skT j⟩ x=some (o,c)∧o.size≤100000) ∧
  ((x∈askL∨x∈xC∨x∈xD∨x=tigT)→∃ o,aH ⟨skS a,skD i,skT j⟩ x=some (o,⟨skS a,skD i,skT j⟩)∧o.size≤100000):=by
 have hS:=allS.out a (by omega) (by omega) (skD i) (skT j)
 simp only[Prod.mk.injEq]at hS
 obtain⟨_,hS1,hS2,hS3⟩:=hS
 have hd:=KT hi
 refine⟨fun hx=>?_,fun hx=>?_,fun hx=>?_⟩
 ·obtain⟨k,hk,he⟩:=ud hS1 hx
  obtain⟨o,h1,h2⟩:=fH he
  exact⟨o,k,hk,h1,h2⟩
 ·obtain⟨k,hk,he⟩:=ud hS3 hx
  obtain⟨o,h1,h2⟩:=fH he
  cases k with
  | none=>exact⟨o,_,.inl rfl,h1,h2⟩
  | some k=>exact⟨o,_,.inr ⟨k,hk,rfl⟩,h1,h2⟩
 rcases hx with hx|hx|hx|hx
 ·exact fH (gO hS2 hx).symm
 ·have h1:=allH.out (sh i) (by omega) (by omega) (skS a) (skD i).state (skD i).lazy (skD i).log (skT j)
  rw[← hd]at h1
  exact fH (gO h1 hx).symm
 ·exact fH (gO (Gs (skS a) (skD i) (skT j)) hx).symm
 subst hx
 have h1:=allG _ hst (skS a) (skD i).state (skD i).lazy (skD i).log
 simp only at h1
 rw[← hd]at h1
 exact fH h1.symm
theorem GY {i:Nat}(hi:i<321):bq (skD i)=some (skD i):=by
 rcases Nat.lt_or_ge i 231 with h|h
 ·have:=rowT h aS0 []
  simp only[Prod.mk.injEq]at this
  exact this.1
 have:=Ee h hi aS0 []
 simp only[Prod.mk.injEq]at this
 exact this.1
theorem GZ {a:Nat}(ha:a<13):ca (skS a)=some (skS a):=by
 have:=allS.out a (by omega) (by omega) aD0 []
 simp only[Prod.mk.injEq]at this
 exact this.1
theorem step {n:Nat}(hn:goOk n=true){c:GConsole}(hc:Good n c){x:ByteArray}(hx:x∈menu):∃ c' o,aS c x=some (c',o)∧o.size≤100000∧Good (n+1) c':=by
 obtain⟨a,i,j,ha,hi,hj,rfl,hs,hb⟩:=hc
 obtain⟨g1,g2⟩:=Gt hn ha hs
 obtain⟨hlt,g3,⟨j',hr,hj',g4⟩,hst,hsh⟩:=HU hn hj hi hb
 have gs:=g1 a (by simp)
 have gd:=g3 i (by simp)
 have cS:=GZ ha
 have cD:=GY hi
 have cT:=Fq hj
 have same:Good (n+1) ⟨skS a,skD i,skT j⟩:=⟨a,i,j,ha,hi,hj,rfl,gs.1,gd.1⟩
 rcases CF x hx with hx|⟨hd,hx⟩
 ·exact⟨_,_,zS cS cD cT hx,by decide,same⟩
 obtain⟨o1,o2,o3⟩:=other (x:=x) (j:=j) ha hi hst hsh
 have hR:=rowT hlt (skS a) (skT j)
 simp only[Prod.mk.injEq]at hR
 obtain⟨_,hR1,hR2,_⟩:=hR
 rcases hx with hx|hx|hx|hx|hx|hx|hx|hx
 ·obtain⟨k,hk,he⟩:=ud hR1 hx
  obtain⟨o,h1,h2⟩:=fH he
  have:=g3 k (List.mem_cons_of_mem _ hk)
  exact⟨_,o,br cS cD cT hd h1,h2,a,k,j,ha,this.2,hj,rfl,gs.1,this.1⟩
 ·obtain⟨o,k,hk,h1,h2⟩:=o1 hx
  have:=g1 k (List.mem_cons_of_mem _ hk)
  exact⟨_,o,br cS cD cT hd h1,h2,k,i,j,this.2,hi,hj,rfl,this.1,gd.1⟩
 ·obtain⟨o,c,hc,h1,h2⟩:=o2 hx
  refine⟨_,o,br cS cD cT hd h1,h2,?_⟩
  rcases hc with rfl|⟨k,hk,rfl⟩
  ·exact same
  have:=g2 k hk
  exact⟨a,k,0,ha,this.2,by omega,rfl,gs.1,this.1⟩
 ·obtain⟨o,h1,h2⟩:=o3 (.inl hx)
  exact⟨_,o,br cS cD cT hd h1,h2,same⟩
 ·obtain⟨o,h1,h2⟩:=o3 (.inr (.inl hx))
  exact⟨_,o,br cS cD cT hd h1,h2,same⟩
 ·obtain⟨o,h1,h2⟩:=o3 (.inr (.inr (.inl hx)))
  exact⟨_,o,br cS cD cT hd h1,h2,same⟩
 ·obtain⟨o,h1,h2⟩:=o3 (.inr (.inr (.inr hx)))
  exact⟨_,o,br cS cD cT hd h1,h2,same⟩
 subst hx
 obtain⟨o,h1,h2⟩:=fH (gO hR2 hr).symm
 exact⟨_,o,br cS cD cT hd h1,h2,a,i,j',ha,hi,hj',rfl,gs.1,g4⟩
theorem last {c:GConsole}(hc:Good 6 c){x:ByteArray}(hx:x∈menu):∃ c' o,aS c x=some (c',o)∧o.size≤100000:=by
 obtain⟨a,i,j,ha,hi,hj,rfl,hs,hb⟩:=hc
 obtain⟨hr,hst,hsh⟩:=Gu hj hi hb
 have cS:=GZ ha
 have cD:=GY hi
 have cT:=Fq hj
 rcases CF x hx with hx|⟨hd,hx⟩
 ·exact⟨_,_,zS cS cD cT hx,by decide⟩
 obtain⟨o1,o2,o3⟩:=other (x:=x) (j:=j) ha hi hst hsh
 rcases hx with hx|hx|hx|hx|hx|hx|hx|hx
 ·rcases Nat.lt_or_ge i 231 with hl|hl
  ·have hR:=rowT hl (skS a) (skT j)
   simp only[Prod.mk.injEq]at hR
   obtain⟨k,hk,he⟩:=ud hR.2.1 hx
   obtain⟨o,h1,h2⟩:=fH he
   exact⟨_,o,br cS cD cT hd h1,h2⟩
  have hR:=Ee hl hi (skS a) (skT j)
  simp only[Prod.mk.injEq]at hR
  obtain⟨o,c,h1,h2⟩:=vI (gO hR.2.1 hx).symm
  exact⟨_,o,br cS cD cT hd h1,h2⟩
 ·obtain⟨o,k,hk,h1,h2⟩:=o1 hx
  exact⟨_,o,br cS cD cT hd h1,h2⟩
 ·obtain⟨o,c,hc,h1,h2⟩:=o2 hx
  exact⟨_,o,br cS cD cT hd h1,h2⟩
 ·obtain⟨o,h1,h2⟩:=o3 (.inl hx)
  exact⟨_,o,br cS cD cT hd h1,h2⟩
 ·obtain⟨o,h1,h2⟩:=o3 (.inr (.inl hx))
  exact⟨_,o,br cS cD cT hd h1,h2⟩
 ·obtain⟨o,h1,h2⟩:=o3 (.inr (.inr (.inl hx)))
  exact⟨_,o,br cS cD cT hd h1,h2⟩
 ·obtain⟨o,h1,h2⟩:=o3 (.inr (.inr (.inr hx)))
  exact⟨_,o,br cS cD cT hd h1,h2⟩
 subst hx
 rcases hr with ⟨j',hr,hl⟩|hr
 ·have hR:=rowT hl (skS a) (skT j)
  simp only[Prod.mk.injEq]at hR
  obtain⟨o,h1,h2⟩:=fH (gO hR.2.2.1 hr).symm
  exact⟨_,o,br cS cD cT hd h1,h2⟩
 rcases Nat.lt_or_ge i 231 with hl|hl
 ·have hR:=rowT hl (skS a) (skT j)
  simp only[Prod.mk.injEq]at hR
  obtain⟨o,c,h1,h2⟩:=vI (gO hR.2.2.2 hr).symm
  exact⟨_,o,br cS cD cT hd h1,h2⟩
 have hR:=Ee hl hi (skS a) (skT j)
 simp only[Prod.mk.injEq]at hR
 obtain⟨o,c,h1,h2⟩:=vI (gO hR.2.2 hr).symm
 exact⟨_,o,br cS cD cT hd h1,h2⟩
theorem La {n:Nat}(h:n<6):goOk n=true:=by
 have:n=0∨n=1∨n=2∨n=3∨n=4∨n=5:=by omega
 rcases this with rfl|rfl|rfl|rfl|rfl|rfl
 ·exact KU
 ·exact KV
 ·exact KW
 ·exact KX
 ·exact KY
 exact KZ
theorem sess {l:List ByteArray}:∀ {n:Nat} {c:GConsole} {w:ByteArray},Good n c→n+l.length≤7→(∀ x,x∈l→x∈menu)→0<w.size→∃ w',0<w'.size∧Sess l c w w':=by
 induction l with
 | nil=>intro n c w hc hn hm hw;exact⟨w,hw,.nil⟩
 | cons x r ih=>
  intro n c w hc hn hm hw
  rw[List.length_cons]at hn
  have hx:=hm x (by simp)
  have hw':∀ o:ByteArray,0<(if o=eT then w else (w++o)++nlT).size:=by
   intro o
   split
   ·exact hw
   rw[ByteArray.size_append,ByteArray.size_append];omega
  rcases Nat.lt_or_ge n 6 with h6|h6
  ·obtain⟨c',o,h1,h2,h3⟩:=step (La h6) hc hx
   obtain⟨w',h4,h5⟩:=ih h3 (by omega) (fun y hy=>hm y (by simp[hy])) (hw' o)
   exact⟨w',h4,.cons h1 h2 h5⟩
  obtain rfl:n=6:=by omega
  obtain rfl:r=[]:=List.length_eq_zero_iff.1 (by omega)
  obtain⟨c',o,h1,h2⟩:=last hc hx
  exact⟨_,hw' o,.cons h1 h2 .nil⟩
noncomputable def run4 (c0:GConsole):Option (Bool × GConsole):=
 obnd (aS c0 (eN.getD 0 eT)) fun r0=>
 obnd (aS r0.1 (eN.getD 1 eT)) fun r1=>
 obnd (aS r1.1 (eN.getD 2 eT)) fun r2=>
 obnd (aS r2.1 (eN.getD 3 eT)) fun r3=>
 some (Nat.ble r0.2.size 100000&&(Nat.ble r1.2.size 100000&&(Nat.ble r2.2.size 100000&&(Nat.ble r3.2.size 100000&&Nat.ble 1 r3.2.size))),r3.1)
def kC0:GConsole:=⟨⟨[],[0,0,0],6⟩,⟨⟨[],[],0⟩,⟨0,[],[]⟩,false,[]⟩,[]⟩
theorem HV:cq=some kC0:=by kernel_rfl
theorem HW:run4 kC0=some (true,⟨skS 0,skD 0,skT 0⟩):=by kernel_rfl
theorem QI:Good 0 ⟨skS 0,skD 0,skT 0⟩:=⟨0,0,0,by decide,by decide,by decide,rfl,by decide +kernel,by decide +kernel⟩
theorem Ef {l:List ByteArray}(hl:l.length≤7)(hm:∀ x,x∈l→x∈menu):∃ w',w'≠eT∧Sess (eN++l) kC0 eT w':=by
 have h:=HW
 unfold run4 at h
 obtain⟨r0,h0,h⟩:=ae h
 obtain⟨r1,h1,h⟩:=ae h
 obtain⟨r2,h2,h⟩:=ae h
 obtain⟨r3,h3,h⟩:=ae h
 simp only[Option.some.injEq,Prod.mk.injEq,Bool.and_eq_true]at h
 obtain⟨⟨s0,s1,s2,s3,s4⟩,hc⟩:=h
 have s0:=Nat.le_of_ble_eq_true s0
 have s1:=Nat.le_of_ble_eq_true s1
 have s2:=Nat.le_of_ble_eq_true s2
 have s3:=Nat.le_of_ble_eq_true s3
 have s4:=Nat.le_of_ble_eq_true s4
 have hne:¬ r3.2=eT:=by
  intro he
  rw[he]at s4
  exact absurd s4 (by decide)
 have hw:∀ w:ByteArray,0<(if r3.2=eT then w else (w++r3.2)++nlT).size:=by
  intro w
  rw[if_neg hne,ByteArray.size_append,ByteArray.size_append]
  omega
 have key:∀ w:ByteArray,∃ w',0<w'.size∧Sess l r3.1 (if r3.2=eT then w else (w++r3.2)++nlT) w':=by
  intro w
  rw[hc]
  exact sess QI (by omega) hm (hw w)
 obtain⟨w',p,q⟩:=key _
 refine⟨w',?_,.cons (c':=r0.1) (o:=r0.2) h0 s0 (.cons (c':=r1.1) (o:=r1.2) h1 s1 (.cons (c':=r2.1) (o:=r2.2) h2 s2 (.cons (c':=r3.1) (o:=r3.2) h3 s3 q)))⟩
 intro he
 rw[he]at p
 exact absurd p (by decide)
theorem Cp (code:List Int):eL code=some true:=
 Ct code HV (by decide +kernel) fun l hl hm=>Ef hl hm
end Go.Proofs.Qr
