/- Functions. -/
import Derived.Test.YtpkcmjnlnbddbaaGreatDoorXbX
import Derived.Test.YtpkcmjnlnbddbaaGreatDoorXb37
set_option linter.all false
set_option maxRecDepth 100000
set_option maxHeartbeats 4000000
namespace Go.Proofs.Qb
open Go
theorem co {hi:Hint}{f:FuncId}{fn:Func}{c:Code}{args:List AV}{h0 h':Hp}{r:AV}(hf:Tryz.prog.funcs[f]?=some fn)(hn:(fn.name == "runtime.NumGoroutine")=false) (hb:fn.body=some c) (h:cp Tryz.prog mdT T fn.ntmps hi c ⟨pA 0 args,h0,1⟩ (retK T [] fn.results.toList (h0.map (·.1)) (fun r1 h1=>r1=r∧h1=h'))) (hc:jZ hi c=true:=by decide +kernel) (hlen:args.length≤fn.ntmps:=by simp):ai Tryz.prog f args h0 r h':=aC (ra:=[]) (md:=mdT) hT hf hn hb hc hlen h
attribute [go_sem] Tryz.ntmps53 Tryz.results53
attribute [go_sem] Tryz.ntmps117 Tryz.results117
def ux (a:List GNode):(Int × Int)→St
 | (b,i)=>⟨[(0,.sl (ab GNode.encS a)),(1,.lit (.int .i64 b)),(5,.lit (.int .i64 i))],[],2⟩
attribute [go_sem] ux
attribute [go_sem] Tryz.ntmps51 Tryz.results51
attribute [go_sem] Tryz.ntmps52 Tryz.results52
attribute [go_sem] Tryz.ntmps9 Tryz.results9
def vl (a:List Int):(Int × (List Int))→St
 | (i,b)=>⟨[(0,.sl (ab eI a)),(3,.ref 448 1 0 b.length),(4,.lit (.int .i64 i))],[(448,1,.row true (ab eI b))],2⟩
attribute [go_sem] vl
attribute [go_sem] Tryz.ntmps14 Tryz.results14
attribute [go_sem] Tryz.ntmps127 Tryz.results127
def uy (a:List GNode):(Int × (List GNode))→St
 | (i,b)=>⟨[(0,.sl (ab GNode.encS a)),(3,.ref 448 1 0 b.length),(4,.lit (.int .i64 i))],[(448,1,.row true (ab GNode.encO b))],2⟩
attribute [go_sem] uy
attribute [go_sem] Tryz.ntmps57 Tryz.results57
attribute [go_sem] Tryz.ntmps128 Tryz.results128
def vm (a:List GTie):(Int × (List GTie))→St
 | (i,b)=>⟨[(0,.sl (ab GTie.enc a)),(3,.ref 448 1 0 b.length),(4,.lit (.int .i64 i))],[(448,1,.row true (ab GTie.enc b))],2⟩
attribute [go_sem] vm
attribute [go_sem] Tryz.ntmps58 Tryz.results58
attribute [go_sem] Tryz.ntmps12 Tryz.results12
attribute [go_sem] Tryz.ntmps124 Tryz.results124
instance k124 {n:Int} {lo:Int} {hi:Int}:Ctr (cq n lo hi) (fun (res:Bool)=>ai Tryz.prog 124 [.lit (.int .i64 n),.lit (.int .i64 lo),.lit (.int .i64 hi)] [] (.lit (.bool res)) []):=⟨by
 intro res h0
 refine co (hi:=hi00) Tryz.func124 rfl rfl ?_
 unfold cq at h0
 exact run⟩
def qm (s:ByteArray)(i:Int):St:=⟨[(0,.lit (.string s)),(3,.lit (.int .i64 i))],[],2⟩
attribute [go_sem] qm
attribute [go_sem] Tryz.ntmps274 Tryz.results274
instance k274 {s:ByteArray}:Ctr (lZ s) (fun (res:Bool)=>ai Tryz.prog 274 [.lit (.string s)] [] (.lit (.bool res)) []):=⟨by
 intro res h0
 refine co (hi:=hi00) Tryz.func274 rfl rfl ?_
 unfold lZ at h0
 obtain ⟨q03,l0,h0⟩:=ae h0
 simp(config:=cS)only[go_sem, *]
 refine aj (m1:=.mk) (m2:=.mk) [.nf [0,3] []] (qm s) l0 ?_ ?_
 ·simp(config:=cS)only[go_sem, *]
 ·have k0:=h0
  clear h0 l0
  intro _ i_1 _ h0 gb0
  unfold gA at h0
  try dsimp only at h0
  exact run⟩
attribute [go_sem] Tryz.ntmps122 Tryz.results122
instance k122 {n:Int}:Ctr (dI n) (fun (res:Int)=>ai Tryz.prog 122 [.lit (.int .i64 n)] [] (.lit (.int .i64 res)) []):=⟨by
 intro res h0
 refine co (hi:=hi00) Tryz.func122 rfl rfl ?_
 unfold dI at h0
 exact run⟩
def pD (l:List Int)(a b:Int):St:=⟨[(0,.sl (ab eI l)),(5,.sl (ab eI l)),(6,.lit (.int .i64 a)),(7,.lit (.int .i64 b))],[],2⟩
attribute [go_sem] pD
attribute [go_sem] Tryz.ntmps275 Tryz.results275
instance k275 {l:List Int}:Ctr (gB l) (fun (res:Bool)=>ai Tryz.prog 275 [.sl (ab eI l)] [] (.lit (.bool res)) []):=⟨by
 intro res h0
 refine co (hi:=hi00) Tryz.func275 rfl rfl ?_
 unfold gB at h0
 obtain ⟨q06,l0,h0⟩:=ae h0
 simp(config:=cS)only[go_sem, *]
 refine aj (m1:=.mk) (m2:=.mk) [.nf [0,5,6,7] []] (pD l ((l.length:Nat):Int)) l0 ?_ ?_
 ·simp(config:=cS)only[go_sem, *]
 ·have k0:=h0
  clear h0 l0
  intro _ v7_1 _ h0 gb0
  unfold fF at h0
  try dsimp only at h0
  exact run⟩
attribute [go_sem] Tryz.ntmps217 Tryz.results217
instance k217 {n:GNode}:Ctr (ma n) (fun (res:Bool)=>ai Tryz.prog 217 [.agg (GNode.encS n)] [] (.lit (.bool res)) []):=⟨by
 intro res h0
 refine co (hi:=hi00) Tryz.func217 rfl rfl ?_
 unfold ma at h0
 exact run⟩
def nK (a:ByteArray)(c:List GNode)(d b:Int):St:=⟨[(1,.lit (.string a)),(8,.sl (ab GNode.encS c)),(9,.lit (.int .i64 d)),(10,.lit (.int .i64 b))],[],2⟩
attribute [go_sem] nK
attribute [go_sem] Tryz.ntmps218 Tryz.results218
instance k218 {s:GShow} {name:ByteArray}:Ctr (jt s name) (fun (res:Int)=>ai Tryz.prog 218 [.agg (GShow.encS s),.lit (.string name)] [] (.lit (.int .i64 res)) []):=⟨by
 intro res h0
 refine co (hi:=hi00) Tryz.func218 rfl rfl ?_
 unfold jt at h0
 obtain ⟨q02,l0,h0⟩:=ae h0
 simp(config:=cS)only[go_sem, *]
 refine aj (m1:=.mk) (m2:=.mk) [.nf [1,8,9,10] []] (nK name s.nodes ((s.nodes.length:Nat):Int)) l0 ?_ ?_
 ·simp(config:=cS)only[go_sem, *]
 ·have k0:=h0
  clear h0 l0
  intro _ v10_1 _ h0 gb0
  unfold dZ at h0
  try dsimp only at h0
  exact run⟩
def np (p:Int)(b:List GNode)(c a:Int):St:=⟨[(1,.lit (.int .i64 p)),(8,.sl (ab GNode.encS b)),(9,.lit (.int .i64 c)),(10,.lit (.int .i64 a))],[],2⟩
attribute [go_sem] np
attribute [go_sem] Tryz.ntmps121 Tryz.results121
instance k121 {s:GShow} {p:Int}:Ctr (bP s p) (fun (res:Int)=>ai Tryz.prog 121 [.agg (GShow.encS s),.lit (.int .i64 p)] [] (.lit (.int .i64 res)) []):=⟨by
 intro res h0
 refine co (hi:=hi00) Tryz.func121 rfl rfl ?_
 unfold bP at h0
 obtain ⟨q02,l0,h0⟩:=ae h0
 simp(config:=cS)only[go_sem, *]
 refine aj (m1:=.mk) (m2:=.mk) [.nf [1,8,9,10] []] (np p s.nodes ((s.nodes.length:Nat):Int)) l0 ?_ ?_
 ·simp(config:=cS)only[go_sem, *]
 ·have k0:=h0
  clear h0 l0
  intro _ v10_1 _ h0 gb0
  unfold dJ at h0
  try dsimp only at h0
  exact run⟩
def qn (n:Int)(a:List Int)(b c:Int):St:=⟨[(1,.lit (.int .i64 n)),(7,.sl (ab eI a)),(8,.lit (.int .i64 b)),(9,.lit (.int .i64 c))],[],2⟩
attribute [go_sem] qn
attribute [go_sem] Tryz.ntmps219 Tryz.results219
instance k219 {l:List Int} {n:Int}:Ctr (dG l n) (fun (res:Bool)=>ai Tryz.prog 219 [.sl (ab eI l),.lit (.int .i64 n)] [] (.lit (.bool res)) []):=⟨by
 intro res h0
 refine co (hi:=hi00) Tryz.func219 rfl rfl ?_
 unfold dG at h0
 obtain ⟨q02,l0,h0⟩:=ae h0
 simp(config:=cS)only[go_sem, *]
 refine aj (m1:=.mk) (m2:=.mk) [.nf [1,7,8,9] []] (qn n l ((l.length:Nat):Int)) l0 ?_ ?_
 ·simp(config:=cS)only[go_sem, *]
 ·have k0:=h0
  clear h0 l0
  intro _ v9_1 _ h0 gb0
  unfold gC at h0
  try dsimp only at h0
  exact run⟩
def mt (a b:List Int)(c d:Int):St:=⟨[(0,.sl (ab eI a)),(15,.sl (ab eI b)),(16,.lit (.int .i64 c)),(17,.lit (.int .i64 d))],[],2⟩
attribute [go_sem] mt
attribute [go_sem] Tryz.ntmps220 Tryz.results220
instance k220 {a:List Int} {b:List Int}:Ctr (ea a b) (fun (res:Bool)=>ai Tryz.prog 220 [.sl (ab eI a),.sl (ab eI b)] [] (.lit (.bool res)) []):=⟨by
 intro res h0
 refine co (hi:=hi00) Tryz.func220 rfl rfl ?_
 unfold ea at h0
 obtain ⟨r01,g0,h0⟩:=ae h0
 simp(config:=cS)only[go_sem, *]
 have g0:=ctr g0
 refine ag g0 ?_
 obtain ⟨_,h0⟩|⟨_,h0⟩:=itB h0
 ·obtain ⟨r02,g0,h0⟩:=ae h0
  simp(config:=cS)only[go_sem, *]
  have g0:=ctr g0
  refine ag g0 ?_
  obtain ⟨_,h0⟩|⟨_,h0⟩:=itB h0
  ·obtain ⟨q05,l0,h0⟩:=ae h0
   simp(config:=cS)only[go_sem, *]
   refine aj (m1:=.mk) (m2:=.mk) [.nf [0,15,16,17] []] (mt a b ((b.length:Nat):Int)) l0 ?_ ?_
   ·simp(config:=cS)only[go_sem, *]
   ·have k0:=h0
    clear h0 l0
    intro _ v17_1 _ h0 gb0
    unfold cX at h0
    try dsimp only at h0
    exact run
  ·exact run
 ·exact run⟩
def oL (a:List GNode)(b:Int)(c:List GTie)(d e:Int):St:=⟨[(1,.ptr 64 1 0 0),(33,.sl (ab GNode.encS a)),(34,.lit (.int .i64 b)),(35,.lit (.int .i64 e))],[(64,1,.var [.sl (ab GNode.encS a),.sl (ab GTie.enc c),.lit (.int .i64 d)])],2⟩
attribute [go_sem] oL
def oM (a:List GNode)(c d:Int)(b:List Int)(e:Int)(f:List GTie)(g:Int)(h:ByteArray)(i j:Int):St:=⟨[(1,.ptr 64 1 0 0),(6,.ptr 384 1 0 0),(66,.sl (ab GNode.encS a)),(67,.lit (.int .i64 c)),(68,.lit (.int .i64 d)),(73,.sl (ab eI b)),(74,.lit (.int .i64 e)),(75,.lit (.int .i64 j))],[(64,1,.var [.sl (ab GNode.encS a),.sl (ab GTie.enc f),.lit (.int .i64 g)]),(384,1,.var [.lit (.string h),.sl (ab eI b),.lit (.int .i64 i)])],2⟩
attribute [go_sem] oM
def oN (a:List GNode)(b:Int)(c:List GTie)(d e:Int):St:=⟨[(1,.ptr 64 1 0 0),(66,.sl (ab GNode.encS a)),(67,.lit (.int .i64 b)),(68,.lit (.int .i64 e))],[(64,1,.var [.sl (ab GNode.encS a),.sl (ab GTie.enc c),.lit (.int .i64 d)])],2⟩
attribute [go_sem] oN
@[go_sem] def hi140_16:DT:=.r2 0 35 .nil
@[go_sem] def hi140_15:DT:=.i1 0 (.i2 1 (.i0 2 [0] (.i2 3 (.i2 4 .nil))))
def BE:Hint where
 acts:=fun _=>[]
 draws:=fun
  | 15=>⟨hi140_15,[[],[],[1],[0,1,2],[0,1,2,3]],.range 5⟩
  | 16=>⟨hi140_16,[[],[0],[0,1],[0,1,2],[0,1,2,3],[0,1,2],.range 6,.range 7,.range 8,[0,1,2],.range 10,.range 11,.range 12,.range 13,.range 14,.range 13,.range 16,.range 17,.range 18,.range 13,[0,1,2,3,4,5,6,7,8,9,10,11,12,19],.range 21,.range 22,.range 23,.range 24,.range 25,.range 24,[0,1,2,3,4,5,6,7,8,9,10,11,12,13,14,15,16,17,18,19,20,21,22,23,26],.range 24,[0,1,2,3,4,5,6,7,8,9,10,11,12,13,14,15,16,17,18,19,20,21,22,23,26,27,28],[0,1,2,3,4,5,6,7,8,9,10,11,12,13,14,15,16,17,18,19,20,21,22,23,26,27,28,29],[0,1,2,3,4,5,6,7,8,9,10,11,12,13,14,15,16,17,18,19,20,21,22,23,26,27,28,29,30],.range 32,.range 33,.range 34],.range 35⟩
  | _=>⟨.nil,[],[]⟩
theorem Rg (i:Nat):BE.acts i=[]:=rfl
theorem Rh (i:Nat):BE.views i=none:=rfl
attribute [go_sem] Rg Rh Tryz.ntmps140 Tryz.results140
@[go_sem] theorem Vi:(BE.draws 15).order=hi140_15:=rfl
@[go_sem] theorem Vj:(BE.draws 16).order=hi140_16:=rfl
instance k140 {s:GShow}:Ctr (kb s) (fun (res:Bool)=>ai Tryz.prog 140 [.agg (GShow.encS s)] [] (.lit (.bool res)) []):=⟨by
 intro res h0
 refine co (hi:=BE) Tryz.func140 rfl rfl ?_
 unfold kb at h0
 obtain ⟨r01,g0,h0⟩:=ae h0
 simp(config:=cS)only[go_sem, *]
 have g0:=ctr g0
 refine ag g0 ?_
 obtain ⟨_,h0⟩|⟨_,h0⟩:=itB h0
 ·obtain ⟨x02,g1,h0⟩:=ae h0
  have:=dr (k:=0) g1
  obtain ⟨_,h0⟩|⟨_,h0⟩:=itP h0
  ·exact run
  ·obtain ⟨_,h0⟩|⟨_,h0⟩:=itP h0
   ·obtain ⟨q17,l0,h0⟩:=ae h0
    simp(config:=cS)only[go_sem, *]
    refine aj (m1:=.mk) (m2:=.mk) [.nf [1,33,34,35] [64]] (oL s.nodes ((s.nodes.length:Nat):Int) s.ties s.horizon) l0 ?_ ?_
    ·simp(config:=cS)only[go_sem, *]
    ·have k0:=h0
     clear h0 l0
     intro _ v35_1 _ h0 gb0
     unfold eE at h0
     try dsimp only at h0
     obtain ⟨_,h0⟩|⟨_,h0⟩:=itP h0
     ·exact run
     ·cases h0
      obtain rfl:=(aS gb0).symm
      clear gb0
      have h0:=k0
      clear k0
      try dsimp only at h0
      obtain ⟨q16,l0,h0⟩:=ae h0
      simp(config:=cS)only[go_sem, *]
      refine aj (m1:=.mk) (m2:=.mk) [.nf [1,66,67,68] [64]] (oN s.nodes ((s.nodes.length:Nat):Int) s.ties s.horizon) l0 ?_ ?_
      ·simp(config:=cS)only[go_sem, *]
      ·have k0:=h0
       clear h0 l0
       intro _ v68_2 _ h0 gb0
       unfold eG at h0
       try dsimp only at h0
       obtain ⟨_,h0⟩|⟨_,h0⟩:=itP h0
       ·obtain ⟨x07,_,_,_,h0⟩:=gtI h0
        obtain ⟨q15,l0,h0⟩:=ae h0
        simp(config:=cS)only[go_sem, *]
        refine aj (m1:=.mk) (m2:=.mk) [.nf [1,6,66,67,68,73,74,75] [64,384]] (oM s.nodes ((s.nodes.length:Nat):Int) v68_2 x07.label ((x07.label.length:Nat):Int) s.ties s.horizon x07.name x07.watch) l0 ?_ ?_
        ·simp(config:=cS)only[go_sem, *]
        ·have k0:=h0
         clear h0 l0
         intro _ v75_3 _ h0 gb0
         unfold eF at h0
         try dsimp only at h0
         exact run
       ·exact run
   ·exact run
 ·exact run⟩
def pE (b a:List Int)(c d:Int):St:=⟨[(1,.sl (ab eI b)),(12,.sl (ab eI a)),(13,.lit (.int .i64 c)),(14,.lit (.int .i64 d))],[],2⟩
attribute [go_sem] pE
attribute [go_sem] Tryz.ntmps221 Tryz.results221
instance k221 {a:List Int} {b:List Int}:Ctr (kY a b) (fun (res:Bool)=>ai Tryz.prog 221 [.sl (ab eI a),.sl (ab eI b)] [] (.lit (.bool res)) []):=⟨by
 intro res h0
 refine co (hi:=hi00) Tryz.func221 rfl rfl ?_
 unfold kY at h0
 obtain ⟨_,h0⟩|⟨_,h0⟩:=itP h0
 ·obtain ⟨q03,l0,h0⟩:=ae h0
  simp(config:=cS)only[go_sem, *]
  refine aj (m1:=.mk) (m2:=.mk) [.nf [1,12,13,14] []] (pE b a ((a.length:Nat):Int)) l0 ?_ ?_
  ·simp(config:=cS)only[go_sem, *]
  ·have k0:=h0
   clear h0 l0
   intro _ v14_1 _ h0 gb0
   unfold fG at h0
   try dsimp only at h0
   exact run
 ·exact run⟩
def pF (a:Int)(c:List GTie)(d b:Int):St:=⟨[(1,.lit (.int .i64 a)),(8,.sl (ab GTie.enc c)),(9,.lit (.int .i64 d)),(10,.lit (.int .i64 b))],[],2⟩
attribute [go_sem] pF
attribute [go_sem] Tryz.ntmps222 Tryz.results222
instance k222 {s:GShow} {node:Int}:Ctr (ji s node) (fun (res:Int)=>ai Tryz.prog 222 [.agg (GShow.encS s),.lit (.int .i64 node)] [] (.lit (.int .i64 res)) []):=⟨by
 intro res h0
 refine co (hi:=hi00) Tryz.func222 rfl rfl ?_
 unfold ji at h0
 obtain ⟨q02,l0,h0⟩:=ae h0
 simp(config:=cS)only[go_sem, *]
 refine aj (m1:=.mk) (m2:=.mk) [.nf [1,8,9,10] []] (pF node s.ties ((s.ties.length:Nat):Int)) l0 ?_ ?_
 ·simp(config:=cS)only[go_sem, *]
 ·have k0:=h0
  clear h0 l0
  intro _ v10_1 _ h0 gb0
  unfold fH at h0
  try dsimp only at h0
  exact run⟩
@[go_sem] def hi141_5:DT:=.r2 0 43 (.i2 44 (.i2 43 (.r2 45 4 .nil)))
def FB:Hint where
 acts:=fun _=>[]
 draws:=fun
  | 5=>⟨hi141_5,[[],[0],[0,1],[0,1,2],[0,1,2,3],.range 5,.range 6,.range 7,.range 8,.range 9,.range 10,.range 11,.range 12,.range 13,.range 14,.range 13,[0,1,2,3,4,5,6,7,8,9,10,11,12,15],.range 17,.range 18,.range 19,.range 20,.range 21,.range 22,.range 23,.range 24,.range 23,[0,1,2,3,4,5,6,7,8,9,10,11,12,13,14,15,16,17,18,19,20,21,22,25],.range 27,.range 28,.range 29,.range 23,[0,1,2,3,4,5,6,7,8,9,10,11,12,13,14,15,16,17,18,19,20,21,22,30],.range 23,[0,1,2,3,4,5,6,7,8,9,10,11,12,13,14,15,16,17,18,19,20,21,22,32],[0,1,2,3,4,5,6,7,8,9,10,11,12,13,14,15,16,17,18,19,20,21,22,30,31,32,33],[0,1,2,3,4,5,6,7,8,9,10,11,12,13,14,15,16,17,18,19,20,21,22,30,31,32,33,34],[0,1,2,3,4,5,6,7,8,9,10,11,12,13,14,15,16,17,18,19,20,21,22,30,31,32,33,34,35],.range 37,.range 38,.range 39,.range 40,.range 40,[0,1,2,3,4,5,6,7,8,9,10,11,12,13,14,15,16,17,18,19,20,21,22,23,24,25,26,27,28,29,30,31,32,33,34,35,36,37,38,39,41],.range 43,.range 40,.range 45,.range 46,.range 47,.range 48],.range 49⟩
  | _=>⟨.nil,[],[]⟩
theorem Ri (i:Nat):FB.acts i=[]:=rfl
theorem Rj (i:Nat):FB.views i=none:=rfl
attribute [go_sem] Ri Rj Tryz.ntmps141 Tryz.results141
@[go_sem] theorem Wh:(FB.draws 5).order=hi141_5:=rfl
instance k141 {s:GShow} {i:Int}:Ctr (mb s i) (fun (res:Bool)=>ai Tryz.prog 141 [.agg (GShow.encS s),.lit (.int .i64 i)] [] (.lit (.bool res)) []):=⟨by
 intro res h0
 refine co (hi:=FB) Tryz.func141 rfl rfl ?_
 unfold mb at h0
 exact run⟩
def qo (a:Int)(b:List GNode)(c:List GTie)(d e:Int):St:=⟨[(1,.ptr 64 1 0 0),(21,.lit (.int .i64 a)),(22,.lit (.int .i64 e))],[(64,1,.var [.sl (ab GNode.encS b),.sl (ab GTie.enc c),.lit (.int .i64 d)])],2⟩
attribute [go_sem] qo
attribute [go_sem] Tryz.ntmps69 Tryz.results69
instance k69 {s:GShow}:Ctr (iy s) (fun (res:Bool)=>ai Tryz.prog 69 [.agg (GShow.encS s)] [] (.lit (.bool res)) []):=⟨by
 intro res h0
 refine co (hi:=hi00) Tryz.func69 rfl rfl ?_
 unfold iy at h0
 obtain ⟨r01,g0,h0⟩:=ae h0
 simp(config:=cS)only[go_sem, *]
 have g0:=ctr g0
 refine ag g0 ?_
 obtain ⟨_,h0⟩|⟨_,h0⟩:=itB h0
 ·obtain ⟨_,h0⟩|⟨_,h0⟩:=itP h0
  ·exact run
  ·obtain ⟨r02,g0,h0⟩:=ae h0
   simp(config:=cS)only[go_sem, *]
   have g0:=ctr g0
   refine ag g0 ?_
   obtain ⟨_,h0⟩|⟨_,h0⟩:=itB h0
   ·obtain ⟨q04,l0,h0⟩:=ae h0
    simp(config:=cS)only[go_sem, *]
    refine aj (m1:=.mk) (m2:=.mk) [.nf [1,21,22] [64]] (qo ((s.ties.length:Nat):Int) s.nodes s.ties s.horizon) l0 ?_ ?_
    ·simp(config:=cS)only[go_sem, *]
    ·have k0:=h0
     clear h0 l0
     intro _ v22_1 _ h0 gb0
     unfold gD at h0
     try dsimp only at h0
     exact run
   ·exact run
 ·exact run⟩
def pG (c:List GTie)(d:Int):(Int × (List Int))→St
 | (b,a)=>⟨[(3,.ref 384 1 0 a.length),(8,.sl (ab GTie.enc c)),(9,.lit (.int .i64 d)),(10,.lit (.int .i64 b))],[(384,1,.row true (ab eI a))],2⟩
attribute [go_sem] pG
attribute [go_sem] Tryz.ntmps136 Tryz.results136
instance k136 {s:GShow}:Ctr (jj s) (fun (res:List Int)=>ai Tryz.prog 136 [.agg (GShow.encS s)] [] (.ref 20000 1 0 res.length) [(20000,1,.row true (ab eI res))]):=⟨by
 intro res h0
 refine aC (ra:=[.home 2]) (md:=mdT) hT (hi:=hi00) Tryz.func136 rfl rfl (by decide +kernel) (by simp) ?_
 unfold jj at h0
 obtain ⟨q02,l0,h0⟩:=ae h0
 simp(config:=cS)only[go_sem, *]
 refine aj (m1:=.mk) (m2:=.mk) [.nf [3,8,9,10] [384]] (pG s.ties ((s.ties.length:Nat):Int)) l0 ?_ ?_
 ·simp(config:=cS)only[go_sem, *]
 ·have k0:=h0
  clear h0 l0
  intro _ s0 _ h0 gb0
  obtain ⟨v10_1,out_1⟩:=s0
  unfold iB at h0
  try dsimp only at h0
  exact run⟩
def mu (b:Int)(c:List GNode)(d:List GTie)(e:Int)(a:List Int):(Int × Int)→St
 | (n,f)=>⟨[(1,.ptr 64 1 0 0),(3,.lit (.int .i64 n)),(11,.ref 704 1 0 a.length),(12,.lit (.int .i64 b)),(13,.lit (.int .i64 f))],[(64,1,.var [.sl (ab GNode.encS c),.sl (ab GTie.enc d),.lit (.int .i64 e)]),(704,1,.row true (ab eI a))],2⟩
attribute [go_sem] mu
def mv (a:List GNode)(b:List GTie)(c:Int):(Int × Int)→St
 | (n,p)=>⟨[(1,.ptr 64 1 0 0),(3,.lit (.int .i64 n)),(6,.lit (.int .i64 p))],[(64,1,.var [.sl (ab GNode.encS a),.sl (ab GTie.enc b),.lit (.int .i64 c)])],2⟩
attribute [go_sem] mv
@[go_sem] def hi66_7:DT:=.r2 0 17 .nil
def hi66:Hint where
 acts:=fun _=>[]
 draws:=fun
  | 7=>⟨hi66_7,[[],[],[1],[],[1,2,3],[1,2,3,4],[1,2,3,4,5],[],[7],[],[7,8,9],[7,8,9,10],[7,8,9,10,11],[1,2,3,4,5,6,7,8,9,10,11,12],[1,2,3,4,5,6,7,8,9,10,11,12,13],.range 15,.range 16],.range 17⟩
  | _=>⟨.nil,[],[]⟩
theorem TV (i:Nat):hi66.acts i=[]:=rfl
theorem TW (i:Nat):hi66.views i=none:=rfl
attribute [go_sem] TV TW Tryz.ntmps66 Tryz.results66
@[go_sem] theorem Xr:(hi66.draws 7).order=hi66_7:=rfl
instance k66 {s:GShow}:Ctr (bE s) (fun (res:Int)=>ai Tryz.prog 66 [.agg (GShow.encS s)] [] (.lit (.int .i64 res)) []):=⟨by
 intro res h0
 refine co (hi:=hi66) Tryz.func66 rfl rfl ?_
 unfold bE at h0
 obtain ⟨r01,g0,h0⟩:=ae h0
 simp(config:=cS)only[go_sem, *]
 have g0:=ctr g0
 refine ag g0 ?_
 obtain ⟨_,h0⟩|⟨_,h0⟩:=itB h0
 ·obtain ⟨r02,g0,h0⟩:=ae h0
  simp(config:=cS)only[go_sem, *]
  have g0:=ctr g0
  refine ag g0 ?_
  obtain ⟨q07,l0,h0⟩:=ae h0
  simp(config:=cS)only[go_sem, *]
  refine aj (m1:=.mk) (m2:=.mk) [.nf [1,3,11,12,13] [64,704]] (mu ((r02.length:Nat):Int) s.nodes s.ties s.horizon r02) l0 ?_ ?_
  ·simp(config:=cS)only[go_sem, *]
  ·have k0:=h0
   clear h0 l0
   intro _ s0 _ h0 gb0
   obtain ⟨n_1,v13_1⟩:=s0
   unfold bX at h0
   try dsimp only at h0
   obtain ⟨_,h0⟩|⟨_,h0⟩:=itP h0
   ·exact run
   ·cases h0
    obtain rfl:=(aS gb0).symm
    clear gb0
    have h0:=k0
    clear k0
    try dsimp only at h0
    obtain ⟨q06,l0,h0⟩:=ae h0
    simp(config:=cS)only[go_sem, *]
    refine aj (m1:=.mk) (m2:=.mk) [.nf [1,3,6] [64]] (mv s.nodes s.ties s.horizon) l0 ?_ ?_
    ·simp(config:=cS)only[go_sem, *]
    ·have k0:=h0
     clear h0 l0
     intro _ s0 _ h0 gb0
     obtain ⟨n_2,p_2⟩:=s0
     unfold cw at h0
     try dsimp only at h0
     exact run
 ·exact run⟩
def oO (c:Int)(d:List GNode)(e:List GTie)(f:Int)(b:List Int):(Int × Int × (List Int))→St
 | (n,g,a)=>⟨[(1,.lit (.int .i64 n)),(2,.ptr 128 1 0 0),(4,.ptr 256 1 0 0),(6,.ptr 384 1 0 0),(21,.ref 1344 1 0 b.length),(22,.lit (.int .i64 c)),(23,.lit (.int .i64 g))],[(128,1,.var [.sl (ab GNode.encS d),.sl (ab GTie.enc e),.lit (.int .i64 f)]),(256,1,.var [.lit (.slice none 0 0),.lit (.slice none 0 0)]),(384,1,.var [.ref 100024576 1 0 a.length,.lit (.slice none 0 0)]),(100024576,1,.row true (ab eI a)),(1344,1,.row true (ab eI b))],2⟩
attribute [go_sem] oO
def oP (c:List GNode)(d:List GTie)(e:Int)(a:List Int):(Int × Int × (List Int))→St
 | (n,p,b)=>⟨[(1,.lit (.int .i64 n)),(2,.ptr 128 1 0 0),(4,.ptr 256 1 0 0),(6,.ptr 384 1 0 0),(10,.lit (.int .i64 p))],[(128,1,.var [.sl (ab GNode.encS c),.sl (ab GTie.enc d),.lit (.int .i64 e)]),(256,1,.var [.lit (.slice none 0 0),.lit (.slice none 0 0)]),(384,1,.var [.ref 100024576 1 0 a.length,.ref 100024577 1 0 b.length]),(100024576,1,.row true (ab eI a)),(100024577,1,.row true (ab eI b))],2⟩
attribute [go_sem] oP
@[go_sem] def hi67_8:DT:=.i1 0 (.i1 1 (.r2 2 10 (.i0 12 [0,1] (.r2 13 3 .nil))))
@[go_sem] def hi67_7:DT:=.r2 0 15 .nil
def hi67:Hint where
 acts:=fun _=>[]
 draws:=fun
  | 7=>⟨hi67_7,[[],[0],[],[0,1,2],[0,1,2,3],.range 5,[],[6],[],[6,7,8],[6,7,8,9],[6,7,8,9,10],.range 12,.range 13,.range 14],.range 15⟩
  | 8=>⟨hi67_8,[[],[0],[],[2],[],[2,3,4],[2,3,4,5],[2,3,4,5,6],[],[],[8,9],[2,3,4,5,6,7,8,9,10],[2,3,4,5,6,7,8,9,10,11],.range 13,.range 14,.range 15],.range 16⟩
  | _=>⟨.nil,[],[]⟩
theorem TX (i:Nat):hi67.acts i=[]:=rfl
theorem TY (i:Nat):hi67.views i=none:=rfl
attribute [go_sem] TX TY Tryz.ntmps67 Tryz.results67
@[go_sem] theorem Xs:(hi67.draws 7).order=hi67_7:=rfl
@[go_sem] theorem Xt:(hi67.draws 8).order=hi67_8:=rfl
instance k67 {s:GShow} {n:Int}:Ctr (cG s n) (fun (res:GChoice × Bool)=>ai Tryz.prog 67 [.agg (GShow.encS s),.lit (.int .i64 n)] [] (.tup [.agg [.ref 20000 1 0 res.1.lengths.length,.ref 20001 1 0 res.1.values.length],.lit (.bool res.2)]) [(20000,1,.row true (ab eI res.1.lengths)),(20001,1,.row true (ab eI res.1.values))]):=⟨by
 intro res h0
 refine aC (ra:=[.homeCell 256 0,.homeCell 256 1]) (md:=mdT) hT (hi:=hi67) Tryz.func67 rfl rfl (by decide +kernel) (by simp) ?_
 unfold cG at h0
 obtain ⟨r01,g0,h0⟩:=ae h0
 simp(config:=cS)only[go_sem, *]
 have g0:=ctr g0
 refine ag g0 ?_
 obtain ⟨r02,g0,h0⟩:=ae h0
 simp(config:=cS)only[go_sem, *]
 have g0:=ctr g0
 refine ag g0 ?_
 obtain ⟨_,h0⟩|⟨_,h0⟩:=itB h0
 ·obtain ⟨r03,g0,h0⟩:=ae h0
  simp(config:=cS)only[go_sem, *]
  have g0:=ctr g0
  refine ag g0 ?_
  obtain ⟨q08,l0,h0⟩:=ae h0
  simp(config:=cS)only[go_sem, *]
  refine aj (m1:=.mk) (m2:=.mk) [.homeCell 384 0,.nf [1,2,4,6,21,22,23] [128,256,384,100024576,1344]] (oO ((r03.length:Nat):Int) s.nodes s.ties s.horizon r03) l0 ?_ ?_
  ·simp(config:=cS)only[go_sem, *]
  ·have k0:=h0
   clear h0 l0
   intro _ s0 _ h0 gb0
   obtain ⟨n_1,v23_1,h100024576_1⟩:=s0
   unfold bJ at h0
   try dsimp only at h0
   obtain ⟨_,h0⟩|⟨_,h0⟩:=itP h0
   ·exact run
   ·cases h0
    obtain rfl:=(aS gb0).symm
    clear gb0
    have h0:=k0
    clear k0
    try dsimp only at h0
    obtain ⟨q07,l0,h0⟩:=ae h0
    simp(config:=cS)only[go_sem, *]
    refine aj (m1:=.mk) (m2:=.mk) [.homeCell 384 1,.nf [1,2,4,6,10] [128,256,384,100024576,100024577]] (oP s.nodes s.ties s.horizon h100024576_1) l0 ?_ ?_
    ·simp(config:=cS)only[go_sem, *]
    ·have k0:=h0
     clear h0 l0
     intro _ s0 _ h0 gb0
     obtain ⟨n_2,p_2,h100024577_2⟩:=s0
     unfold bK at h0
     try dsimp only at h0
     exact run
 ·exact run⟩
def uz (d:List GNode)(e c:Int)(b:List GTie):(Int × (List GNode))→St
 | (f,a)=>⟨[(2,.ptr 128 1 0 0),(3,.ptr 192 1 0 0),(14,.sl (ab GNode.encS d)),(15,.lit (.int .i64 e)),(16,.lit (.int .i64 f))],[(128,1,.var [.lit (.slice none 0 0),.lit (.slice none 0 0),.lit (.int .i64 0)]),(192,1,.var [.ref 100012288 1 0 a.length,.ref 384 1 0 b.length,.lit (.int .i64 c)]),(100012288,1,.row true (ab GNode.encO a)),(384,1,.row true (ab GTie.enc b))],2⟩
attribute [go_sem] uz
@[go_sem] def hi212_5:DT:=.i1 0 (.i1 1 (.i1 2 (.i1 3 (.i1 5 (.i1 6 (.i1 8 (.i1 9 (.i0 4 [0,1,2,3,5,6,8,9] (.i0 7 [0,1,2,3,8,9] (.i2 10 (.i0 11 [0,1] (.r2 12 3 .nil))))))))))))
@[go_sem] def hi212_1:DT:=.i1 1 (.i1 2 (.i1 4 (.i1 5 (.fork (.i0 0 [1,2,4,5] (.fork (.i0 3 [4,5] (.i2 6 (.i0 7 [1,2,4,5] (.i2 8 .nil)))) (.i0 7 [1,2,4,5] (.i0 3 [4,5] (.i2 6 (.i2 8 .nil)))))) (.i0 7 [1,2,4,5] (.i0 0 [1,2,4,5] (.i0 3 [4,5] (.i2 6 (.i2 8 .nil)))))))))
def FC:Hint where
 acts:=fun _=>[]
 draws:=fun
  | 1=>⟨hi212_1,[[],[],[1],[0,1,2],[],[4],.range 6,[],.range 8],.range 9⟩
  | 5=>⟨hi212_5,[[],[0],[],[2],[],[],[5],[4,5,6],[],[8],[2,3,4,5,6,7,8,9],[2,3,4,5,6,7,8,9,10],.range 12,.range 13,.range 14],.range 15⟩
  | _=>⟨.nil,[],[]⟩
theorem Rk (i:Nat):FC.acts i=[]:=rfl
theorem Rl (i:Nat):FC.views i=none:=rfl
attribute [go_sem] Rk Rl Tryz.ntmps212 Tryz.results212
@[go_sem] theorem Wi:(FC.draws 1).order=hi212_1:=rfl
@[go_sem] theorem Wj:(FC.draws 5).order=hi212_5:=rfl
def nq (c:Int)(b:List Int):(Int × (List Int))→St
 | (d,a)=>⟨[(2,.ptr 128 1 0 0),(3,.ptr 192 1 0 0),(14,.lit (.int .i64 c)),(15,.lit (.int .i64 d))],[(128,1,.var [.lit (.int .i64 0),.lit (.slice none 0 0),.lit (.slice none 0 0)]),(192,1,.var [.lit (.int .i64 0),.ref 100012289 1 0 a.length,.ref 640 1 0 b.length]),(100012289,1,.row true (ab eI a)),(640,1,.row true (ab eI b))],2⟩
attribute [go_sem] nq
attribute [go_sem] Tryz.ntmps94 Tryz.results94
instance k94 {s:GShow}:Ctr (iK s) (fun (res:GState)=>ai Tryz.prog 94 [.agg (GShow.encS s)] [] (.agg [.lit (.int .i64 res.now),.ref 20000 1 0 res.times.length,.ref 20001 1 0 res.values.length]) [(20000,1,.row true (ab eI res.times)),(20001,1,.row true (ab eI res.values))]):=⟨by
 intro res h0
 refine aC (ra:=[.homeCell 128 1,.homeCell 128 2]) (md:=mdT) hT (hi:=hi00) Tryz.func94 rfl rfl (by decide +kernel) (by simp) ?_
 unfold iK at h0
 obtain ⟨r01,g0,h0⟩:=ae h0
 simp(config:=cS)only[go_sem, *]
 have g0:=ctr g0
 refine ag g0 ?_
 obtain ⟨_,h0⟩|⟨_,h0⟩:=itB h0
 ·obtain ⟨q02,l0,h0⟩:=ae h0
  simp(config:=cS)only[go_sem, *]
  refine aj (m1:=.mk) (m2:=.mk) [.homeCell 192 1,.nf [2,3,14,15] [128,192,100012289,640]] (nq ((s.nodes.length:Nat):Int) (List.replicate 3 0)) l0 ?_ ?_
  ·simp(config:=cS)only[go_sem, *]
  ·have k0:=h0
   clear h0 l0
   intro _ s0 _ h0 gb0
   obtain ⟨v15_1,h100012289_1⟩:=s0
   unfold dL at h0
   try dsimp only at h0
   exact run
 ·exact run⟩
@[go_sem] def hi137_3:DT:=.i2 0 (.i1 2 (.i2 4 (.i0 1 [2] (.i2 3 (.r2 5 3 .nil)))))
def JV:Hint where
 acts:=fun _=>[]
 draws:=fun
  | 3=>⟨hi137_3,[[],[0],[],[0,1,2],[],.range 5,.range 6,.range 7],.range 8⟩
  | _=>⟨.nil,[],[]⟩
theorem Rm (i:Nat):JV.acts i=[]:=rfl
theorem Rn (i:Nat):JV.views i=none:=rfl
attribute [go_sem] Rm Rn Tryz.ntmps137 Tryz.results137
@[go_sem] theorem Wk:(JV.draws 3).order=hi137_3:=rfl
def tM (d:Int)(e:List GNode)(f:List GTie)(g:Int)(b c a:List Int)(h:Int):St:=⟨[(2,.ptr 128 1 0 0),(3,.ptr 192 1 0 0),(27,.ref 896 1 0 a.length),(28,.lit (.int .i64 d)),(29,.lit (.int .i64 h))],[(128,1,.var [.sl (ab GNode.encS e),.sl (ab GTie.enc f),.lit (.int .i64 g)]),(192,1,.var [.sl (ab eI b),.sl (ab eI c)]),(896,1,.row true (ab eI a))],2⟩
attribute [go_sem] tM
def tN (a:List Int)(b:Int)(c:List GNode)(d:List GTie)(e f:Int):St:=⟨[(2,.ptr 128 1 0 0),(55,.sl (ab eI a)),(56,.lit (.int .i64 b)),(57,.lit (.int .i64 f))],[(128,1,.var [.sl (ab GNode.encS c),.sl (ab GTie.enc d),.lit (.int .i64 e)])],2⟩
attribute [go_sem] tN
@[go_sem] def hi118_9:DT:=.r2 0 19 .nil
def JW:Hint where
 acts:=fun _=>[]
 draws:=fun
  | 9=>⟨hi118_9,[[],[0],[],[0,1,2],[0,1,2,3],[],[5],[],[5,6,7],[5,6,7,8],[5,6,7,8,9],[],[11],[],[11,12,13],[11,12,13,14],[11,12,13,14,15],.range 17,.range 18],.range 19⟩
  | _=>⟨.nil,[],[]⟩
theorem Ro (i:Nat):JW.acts i=[]:=rfl
theorem Rp (i:Nat):JW.views i=none:=rfl
attribute [go_sem] Ro Rp Tryz.ntmps118 Tryz.results118
@[go_sem] theorem Wl:(JW.draws 9).order=hi118_9:=rfl
@[go_sem] def hi258_1:DT:=.i1 0 (.i1 1 (.i1 3 (.i1 4 (.i1 7 (.i1 8 (.fork (.i0 2 [0,1,3,4,7,8] (.fork (.i0 5 [0,1,7,8] (.i0 6 [0,1,3,4,7,8] (.i0 9 [0,1] (.i2 10 (.i2 11 .nil))))) (.i0 6 [0,1,3,4,7,8] (.i0 5 [0,1,7,8] (.i0 9 [0,1] (.i2 10 (.i2 11 .nil))))))) (.i0 6 [0,1,3,4,7,8] (.i0 2 [0,1,3,4,7,8] (.i0 5 [0,1,7,8] (.i0 9 [0,1] (.i2 10 (.i2 11 .nil))))))))))))
def FD:Hint where
 acts:=fun _=>[]
 draws:=fun
  | 1=>⟨hi258_1,[[],[0],[],[],[3],[2,3,4],[],[],[7],[2,3,4,5,6,7,8],.range 10,.range 11],.range 12⟩
  | _=>⟨.nil,[],[]⟩
theorem Rq (i:Nat):FD.acts i=[]:=rfl
theorem Rr (i:Nat):FD.views i=none:=rfl
attribute [go_sem] Rq Rr Tryz.ntmps258 Tryz.results258
@[go_sem] theorem Wm:(FD.draws 1).order=hi258_1:=rfl
instance k258 {v0:GState}:Ctr (gG v0) (fun (res:GState)=>ai Tryz.prog 258 [.agg (GState.encS v0)] [] (.agg [.lit (.int .i64 res.now),.ref 20000 1 0 res.times.length,.ref 20001 1 0 res.values.length]) [(20000,1,.row true (ab eI res.times)),(20001,1,.row true (ab eI res.values))]):=⟨by
 intro res h0
 refine aC (ra:=[.homeCell 128 1,.homeCell 128 2]) (md:=mdT) hT (hi:=FD) Tryz.func258 rfl rfl (by decide +kernel) (by simp) ?_
 unfold gG at h0
 try simp(config:=cS)only[go_sem, *]
 refine ei ?_ ?_
 ·try simp(config:=cS)only[go_sem, *]
  refine ei ?_ ?_
  ·exact run
  ·exact run
 ·exact run⟩
@[go_sem] def hi270_1:DT:=.i1 0 (.i1 1 (.i1 3 (.i1 4 (.i1 7 (.i1 8 (.i1 11 (.i1 12 (.fork (.i0 2 [0,1,3,4,7,8,11,12] (.fork (.i0 5 [0,1,7,8,11,12] (.fork (.i0 6 [0,1,3,4,7,8,11,12] (.fork (.i0 9 [0,1,11,12] (.i0 10 [0,1,3,4,7,8,11,12] (.i0 13 [0,1] (.i2 14 (.i2 15 .nil))))) (.i0 10 [0,1,3,4,7,8,11,12] (.i0 9 [0,1,11,12] (.i0 13 [0,1] (.i2 14 (.i2 15 .nil))))))) (.i0 10 [0,1,3,4,7,8,11,12] (.i0 6 [0,1,3,4,7,8,11,12] (.i0 9 [0,1,11,12] (.i0 13 [0,1] (.i2 14 (.i2 15 .nil)))))))) (.fork (.i0 6 [0,1,3,4,7,8,11,12] (.fork (.i0 5 [0,1,7,8,11,12] (.fork (.i0 9 [0,1,11,12] (.i0 10 [0,1,3,4,7,8,11,12] (.i0 13 [0,1] (.i2 14 (.i2 15 .nil))))) (.i0 10 [0,1,3,4,7,8,11,12] (.i0 9 [0,1,11,12] (.i0 13 [0,1] (.i2 14 (.i2 15 .nil))))))) (.i0 10 [0,1,3,4,7,8,11,12] (.i0 5 [0,1,7,8,11,12] (.i0 9 [0,1,11,12] (.i0 13 [0,1] (.i2 14 (.i2 15 .nil)))))))) (.i0 10 [0,1,3,4,7,8,11,12] (.fork (.i0 5 [0,1,7,8,11,12] (.i0 6 [0,1,3,4,7,8,11,12] (.i0 9 [0,1,11,12] (.i0 13 [0,1] (.i2 14 (.i2 15 .nil)))))) (.i0 6 [0,1,3,4,7,8,11,12] (.i0 5 [0,1,7,8,11,12] (.i0 9 [0,1,11,12] (.i0 13 [0,1] (.i2 14 (.i2 15 .nil))))))))))) (.fork (.i0 6 [0,1,3,4,7,8,11,12] (.fork (.i0 2 [0,1,3,4,7,8,11,12] (.fork (.i0 5 [0,1,7,8,11,12] (.fork (.i0 9 [0,1,11,12] (.i0 10 [0,1,3,4,7,8,11,12] (.i0 13 [0,1] (.i2 14 (.i2 15 .nil))))) (.i0 10 [0,1,3,4,7,8,11,12] (.i0 9 [0,1,11,12] (.i0 13 [0,1] (.i2 14 (.i2 15 .nil))))))) (.i0 10 [0,1,3,4,7,8,11,12] (.i0 5 [0,1,7,8,11,12] (.i0 9 [0,1,11,12] (.i0 13 [0,1] (.i2 14 (.i2 15 .nil)))))))) (.i0 10 [0,1,3,4,7,8,11,12] (.i0 2 [0,1,3,4,7,8,11,12] (.i0 5 [0,1,7,8,11,12] (.i0 9 [0,1,11,12] (.i0 13 [0,1] (.i2 14 (.i2 15 .nil))))))))) (.i0 10 [0,1,3,4,7,8,11,12] (.fork (.i0 2 [0,1,3,4,7,8,11,12] (.fork (.i0 5 [0,1,7,8,11,12] (.i0 6 [0,1,3,4,7,8,11,12] (.i0 9 [0,1,11,12] (.i0 13 [0,1] (.i2 14 (.i2 15 .nil)))))) (.i0 6 [0,1,3,4,7,8,11,12] (.i0 5 [0,1,7,8,11,12] (.i0 9 [0,1,11,12] (.i0 13 [0,1] (.i2 14 (.i2 15 .nil)))))))) (.i0 6 [0,1,3,4,7,8,11,12] (.i0 2 [0,1,3,4,7,8,11,12] (.i0 5 [0,1,7,8,11,12] (.i0 9 [0,1,11,12] (.i0 13 [0,1] (.i2 14 (.i2 15 .nil))))))))))))))))))
def JX:Hint where
 acts:=fun _=>[]
 draws:=fun
  | 1=>⟨hi270_1,[[],[0],[],[],[3],[2,3,4],[],[],[7],[2,3,4,5,6,7,8],[],[],[11],[2,3,4,5,6,7,8,9,10,11,12],.range 14,.range 15],.range 16⟩
  | _=>⟨.nil,[],[]⟩
theorem Rs (i:Nat):JX.acts i=[]:=rfl
theorem Rt (i:Nat):JX.views i=none:=rfl
attribute [go_sem] Rs Rt Tryz.ntmps270 Tryz.results270
@[go_sem] theorem Wn:(JX.draws 1).order=hi270_1:=rfl
def uA (i:List am)(j f g:Int)(h:Bool)(b:List GNode)(c:List GTie)(d e:List Int):(Int × (List am))→St
 | (k,a)=>⟨[(2,.ptr 128 1 0 0),(3,.ptr 192 1 0 0),(16,.sl (ab am.encS i)),(17,.lit (.int .i64 j)),(18,.lit (.int .i64 k))],[(128,1,.var [.lit (.slice none 0 0),.lit (.slice none 0 0),.lit (.int .i64 0),.lit (.int .i64 0),.lit (.slice none 0 0),.lit (.slice none 0 0),.lit (.bool false),.lit (.slice none 0 0)]),(192,1,.var [.ref 512 1 0 b.length,.ref 513 1 0 c.length,.lit (.int .i64 f),.lit (.int .i64 g),.ref 704 1 0 d.length,.ref 705 1 0 e.length,.lit (.bool h),.ref 100012295 1 0 a.length]),(512,1,.row true (ab GNode.encO b)),(513,1,.row true (ab GTie.enc c)),(704,1,.row true (ab eI d)),(705,1,.row true (ab eI e)),(100012295,1,.row true (ab am.encO a))],2⟩
attribute [go_sem] uA
@[go_sem] def hi213_5:DT:=.i1 0 (.i1 1 (.i2 2 (.i0 3 [0,1] (.i0 4 [0,1] (.r2 5 3 .nil)))))
@[go_sem] def hi213_1:DT:=.i1 0 (.i1 1 (.i1 3 (.i1 4 (.i1 6 (.i1 7 (.fork (.i0 2 [3,4,6,7] (.fork (.i0 5 [6,7] (.i2 8 (.i0 9 [0,1,3,4,6,7] (.i2 10 .nil)))) (.i0 9 [0,1,3,4,6,7] (.i0 5 [6,7] (.i2 8 (.i2 10 .nil)))))) (.i0 9 [0,1,3,4,6,7] (.i0 2 [3,4,6,7] (.i0 5 [6,7] (.i2 8 (.i2 10 .nil)))))))))))
def FE:Hint where
 acts:=fun _=>[]
 draws:=fun
  | 1=>⟨hi213_1,[[],[0],[0,1],[],[3],.range 5,[],[6],.range 8,[],.range 10],.range 11⟩
  | 5=>⟨hi213_5,[[],[0],[],[2],[2,3],.range 5,.range 6,.range 7],.range 8⟩
  | _=>⟨.nil,[],[]⟩
theorem Ru (i:Nat):FE.acts i=[]:=rfl
theorem Rv (i:Nat):FE.views i=none:=rfl
attribute [go_sem] Ru Rv Tryz.ntmps213 Tryz.results213
@[go_sem] theorem Wo:(FE.draws 1).order=hi213_1:=rfl
@[go_sem] theorem Wp:(FE.draws 5).order=hi213_5:=rfl
def tO (v:List Int)(a b:Int):St:=⟨[(0,.sl (ab eI v)),(5,.sl (ab eI v)),(6,.lit (.int .i64 a)),(7,.lit (.int .i64 b))],[],2⟩
attribute [go_sem] tO
attribute [go_sem] Tryz.ntmps273 Tryz.results273
def uB (a:List Int)(d:Int)(e:List GNode)(f:List GTie)(g b:Int)(c:List Int)(h:Int):St:=⟨[(2,.ptr 128 1 0 0),(3,.ptr 192 1 0 0),(44,.sl (ab eI a)),(45,.lit (.int .i64 d)),(46,.lit (.int .i64 h))],[(128,1,.var [.sl (ab GNode.encS e),.sl (ab GTie.enc f),.lit (.int .i64 g)]),(192,1,.var [.lit (.int .i64 b),.sl (ab eI a),.sl (ab eI c)])],2⟩
attribute [go_sem] uB
def uC (d:List GNode)(e:List GTie)(f a:Int)(b c:List Int)(p:Int):St:=⟨[(2,.ptr 128 1 0 0),(3,.ptr 192 1 0 0),(7,.lit (.int .i64 p))],[(128,1,.var [.sl (ab GNode.encS d),.sl (ab GTie.enc e),.lit (.int .i64 f)]),(192,1,.var [.lit (.int .i64 a),.sl (ab eI b),.sl (ab eI c)])],2⟩
attribute [go_sem] uC
@[go_sem] def hi216_13:DT:=.r2 0 18 .nil
def JY:Hint where
 acts:=fun _=>[]
 draws:=fun
  | 13=>⟨hi216_13,[[],[0],[],[2],[0,1,2,3],.range 5,.range 6,[],[7],[7,8],[7,8,9],[7,8,9,10],[7,8,9],[7,8,9,10,11,12],[7,8,9,10,11,12,13],[7,8,9,10,11,12,13,14],[7,8,9,10,11,12,13,14,15],.range 17],.range 18⟩
  | _=>⟨.nil,[],[]⟩
theorem Rw (i:Nat):JY.acts i=[]:=rfl
theorem Rx (i:Nat):JY.views i=none:=rfl
attribute [go_sem] Rw Rx Tryz.ntmps216 Tryz.results216
@[go_sem] theorem Vk:(JY.draws 13).order=hi216_13:=rfl
def nL (e:List GTie)(f b:Int)(c d:List Int):(Int × (List Int))→St
 | (g,a)=>⟨[(3,.ptr 192 1 0 0),(5,.ref 512 1 0 a.length),(10,.sl (ab GTie.enc e)),(11,.lit (.int .i64 f)),(12,.lit (.int .i64 g))],[(192,1,.var [.lit (.int .i64 b),.sl (ab eI c),.sl (ab eI d)]),(512,1,.row true (ab eI a))],2⟩
attribute [go_sem] nL
attribute [go_sem] Tryz.ntmps255 Tryz.results255
instance k255 {s:GShow} {v1:GState}:Ctr (jw s v1) (fun (res:List Int)=>ai Tryz.prog 255 [.agg (GShow.encS s),.agg (GState.encS v1)] [] (.ref 20000 1 0 res.length) [(20000,1,.row true (ab eI res))]):=⟨by
 intro res h0
 refine aC (ra:=[.home 4]) (md:=mdT) hT (hi:=hi00) Tryz.func255 rfl rfl (by decide +kernel) (by simp) ?_
 unfold jw at h0
 obtain ⟨q04,l0,h0⟩:=ae h0
 simp(config:=cS)only[go_sem, *]
 refine aj (m1:=.mk) (m2:=.mk) [.nf [3,5,10,11,12] [192,512]] (nL s.ties ((s.ties.length:Nat):Int) v1.now v1.times v1.values) l0 ?_ ?_
 ·simp(config:=cS)only[go_sem, *]
 ·have k0:=h0
  clear h0 l0
  intro _ s0 _ h0 gb0
  obtain ⟨v12_1,out_1⟩:=s0
  unfold fZ at h0
  try dsimp only at h0
  exact run⟩
def nr (g:Int)(h:List GNode)(i:List GTie)(j d:Int)(e f b:List Int):(Int × (List Int) × (List Int))→St
 | (k,a,c)=>⟨[(2,.ptr 128 1 0 0),(3,.ptr 192 1 0 0),(6,.ref 704 1 0 a.length),(7,.ref 768 1 0 c.length),(15,.ref 960 1 0 b.length),(16,.lit (.int .i64 g)),(17,.lit (.int .i64 k))],[(128,1,.var [.sl (ab GNode.encS h),.sl (ab GTie.enc i),.lit (.int .i64 j)]),(192,1,.var [.lit (.int .i64 d),.sl (ab eI e),.sl (ab eI f)]),(704,1,.row true (ab eI a)),(768,1,.row true (ab eI c)),(960,1,.row true (ab eI b))],2⟩
attribute [go_sem] nr
@[go_sem] def hi183_6:DT:=.r2 0 14 .nil
def FF:Hint where
 acts:=fun _=>[]
 draws:=fun
  | 6=>⟨hi183_6,[[],[0],[],[2],[],[4],[],[4,5,6],[4,5,6,7],[4,5,6,7,8],[2,3,4,5,6,7,8,9],[2,3,4,5,6,7,8,9,10],.range 12,.range 13],.range 14⟩
  | _=>⟨.nil,[],[]⟩
theorem Ry (i:Nat):FF.acts i=[]:=rfl
theorem Rz (i:Nat):FF.views i=none:=rfl
attribute [go_sem] Ry Rz Tryz.ntmps183 Tryz.results183
@[go_sem] theorem Wq:(FF.draws 6).order=hi183_6:=rfl
instance k183 {s:GShow} {v1:GState}:Ctr (iL s v1) (fun (res:(List Int) × (List Int))=>ai Tryz.prog 183 [.agg (GShow.encS s),.agg (GState.encS v1)] [] (.tup [.ref 20000 1 0 res.1.length,.ref 20001 1 0 res.2.length]) [(20000,1,.row true (ab eI res.1)),(20001,1,.row true (ab eI res.2))]):=⟨by
 intro res h0
 refine aC (ra:=[.home 4,.home 5]) (md:=mdT) hT (hi:=FF) Tryz.func183 rfl rfl (by decide +kernel) (by simp) ?_
 unfold iL at h0
 obtain ⟨r01,g0,h0⟩:=ae h0
 simp(config:=cS)only[go_sem, *]
 have g0:=ctr g0
 refine ag g0 ?_
 obtain ⟨q05,l0,h0⟩:=ae h0
 simp(config:=cS)only[go_sem, *]
 refine aj (m1:=.mk) (m2:=.mk) [.nf [2,3,6,7,15,16,17] [128,192,704,768,960]] (nr ((r01.length:Nat):Int) s.nodes s.ties s.horizon v1.now v1.times v1.values r01) l0 ?_ ?_
 ·simp(config:=cS)only[go_sem, *]
 ·have k0:=h0
  clear h0 l0
  intro _ s0 _ h0 gb0
  obtain ⟨v17_1,must_1,may_1⟩:=s0
  unfold fj at h0
  try dsimp only at h0
  exact run⟩
def pH (n:Int)(d:List Int)(b:Int):(Int × (List Int))→St
 | (c,a)=>⟨[(1,.lit (.int .i64 n)),(5,.ref 512 1 0 a.length),(9,.sl (ab eI d)),(10,.lit (.int .i64 b)),(11,.lit (.int .i64 c))],[(512,1,.row true (ab eI a))],2⟩
attribute [go_sem] pH
attribute [go_sem] Tryz.ntmps187 Tryz.results187
instance k187 {l:List Int} {n:Int}:Ctr (jl l n) (fun (res:List Int)=>ai Tryz.prog 187 [.sl (ab eI l),.lit (.int .i64 n)] [] (.ref 20000 1 0 res.length) [(20000,1,.row true (ab eI res))]):=⟨by
 intro res h0
 refine aC (ra:=[.home 4]) (md:=mdT) hT (hi:=hi00) Tryz.func187 rfl rfl (by decide +kernel) (by simp) ?_
 unfold jl at h0
 obtain ⟨q02,l0,h0⟩:=ae h0
 simp(config:=cS)only[go_sem, *]
 refine aj (m1:=.mk) (m2:=.mk) [.nf [1,5,9,10,11] [512]] (pH n l ((l.length:Nat):Int)) l0 ?_ ?_
 ·simp(config:=cS)only[go_sem, *]
 ·have k0:=h0
  clear h0 l0
  intro _ s0 _ h0 gb0
  obtain ⟨v11_1,out_1⟩:=s0
  unfold iM at h0
  try dsimp only at h0
  exact run⟩
def oQ (a b:List Int):(Int × Int × (List Int))→St
 | (i,k,c)=>⟨[(0,.sl (ab eI a)),(1,.sl (ab eI b)),(5,.ref 512 1 0 c.length),(6,.lit (.int .i64 i)),(7,.lit (.int .i64 k))],[(512,1,.row true (ab eI c))],2⟩
attribute [go_sem] oQ
@[go_sem] def hi186_5:DT:=.r2 0 21 .nil
def FG:Hint where
 acts:=fun _=>[]
 draws:=fun
  | 5=>⟨hi186_5,[[],[],[1],[0,1,2],[0,1,2,3],.range 5,.range 5,[0,1,2,3,4,6],.range 8,.range 9,.range 10,.range 10,.range 12,.range 13,.range 10,.range 10,[0,1,2,3,4,5,6,7,8,9,14,15],[0,1,2,3,4,5,6,7,8,9,14,15,16],.range 18,.range 19,.range 20],.range 21⟩
  | _=>⟨.nil,[],[]⟩
theorem RA (i:Nat):FG.acts i=[]:=rfl
theorem RB (i:Nat):FG.views i=none:=rfl
attribute [go_sem] RA RB Tryz.ntmps186 Tryz.results186
@[go_sem] theorem Wr:(FG.draws 5).order=hi186_5:=rfl
instance k186 {a:List Int} {b:List Int}:Ctr (ir a b) (fun (res:List Int)=>ai Tryz.prog 186 [.sl (ab eI a),.sl (ab eI b)] [] (.ref 20000 1 0 res.length) [(20000,1,.row true (ab eI res))]):=⟨by
 intro res h0
 refine aC (ra:=[.home 4]) (md:=mdT) hT (hi:=FG) Tryz.func186 rfl rfl (by decide +kernel) (by simp) ?_
 unfold ir at h0
 obtain ⟨q06,l0,h0⟩:=ae h0
 simp(config:=cS)only[go_sem, *]
 refine aj (m1:=.mk) (m2:=.mk) [.nf [0,1,5,6,7] [512]] (oQ a b) l0 ?_ ?_
 ·simp(config:=cS)only[go_sem, *]
 ·have k0:=h0
  clear h0 l0
  intro _ s0 _ h0 gb0
  obtain ⟨i_1,k_1,out_1⟩:=s0
  unfold hY at h0
  try dsimp only at h0
  exact run⟩
def tj (a b:List Int):(Int × (List (List Int)))→St
 | (n,c)=>⟨[(5,.ref 1472 1 0 a.length),(6,.ref 1473 1 0 b.length),(7,.ref 1664 1 0 c.length),(8,.lit (.int .i64 n))],[(1472,1,.row true (ab eI a)),(1473,1,.row true (ab eI b)),(1664,1,.row true (ab (eLO eI) c))],2⟩
attribute [go_sem] tj
attribute [go_sem] Tryz.ntmps149 Tryz.results149
def wd (a:List Int)(b:List (List Int))(c d:Int):St:=⟨[(1,.sl (ab eI a)),(7,.sl (ab (eLS eI) b)),(8,.lit (.int .i64 c)),(9,.lit (.int .i64 d))],[],2⟩
attribute [go_sem] wd
attribute [go_sem] Tryz.ntmps299 Tryz.results299
def qp (g:List Int)(h:Int)(i:List GNode)(j:List GTie)(k d:Int)(e f:List Int)(c:Int)(a:List Int):(Int × (List Int))→St
 | (l,b)=>⟨[(3,.ptr 192 1 0 0),(4,.ptr 256 1 0 0),(6,.ptr 384 1 0 0),(7,.ptr 448 1 0 0),(12,.sl (ab eI g)),(13,.lit (.int .i64 h)),(14,.lit (.int .i64 l))],[(192,1,.var [.sl (ab GNode.encS i),.sl (ab GTie.enc j),.lit (.int .i64 k)]),(256,1,.var [.lit (.int .i64 d),.sl (ab eI e),.sl (ab eI f)]),(384,1,.var [.lit (.int .i64 0),.lit (.slice none 0 0),.lit (.slice none 0 0)]),(448,1,.var [.lit (.int .i64 c),.ref 704 1 0 b.length,.ref 705 1 0 a.length]),(704,1,.row true (ab eI b)),(705,1,.row true (ab eI a))],2⟩
attribute [go_sem] qp
@[go_sem] def hi185_5:DT:=.r2 0 12 .nil
def FH:Hint where
 acts:=fun _=>[]
 draws:=fun
  | 5=>⟨hi185_5,[[],[0],[],[2],[],[2,3,4],[2,3,4,5],[2,3,4,5,6],[],[8],.range 10,.range 11],.range 12⟩
  | _=>⟨.nil,[],[]⟩
theorem RC (i:Nat):FH.acts i=[]:=rfl
theorem RD (i:Nat):FH.views i=none:=rfl
attribute [go_sem] RC RD Tryz.ntmps185 Tryz.results185
@[go_sem] theorem Ws:(FH.draws 5).order=hi185_5:=rfl
instance k185 {s:GShow} {v1:GState} {ties:List Int}:Ctr (mf s v1 ties) (fun (res:GState)=>ai Tryz.prog 185 [.agg (GShow.encS s),.agg (GState.encS v1),.sl (ab eI ties)] [] (.agg [.lit (.int .i64 res.now),.ref 20000 1 0 res.times.length,.ref 20001 1 0 res.values.length]) [(20000,1,.row true (ab eI res.times)),(20001,1,.row true (ab eI res.values))]):=⟨by
 intro res h0
 refine aC (ra:=[.homeCell 384 1,.homeCell 384 2]) (md:=mdT) hT (hi:=FH) Tryz.func185 rfl rfl (by decide +kernel) (by simp) ?_
 unfold mf at h0
 obtain ⟨r01,g0,h0⟩:=ae h0
 simp(config:=cS)only[go_sem, *]
 have g0:=ctr g0
 refine ag g0 ?_
 obtain ⟨q05,l0,h0⟩:=ae h0
 simp(config:=cS)only[go_sem, *]
 refine aj (m1:=.mk) (m2:=.mk) [.nf [3,4,6,7,12,13,14] [192,256,384,448,704,705]] (qp ties ((ties.length:Nat):Int) s.nodes s.ties s.horizon v1.now v1.times v1.values r01.now r01.values) l0 ?_ ?_
 ·simp(config:=cS)only[go_sem, *]
 ·have k0:=h0
  clear h0 l0
  intro _ s0 _ h0 gb0
  obtain ⟨v14_1,h704_1⟩:=s0
  unfold jx at h0
  try dsimp only at h0
  exact run⟩
attribute [go_sem] Tryz.ntmps278 Tryz.results278
attribute [go_sem] Tryz.ntmps300 Tryz.results300
def oR (v d:List Int)(a:Int):(Int × Int)→St
 | (b,c)=>⟨[(1,.sl (ab eI v)),(5,.lit (.int .i64 b)),(9,.sl (ab eI d)),(10,.lit (.int .i64 a)),(11,.lit (.int .i64 c))],[],2⟩
attribute [go_sem] oR
attribute [go_sem] Tryz.ntmps119 Tryz.results119
instance k119 {l:List Int} {v:List Int}:Ctr (ct l v) (fun (res:Int)=>ai Tryz.prog 119 [.sl (ab eI l),.sl (ab eI v)] [] (.lit (.int .i64 res)) []):=⟨by
 intro res h0
 refine co (hi:=hi00) Tryz.func119 rfl rfl ?_
 unfold ct at h0
 obtain ⟨q04,l0,h0⟩:=ae h0
 simp(config:=cS)only[go_sem, *]
 refine aj (m1:=.mk) (m2:=.mk) [.nf [1,5,9,10,11] []] (oR v l ((l.length:Nat):Int)) l0 ?_ ?_
 ·simp(config:=cS)only[go_sem, *]
 ·have k0:=h0
  clear h0 l0
  intro _ s0 _ h0 gb0
  obtain ⟨out_1,v11_1⟩:=s0
  unfold gX at h0
  try dsimp only at h0
  exact run⟩
def nu (a:List GNode)(f:Int)(g:List GTie)(h c:Int)(d e:List Int):(Int × (List Int))→St
 | (i,b)=>⟨[(2,.ptr 128 1 0 0),(3,.ptr 192 1 0 0),(5,.ref 512 1 0 b.length),(10,.sl (ab GNode.encS a)),(11,.lit (.int .i64 f)),(12,.lit (.int .i64 i))],[(128,1,.var [.sl (ab GNode.encS a),.sl (ab GTie.enc g),.lit (.int .i64 h)]),(192,1,.var [.lit (.int .i64 c),.sl (ab eI d),.sl (ab eI e)]),(512,1,.row true (ab eI b))],2⟩
attribute [go_sem] nu
attribute [go_sem] Tryz.ntmps256 Tryz.results256
instance k256 {s:GShow} {v1:GState}:Ctr (iN s v1) (fun (res:List Int)=>ai Tryz.prog 256 [.agg (GShow.encS s),.agg (GState.encS v1)] [] (.ref 20000 1 0 res.length) [(20000,1,.row true (ab eI res))]):=⟨by
 intro res h0
 refine aC (ra:=[.home 4]) (md:=mdT) hT (hi:=hi00) Tryz.func256 rfl rfl (by decide +kernel) (by simp) ?_
 unfold iN at h0
 obtain ⟨q05,l0,h0⟩:=ae h0
 simp(config:=cS)only[go_sem, *]
 refine aj (m1:=.mk) (m2:=.mk) [.nf [2,3,5,10,11,12] [128,192,512]] (nu s.nodes ((s.nodes.length:Nat):Int) s.ties s.horizon v1.now v1.times v1.values) l0 ?_ ?_
 ·simp(config:=cS)only[go_sem, *]
 ·have k0:=h0
  clear h0 l0
  intro _ s0 _ h0 gb0
  obtain ⟨v12_1,out_1⟩:=s0
  unfold fk at h0
  try dsimp only at h0
  exact run⟩
def sq (l:List Int):(Int × (List (List Int)))→St
 | (n,a)=>⟨[(5,.ref 896 1 0 l.length),(6,.ref 960 1 0 a.length),(7,.lit (.int .i64 n))],[(896,1,.row true (ab eI l)),(960,1,.row true (ab (eLO eI) a))],2⟩
attribute [go_sem] sq
attribute [go_sem] Tryz.ntmps279 Tryz.results279
def nM (a:List Int)(h:Int)(i:List GNode)(j:List GTie)(k e:Int)(f g:List Int)(d:Int)(b:List Int):(Int × (List Int))→St
 | (l,c)=>⟨[(2,.sl (ab eI a)),(3,.ptr 192 1 0 0),(4,.ptr 256 1 0 0),(6,.ptr 384 1 0 0),(8,.ptr 512 1 0 0),(15,.sl (ab eI a)),(16,.lit (.int .i64 h)),(17,.lit (.int .i64 l))],[(192,1,.var [.sl (ab GNode.encS i),.sl (ab GTie.enc j),.lit (.int .i64 k)]),(256,1,.var [.lit (.int .i64 e),.sl (ab eI f),.sl (ab eI g)]),(384,1,.var [.lit (.int .i64 0),.lit (.slice none 0 0),.lit (.slice none 0 0)]),(512,1,.var [.lit (.int .i64 d),.ref 896 1 0 c.length,.ref 897 1 0 b.length]),(896,1,.row true (ab eI c)),(897,1,.row true (ab eI b))],2⟩
attribute [go_sem] nM
def nN (d:List Int)(f:List GNode)(g:List GTie)(h e:Int)(b c:List Int):(Int × (List Int))→St
 | (p,a)=>⟨[(2,.sl (ab eI d)),(3,.ptr 192 1 0 0),(6,.ptr 384 1 0 0),(8,.ptr 512 1 0 0),(11,.ref 1792 1 0 a.length),(12,.lit (.int .i64 p))],[(192,1,.var [.sl (ab GNode.encS f),.sl (ab GTie.enc g),.lit (.int .i64 h)]),(384,1,.var [.lit (.int .i64 0),.lit (.slice none 0 0),.lit (.slice none 0 0)]),(512,1,.var [.lit (.int .i64 e),.ref 896 1 0 b.length,.ref 897 1 0 c.length]),(896,1,.row true (ab eI b)),(897,1,.row true (ab eI c)),(1792,1,.row true (ab eI a))],2⟩
attribute [go_sem] nN
attribute [go_sem] Tryz.ntmps280 Tryz.results280
instance k280 {s:GShow} {v1:GState} {nodes:List Int}:Ctr (jy s v1 nodes) (fun (res:GState × (List Int))=>ai Tryz.prog 280 [.agg (GShow.encS s),.agg (GState.encS v1),.sl (ab eI nodes)] [] (.tup [.agg [.lit (.int .i64 res.1.now),.ref 20000 1 0 res.1.times.length,.ref 20001 1 0 res.1.values.length],.ref 20002 1 0 res.2.length]) [(20000,1,.row true (ab eI res.1.times)),(20001,1,.row true (ab eI res.1.values)),(20002,1,.row true (ab eI res.2))]):=⟨by
 intro res h0
 refine aC (ra:=[.homeCell 384 1,.homeCell 384 2,.home 7]) (md:=mdT) hT (hi:=hi00) Tryz.func280 rfl rfl (by decide +kernel) (by simp) ?_
 unfold jy at h0
 obtain ⟨r01,g0,h0⟩:=ae h0
 simp(config:=cS)only[go_sem, *]
 have g0:=ctr g0
 refine ag g0 ?_
 obtain ⟨q07,l0,h0⟩:=ae h0
 simp(config:=cS)only[go_sem, *]
 refine aj (m1:=.mk) (m2:=.mk) [.nf [2,3,4,6,8,15,16,17] [192,256,384,512,896,897]] (nM nodes ((nodes.length:Nat):Int) s.nodes s.ties s.horizon v1.now v1.times v1.values r01.now r01.values) l0 ?_ ?_
 ·simp(config:=cS)only[go_sem, *]
 ·have k0:=h0
  clear h0 l0
  intro _ s0 _ h0 gb0
  obtain ⟨v17_1,h896_1⟩:=s0
  unfold ga at h0
  try dsimp only at h0
  obtain ⟨_,h0⟩|⟨_,h0⟩:=itP h0
  ·exact run
  ·cases h0
   obtain rfl:=(aS gb0).symm
   clear gb0
   have h0:=k0
   clear k0
   try dsimp only at h0
   obtain ⟨q06,l0,h0⟩:=ae h0
   simp(config:=cS)only[go_sem, *]
   refine aj (m1:=.mk) (m2:=.mk) [.nf [2,3,6,8,11,12] [192,384,512,896,897,1792]] (nN nodes s.nodes s.ties s.horizon r01.now h896_1 r01.values) l0 ?_ ?_
   ·simp(config:=cS)only[go_sem, *]
   ·have k0:=h0
    clear h0 l0
    intro _ s0 _ h0 gb0
    obtain ⟨p_2,props_2⟩:=s0
    unfold gb at h0
    try dsimp only at h0
    exact run⟩
attribute [go_sem] Tryz.ntmps325 Tryz.results325
def nO (a e:List Int)(f d:Int)(b:List Int):(Int × (List Int))→St
 | (g,c)=>⟨[(2,.sl (ab eI a)),(6,.ptr 384 1 0 0),(7,.ptr 448 1 0 0),(12,.sl (ab eI e)),(13,.lit (.int .i64 f)),(14,.lit (.int .i64 g))],[(384,1,.var [.lit (.int .i64 0),.lit (.slice none 0 0),.lit (.slice none 0 0)]),(448,1,.var [.lit (.int .i64 d),.ref 704 1 0 b.length,.ref 705 1 0 c.length]),(704,1,.row true (ab eI b)),(705,1,.row true (ab eI c))],2⟩
attribute [go_sem] nO
@[go_sem] def hi281_5:DT:=.r2 0 10 .nil
def FI:Hint where
 acts:=fun _=>[]
 draws:=fun
  | 5=>⟨hi281_5,[[],[0],[],[2],[],[],[4,5],[4,5,6],.range 8,.range 9],.range 10⟩
  | _=>⟨.nil,[],[]⟩
theorem RE (i:Nat):FI.acts i=[]:=rfl
theorem RF (i:Nat):FI.views i=none:=rfl
attribute [go_sem] RE RF Tryz.ntmps281 Tryz.results281
@[go_sem] theorem Wt:(FI.draws 5).order=hi281_5:=rfl
instance k281 {v0:GState} {props:List Int} {values:List Int}:Ctr (jz v0 props values) (fun (res:GState)=>ai Tryz.prog 281 [.agg (GState.encS v0),.sl (ab eI props),.sl (ab eI values)] [] (.agg [.lit (.int .i64 res.now),.ref 20000 1 0 res.times.length,.ref 20001 1 0 res.values.length]) [(20000,1,.row true (ab eI res.times)),(20001,1,.row true (ab eI res.values))]):=⟨by
 intro res h0
 refine aC (ra:=[.homeCell 384 1,.homeCell 384 2]) (md:=mdT) hT (hi:=FI) Tryz.func281 rfl rfl (by decide +kernel) (by simp) ?_
 unfold jz at h0
 obtain ⟨r01,g0,h0⟩:=ae h0
 simp(config:=cS)only[go_sem, *]
 have g0:=ctr g0
 refine ag g0 ?_
 obtain ⟨q05,l0,h0⟩:=ae h0
 simp(config:=cS)only[go_sem, *]
 refine aj (m1:=.mk) (m2:=.mk) [.nf [2,6,7,12,13,14] [384,448,704,705]] (nO values props ((props.length:Nat):Int) r01.now r01.times) l0 ?_ ?_
 ·simp(config:=cS)only[go_sem, *]
 ·have k0:=h0
  clear h0 l0
  intro _ s0 _ h0 gb0
  obtain ⟨v14_1,h705_1⟩:=s0
  unfold gd at h0
  try dsimp only at h0
  exact run⟩
def tP (e f:Int)(g h i:List Int)(j:Int)(b c d:List Int):(Int × (List Int))→St
 | (k,a)=>⟨[(5,.ptr 320 1 0 0),(6,.ptr 384 1 0 0),(10,.ptr 640 1 0 0),(11,.ref 2946 1 0 d.length),(13,.ref 3904 1 0 a.length),(62,.ref 2946 1 0 d.length),(63,.lit (.int .i64 e)),(64,.lit (.int .i64 k))],[(320,1,.var [.lit (.int .i64 f),.sl (ab eI g),.sl (ab eI h),.sl (ab eI i)]),(384,1,.var [.lit (.int .i64 0),.lit (.slice none 0 0),.lit (.slice none 0 0)]),(640,1,.var [.lit (.int .i64 j),.ref 2944 1 0 b.length,.ref 2945 1 0 c.length]),(2944,1,.row true (ab eI b)),(2945,1,.row true (ab eI c)),(2946,1,.row true (ab eI d)),(3904,1,.row true (ab eI a))],2⟩
attribute [go_sem] tP
attribute [go_sem] Tryz.ntmps298 Tryz.results298
def tk (d:List am)(e:Int)(f:List GNode)(g:List GTie)(h:Int):(Int × Int × (List Int) × (List Int))→St
 | (i,c,a,b)=>⟨[(2,.ptr 128 1 0 0),(4,.ptr 256 1 0 0),(6,.ptr 384 1 0 0),(13,.sl (ab am.encS d)),(14,.lit (.int .i64 e)),(15,.lit (.int .i64 i))],[(128,1,.var [.sl (ab GNode.encS f),.sl (ab GTie.enc g),.lit (.int .i64 h)]),(256,1,.var [.lit (.int .i64 0),.lit (.slice none 0 0),.lit (.slice none 0 0)]),(384,1,.var [.lit (.int .i64 c),.ref 768 1 0 a.length,.ref 769 1 0 b.length]),(768,1,.row true (ab eI a)),(769,1,.row true (ab eI b))],2⟩
attribute [go_sem] tk
@[go_sem] def hi271_10:DT:=.i1 0 (.i2 1 (.i0 2 [0] (.i2 3 (.i2 4 .nil))))
def JZ:Hint where
 acts:=fun _=>[]
 draws:=fun
  | 10=>⟨hi271_10,[[],[],[1],[0,1,2],[0,1,2,3]],.range 5⟩
  | _=>⟨.nil,[],[]⟩
theorem RG (i:Nat):JZ.acts i=[]:=rfl
theorem RH (i:Nat):JZ.views i=none:=rfl
attribute [go_sem] RG RH Tryz.ntmps271 Tryz.results271
@[go_sem] theorem Vl:(JZ.draws 10).order=hi271_10:=rfl
attribute [go_sem] Tryz.ntmps272 Tryz.results272
attribute [go_sem] Tryz.ntmps214 Tryz.results214
def tn (d e:Int)(b c a:List Int)(f:Int):St:=⟨[(2,.lit (.int .i64 d)),(4,.ptr 256 1 0 0),(10,.ref 640 1 0 a.length),(11,.lit (.int .i64 e)),(12,.lit (.int .i64 f))],[(256,1,.var [.sl (ab eI b),.sl (ab eI c)]),(640,1,.row true (ab eI a))],2⟩
attribute [go_sem] tn
attribute [go_sem] Tryz.ntmps120 Tryz.results120
def tp (h:Int)(i:List GNode)(j:List GTie)(k c:Int)(d e f g a:List Int):(Int × (List Int))→St
 | (l,b)=>⟨[(3,.ptr 192 1 0 0),(4,.ptr 256 1 0 0),(5,.ptr 320 1 0 0),(7,.ref 640 1 0 b.length),(13,.ref 832 1 0 a.length),(14,.lit (.int .i64 h)),(15,.lit (.int .i64 l))],[(192,1,.var [.sl (ab GNode.encS i),.sl (ab GTie.enc j),.lit (.int .i64 k)]),(256,1,.var [.lit (.int .i64 c),.sl (ab eI d),.sl (ab eI e)]),(320,1,.var [.sl (ab eI f),.sl (ab eI g)]),(640,1,.row true (ab eI b)),(832,1,.row true (ab eI a))],2⟩
attribute [go_sem] tp
@[go_sem] def hi215_5:DT:=.i1 0 (.i1 1 (.i1 2 (.i1 3 (.i1 4 (.i1 5 (.i2 6 (.i1 7 (.i1 8 (.i1 9 (.i1 10 (.i1 11 (.r2 12 4 (.i0 16 [0,1,2,3,4,5,7,8,9,10,11] (.i2 17 .nil))))))))))))))
def Ka:Hint where
 acts:=fun _=>[]
 draws:=fun
  | 5=>⟨hi215_5,[[],[0],[],[2],[],[4],[],[4,5,6],[4,5,6,7],[4,5,6,7,8],[2,3,4,5,6,7,8,9],[2,3,4,5,6,7,8,9,10],.range 12,[],[],[],[13,14,15],.range 17],.range 18⟩
  | _=>⟨.nil,[],[]⟩
theorem RI (i:Nat):Ka.acts i=[]:=rfl
theorem RJ (i:Nat):Ka.views i=none:=rfl
attribute [go_sem] RI RJ Tryz.ntmps215 Tryz.results215
@[go_sem] theorem Wu:(Ka.draws 5).order=hi215_5:=rfl
@[go_sem] def hi253_10:DT:=.r2 0 21 .nil
@[go_sem] def hi253_8:DT:=.r2 0 21 .nil
def BF:Hint where
 acts:=fun _=>[]
 draws:=fun
  | 8=>⟨hi253_8,[[],[0],[],[2],[0,1,2,3],.range 5,.range 6,[],[7],.range 9,.range 10,.range 11,.range 12,.range 13,.range 12,.range 15,.range 12,[0,1,2,3,4,5,6,7,8,9,10,11,16],.range 18,.range 19,.range 20],.range 21⟩
  | 10=>⟨hi253_10,[[],[0],[],[2],[0,1,2,3],.range 5,.range 6,[],[7],.range 9,.range 10,.range 11,.range 12,.range 12,[0,1,2,3,4,5,6,7,8,9,10,11,13],.range 15,.range 12,[0,1,2,3,4,5,6,7,8,9,10,11,16],.range 18,.range 19,.range 20],.range 21⟩
  | _=>⟨.nil,[],[]⟩
theorem RK (i:Nat):BF.acts i=[]:=rfl
theorem RL (i:Nat):BF.views i=none:=rfl
attribute [go_sem] RK RL Tryz.ntmps253 Tryz.results253
@[go_sem] theorem Wv:(BF.draws 8).order=hi253_8:=rfl
@[go_sem] theorem Vm:(BF.draws 10).order=hi253_10:=rfl
instance k253 {s:GShow} {v1:GState} {t:GTie}:Ctr (lb s v1 t) (fun (res:Bool)=>ai Tryz.prog 253 [.agg (GShow.encS s),.agg (GState.encS v1),.agg (GTie.enc t)] [] (.lit (.bool res)) []):=⟨by
 intro res h0
 refine co (hi:=BF) Tryz.func253 rfl rfl ?_
 unfold lb at h0
 exact run⟩
def nP (a:List GTie)(e:Int)(f:List GNode)(g b:Int)(c d:List Int)(h:Int):St:=⟨[(2,.ptr 128 1 0 0),(3,.ptr 192 1 0 0),(10,.sl (ab GTie.enc a)),(11,.lit (.int .i64 e)),(12,.lit (.int .i64 h))],[(128,1,.var [.sl (ab GNode.encS f),.sl (ab GTie.enc a),.lit (.int .i64 g)]),(192,1,.var [.lit (.int .i64 b),.sl (ab eI c),.sl (ab eI d)])],2⟩
attribute [go_sem] nP
def nQ (a:List GNode)(e:Int)(f:List GTie)(g b:Int)(c d:List Int)(h:Int):St:=⟨[(2,.ptr 128 1 0 0),(3,.ptr 192 1 0 0),(22,.sl (ab GNode.encS a)),(23,.lit (.int .i64 e)),(24,.lit (.int .i64 h))],[(128,1,.var [.sl (ab GNode.encS a),.sl (ab GTie.enc f),.lit (.int .i64 g)]),(192,1,.var [.lit (.int .i64 b),.sl (ab eI c),.sl (ab eI d)])],2⟩
attribute [go_sem] nQ
attribute [go_sem] Tryz.ntmps180 Tryz.results180
instance k180 {s:GShow} {v1:GState}:Ctr (jA s v1) (fun (res:Bool)=>ai Tryz.prog 180 [.agg (GShow.encS s),.agg (GState.encS v1)] [] (.lit (.bool res)) []):=⟨by
 intro res h0
 refine co (hi:=hi00) Tryz.func180 rfl rfl ?_
 unfold jA at h0
 obtain ⟨q07,l0,h0⟩:=ae h0
 simp(config:=cS)only[go_sem, *]
 refine aj (m1:=.mk) (m2:=.mk) [.nf [2,3,10,11,12] [128,192]] (nP s.ties ((s.ties.length:Nat):Int) s.nodes s.horizon v1.now v1.times v1.values) l0 ?_ ?_
 ·simp(config:=cS)only[go_sem, *]
 ·have k0:=h0
  clear h0 l0
  intro _ v12_1 _ h0 gb0
  unfold ed at h0
  try dsimp only at h0
  obtain ⟨_,h0⟩|⟨_,h0⟩:=itP h0
  ·exact run
  ·cases h0
   obtain rfl:=(aS gb0).symm
   clear gb0
   have h0:=k0
   clear k0
   try dsimp only at h0
   obtain ⟨q06,l0,h0⟩:=ae h0
   simp(config:=cS)only[go_sem, *]
   refine aj (m1:=.mk) (m2:=.mk) [.nf [2,3,22,23,24] [128,192]] (nQ s.nodes ((s.nodes.length:Nat):Int) s.ties s.horizon v1.now v1.times v1.values) l0 ?_ ?_
   ·simp(config:=cS)only[go_sem, *]
   ·have k0:=h0
    clear h0 l0
    intro _ v24_2 _ h0 gb0
    unfold ce at h0
    try dsimp only at h0
    exact run⟩
def pI (e:List GNode)(f a:Int)(b c:List Int)(d:Int):St:=⟨[(3,.ptr 192 1 0 0),(8,.sl (ab GNode.encS e)),(9,.lit (.int .i64 f)),(10,.lit (.int .i64 d))],[(192,1,.var [.lit (.int .i64 a),.sl (ab eI b),.sl (ab eI c)])],2⟩
attribute [go_sem] pI
attribute [go_sem] Tryz.ntmps181 Tryz.results181
instance k181 {s:GShow} {v1:GState}:Ctr (lc s v1) (fun (res:Bool)=>ai Tryz.prog 181 [.agg (GShow.encS s),.agg (GState.encS v1)] [] (.lit (.bool res)) []):=⟨by
 intro res h0
 refine co (hi:=hi00) Tryz.func181 rfl rfl ?_
 unfold lc at h0
 obtain ⟨q04,l0,h0⟩:=ae h0
 simp(config:=cS)only[go_sem, *]
 refine aj (m1:=.mk) (m2:=.mk) [.nf [3,8,9,10] [192]] (pI s.nodes ((s.nodes.length:Nat):Int) v1.now v1.times v1.values) l0 ?_ ?_
 ·simp(config:=cS)only[go_sem, *]
 ·have k0:=h0
  clear h0 l0
  intro _ v10_1 _ h0 gb0
  unfold fL at h0
  try dsimp only at h0
  exact run⟩
def tQ (a b:List Int)(c:Int)(d:List GNode)(e:List GTie)(f g:Int)(h i:List Int)(j:Bool)(k:List am)(l:Int):St:=⟨[(1,.sl (ab eI a)),(3,.ptr 192 1 0 0),(6,.ptr 384 1 0 0),(21,.sl (ab eI b)),(22,.lit (.int .i64 c)),(23,.lit (.int .i64 l))],[(192,1,.var [.sl (ab GNode.encS d),.sl (ab GTie.enc e),.lit (.int .i64 f),.lit (.int .i64 g),.sl (ab eI h),.sl (ab eI i),.lit (.bool j),.sl (ab am.encS k)]),(384,1,.var [.lit (.int .i64 0),.lit (.slice none 0 0),.lit (.slice none 0 0)])],2⟩
attribute [go_sem] tQ
attribute [go_sem] Tryz.ntmps232 Tryz.results232
def nR (c:List GNode)(h:Int)(i:List GTie)(j e:Int)(f g:List Int):(Int × (List Int) × (List Int) × (List Bool))→St
 | (k,d,a,b)=>⟨[(2,.ptr 128 1 0 0),(3,.ptr 192 1 0 0),(7,.ref 832 1 0 d.length),(8,.ref 896 1 0 a.length),(9,.ref 960 1 0 b.length),(17,.sl (ab GNode.encS c)),(18,.lit (.int .i64 h)),(19,.lit (.int .i64 k))],[(128,1,.var [.sl (ab GNode.encS c),.sl (ab GTie.enc i),.lit (.int .i64 j)]),(192,1,.var [.lit (.int .i64 e),.sl (ab eI f),.sl (ab eI g)]),(832,1,.row true (ab eI d)),(896,1,.row true (ab eI a)),(960,1,.row true (ab eB b))],2⟩
attribute [go_sem] nR
attribute [go_sem] Tryz.ntmps254 Tryz.results254
instance k254 {s:GShow} {v1:GState}:Ctr (jB s v1) (fun (res:(List Int) × (List Int) × (List Bool))=>ai Tryz.prog 254 [.agg (GShow.encS s),.agg (GState.encS v1)] [] (.tup [.ref 20000 1 0 res.1.length,.ref 20001 1 0 res.2.1.length,.ref 20002 1 0 res.2.2.length]) [(20000,1,.row true (ab eI res.1)),(20001,1,.row true (ab eI res.2.1)),(20002,1,.row true (ab eB res.2.2))]):=⟨by
 intro res h0
 refine aC (ra:=[.home 4,.home 5,.home 6]) (md:=mdT) hT (hi:=hi00) Tryz.func254 rfl rfl (by decide +kernel) (by simp) ?_
 unfold jB at h0
 obtain ⟨q04,l0,h0⟩:=ae h0
 simp(config:=cS)only[go_sem, *]
 refine aj (m1:=.mk) (m2:=.mk) [.nf [2,3,7,8,9,17,18,19] [128,192,832,896,960]] (nR s.nodes ((s.nodes.length:Nat):Int) s.ties s.horizon v1.now v1.times v1.values) l0 ?_ ?_
 ·simp(config:=cS)only[go_sem, *]
 ·have k0:=h0
  clear h0 l0
  intro _ s0 _ h0 gb0
  obtain ⟨v19_1,low_1,high_1,sure_1⟩:=s0
  unfold gg at h0
  try dsimp only at h0
  exact run⟩
def mI (c:Int)(d:List GTie)(f:Int)(g:List GNode)(h:Int)(a:List Bool):(Int × (List Int) × (List Int))→St
 | (i,e,b)=>⟨[(2,.ptr 128 1 0 0),(5,.ref 960 1 0 e.length),(6,.ref 961 1 0 b.length),(7,.ref 962 1 0 a.length),(8,.lit (.int .i64 c)),(27,.sl (ab GTie.enc d)),(28,.lit (.int .i64 f)),(29,.lit (.int .i64 i))],[(128,1,.var [.sl (ab GNode.encS g),.sl (ab GTie.enc d),.lit (.int .i64 h)]),(960,1,.row true (ab eI e)),(961,1,.row true (ab eI b)),(962,1,.row true (ab eB a))],2⟩
attribute [go_sem] mI
def mJ (e:List GNode)(f:List GTie)(g:Int)(a:List Bool):(Int × (List Int) × (List Int))→St
 | (c,d,b)=>⟨[(2,.ptr 128 1 0 0),(5,.ref 960 1 0 d.length),(6,.ref 961 1 0 b.length),(7,.ref 962 1 0 a.length),(8,.lit (.int .i64 c))],[(128,1,.var [.sl (ab GNode.encS e),.sl (ab GTie.enc f),.lit (.int .i64 g)]),(960,1,.row true (ab eI d)),(961,1,.row true (ab eI b)),(962,1,.row true (ab eB a))],2⟩
attribute [go_sem] mJ
def mK (d:Int)(c a:List Int)(b:List Bool)(e:Int):St:=⟨[(5,.ref 960 1 0 c.length),(6,.ref 961 1 0 a.length),(7,.ref 962 1 0 b.length),(121,.lit (.int .i64 d)),(122,.lit (.int .i64 e))],[(960,1,.row true (ab eI c)),(961,1,.row true (ab eI a)),(962,1,.row true (ab eB b))],2⟩
attribute [go_sem] mK
@[go_sem] def hi182_17:DT:=.r2 0 15 .nil
@[go_sem] def hi182_12:DT:=.r2 0 19 .nil
@[go_sem] def hi182_11:DT:=.r2 0 19 .nil
@[go_sem] def hi182_10:DT:=.r2 0 19 .nil
@[go_sem] def hi182_9:DT:=.r2 0 19 .nil
def sZ:Hint where
 acts:=fun _=>[]
 draws:=fun
  | 9=>⟨hi182_9,[[],[],[1],[],[],[4],[3,4,5],[3,4,5,6],[],[],[9],[8,9,10],[8,9,10,11],[],[13],[8,9,10,11,12,13,14],[3,4,5,6,7,8,9,10,11,12,13,14,15],.range 17,.range 18],.range 19⟩
  | 10=>⟨hi182_10,[[],[],[1],[],[],[4],[3,4,5],[3,4,5,6],[],[],[9],[8,9,10],[8,9,10,11],[],[13],[8,9,10,11,12,13,14],[3,4,5,6,7,8,9,10,11,12,13,14,15],.range 17,.range 18],.range 19⟩
  | 11=>⟨hi182_11,[[],[],[1],[],[],[4],[3,4,5],[3,4,5,6],[],[],[9],[8,9,10],[8,9,10,11],[],[13],[8,9,10,11,12,13,14],[3,4,5,6,7,8,9,10,11,12,13,14,15],.range 17,.range 18],.range 19⟩
  | 12=>⟨hi182_12,[[],[],[1],[],[],[4],[3,4,5],[3,4,5,6],[],[],[9],[8,9,10],[8,9,10,11],[],[13],[8,9,10,11,12,13,14],[3,4,5,6,7,8,9,10,11,12,13,14,15],.range 17,.range 18],.range 19⟩
  | 17=>⟨hi182_17,[[],[],[0,1],[0,1,2],[0,1,2,3],.range 5,.range 5,.range 7,.range 8,.range 5,.range 5,[0,1,2,3,4,9,10],[0,1,2,3,4,9,10,11],.range 13,.range 14],.range 15⟩
  | _=>⟨.nil,[],[]⟩
theorem RM (i:Nat):sZ.acts i=[]:=rfl
theorem RN (i:Nat):sZ.views i=none:=rfl
attribute [go_sem] RM RN Tryz.ntmps182 Tryz.results182
@[go_sem] theorem Ww:(sZ.draws 9).order=hi182_9:=rfl
@[go_sem] theorem Vn:(sZ.draws 10).order=hi182_10:=rfl
@[go_sem] theorem Vo:(sZ.draws 11).order=hi182_11:=rfl
@[go_sem] theorem Vp:(sZ.draws 12).order=hi182_12:=rfl
@[go_sem] theorem Vq:(sZ.draws 17).order=hi182_17:=rfl
instance k182 {s:GShow} {v1:GState}:Ctr (ia s v1) (fun (res:Bool)=>ai Tryz.prog 182 [.agg (GShow.encS s),.agg (GState.encS v1)] [] (.lit (.bool res)) []):=⟨by
 intro res h0
 refine co (hi:=sZ) Tryz.func182 rfl rfl ?_
 unfold ia at h0
 obtain ⟨r01,g0,h0⟩:=ae h0
 simp(config:=cS)only[go_sem, *]
 have g0:=ctr g0
 refine ag g0 ?_
 obtain ⟨q18,l0,h0⟩:=ae h0
 simp(config:=cS)only[go_sem, *]
 refine aj (m1:=.mk) (m2:=.mk) [.nf [2,5,6,7,8] [128,960,961,962]] (mJ s.nodes s.ties s.horizon r01.2.2) l0 ?_ ?_
 ·simp(config:=cS)only[go_sem, *]
 ·have k0:=h0
  clear h0 l0
  intro _ s0 _ h0 gb0
  obtain ⟨round_1,low_1,high_1⟩:=s0
  unfold eP at h0
  try dsimp only at h0
  obtain ⟨_,h0⟩|⟨_,h0⟩:=itP h0
  ·obtain ⟨q13,l0,h0⟩:=ae h0
   simp(config:=cS)only[go_sem, *]
   refine aj (m1:=.mk) (m2:=.mk) [.nf [2,5,6,7,8,27,28,29] [128,960,961,962]] (mI round_1 s.ties ((s.ties.length:Nat):Int) s.nodes s.horizon r01.2.2) l0 ?_ ?_
   ·simp(config:=cS)only[go_sem, *]
   ·have k0:=h0
    clear h0 l0
    intro _ s0 _ h0 gb0
    obtain ⟨v29_2,low_2,high_2⟩:=s0
    unfold eO at h0
    try dsimp only at h0
    exact run
  ·cases h0
   obtain rfl:=(aS gb0).symm
   clear gb0
   have h0:=k0
   clear k0
   try dsimp only at h0
   obtain ⟨q17,l0,h0⟩:=ae h0
   simp(config:=cS)only[go_sem, *]
   refine aj (m1:=.mk) (m2:=.mk) [.nf [5,6,7,121,122] [960,961,962]] (mK ((low_1.length:Nat):Int) low_1 high_1 r01.2.2) l0 ?_ ?_
   ·simp(config:=cS)only[go_sem, *]
   ·have k0:=h0
    clear h0 l0
    intro _ v122_3 _ h0 gb0
    unfold eQ at h0
    try dsimp only at h0
    exact run⟩
def lC (a:List Int)(b c:Int):St:=⟨[(0,.sl (ab eI a)),(9,.sl (ab eI a)),(10,.lit (.int .i64 b)),(11,.lit (.int .i64 c))],[],2⟩
attribute [go_sem] lC
def lD (a:List Int)(n c:Int)(b:List (List Int)):(Int × (List Int))→St
 | (d,l)=>⟨[(0,.sl (ab eI a)),(5,.ref 2112 1 0 b.length),(6,.lit (.int .i64 n)),(7,.ref 2688 1 0 l.length),(44,.lit (.int .i64 c)),(45,.lit (.int .i64 d))],[(2112,1,.row true (ab (eLO eI) b)),(2688,1,.row true (ab eI l))],2⟩
attribute [go_sem] lD
def lE (a:List Int):(Int × (List (List Int)))→St
 | (n,b)=>⟨[(0,.sl (ab eI a)),(5,.ref 2112 1 0 b.length),(6,.lit (.int .i64 n))],[(2112,1,.row true (ab (eLO eI) b))],2⟩
attribute [go_sem] lE
attribute [go_sem] Tryz.ntmps295 Tryz.results295
instance k295 {props:List Int}:Ctr (eR props) (fun (res:List (List Int))=>ai Tryz.prog 295 [.sl (ab eI props)] [] (.ref 20000 1 0 res.length) [(20000,1,.row true (ab (eLO eI) res))]):=⟨by
 intro res h0
 refine aC (ra:=[.home 2]) (md:=mdT) hT (hi:=hi00) Tryz.func295 rfl rfl (by decide +kernel) (by simp) ?_
 unfold eR at h0
 obtain ⟨q06,l0,h0⟩:=ae h0
 simp(config:=cS)only[go_sem, *]
 refine aj (m1:=.mk) (m2:=.mk) [.nf [0,9,10,11] []] (lC props ((props.length:Nat):Int)) l0 ?_ ?_
 ·simp(config:=cS)only[go_sem, *]
 ·have k0:=h0
  clear h0 l0
  intro _ v11_1 _ h0 gb0
  unfold dw at h0
  try dsimp only at h0
  obtain ⟨_,h0⟩|⟨_,h0⟩:=itP h0
  ·exact run
  ·cases h0
   obtain rfl:=(aS gb0).symm
   clear gb0
   have h0:=k0
   clear k0
   try dsimp only at h0
   obtain ⟨q05,l0,h0⟩:=ae h0
   simp(config:=cS)only[go_sem, *]
   refine aj (m1:=.mk) (m2:=.mk) [.nf [0,5,6] [2112]] (lE props) l0 ?_ ?_
   ·simp(config:=cS)only[go_sem, *]
   ·have k0:=h0
    clear h0 l0
    intro _ s0 _ h0 gb0
    obtain ⟨n_2,out_2⟩:=s0
    unfold dy at h0
    try dsimp only at h0
    obtain ⟨_,h0⟩:=ckN h0
    obtain ⟨_,h0⟩|⟨_,h0⟩:=itP h0
    ·obtain ⟨q04,l0,h0⟩:=ae h0
     simp(config:=cS)only[go_sem, *]
     refine aj (m1:=.mk) (m2:=.mk) [.nf [0,5,6,7,44,45] [2112,2688]] (lD props n_2 ((props.length:Nat):Int) out_2) l0 ?_ ?_
     ·simp(config:=cS)only[go_sem, *]
     ·have k0:=h0
      clear h0 l0
      intro _ s0 _ h0 gb0
      obtain ⟨v45_3,l_3⟩:=s0
      unfold dx at h0
      try dsimp only at h0
      exact run
    ·exact run⟩
def pJ (e:Int)(f:List GNode)(g:List GTie)(h i:Int)(b c a:List Int)(d:List (List Int))(j:Int):St:=⟨[(3,.ptr 192 1 0 0),(7,.ptr 448 1 0 0),(8,.ref 962 1 0 a.length),(19,.ref 1216 1 0 d.length),(20,.lit (.int .i64 e)),(21,.lit (.int .i64 j))],[(192,1,.var [.sl (ab GNode.encS f),.sl (ab GTie.enc g),.lit (.int .i64 h)]),(448,1,.var [.lit (.int .i64 i),.ref 960 1 0 b.length,.ref 961 1 0 c.length]),(960,1,.row true (ab eI b)),(961,1,.row true (ab eI c)),(962,1,.row true (ab eI a)),(1216,1,.tree (ab (eLS eI) d))],2⟩
attribute [go_sem] pJ
@[go_sem] def hi257_5:DT:=.i1 0 (.r2 1 3 (.i0 4 [0] (.i2 5 (.i2 6 .nil))))
def FJ:Hint where
 acts:=fun _=>[]
 draws:=fun
  | 5=>⟨hi257_5,[[],[],[],[],[1,2,3],.range 5,.range 6],.range 7⟩
  | _=>⟨.nil,[],[]⟩
@[go_sem] theorem Xu (i:Nat):FJ.acts i=[]:=rfl
theorem RP (i:Nat):FJ.views i=none:=rfl
attribute [go_sem] RP Tryz.ntmps257 Tryz.results257
@[go_sem] theorem Wx:(FJ.draws 5).order=hi257_5:=rfl
theorem zE {rec:GShow→GState→Option Bool}(hrec:∀ {s:GShow} {v1:GState} {res:Bool},rec s v1=some res→ai Tryz.prog 93 [.agg (GShow.encS s),.agg (GState.encS v1)] [] (.lit (.bool res)) []){s:GShow}{v1:GState}{nodes:List Int}{res:Bool}(h:jC rec s v1 nodes=some res):ai Tryz.prog 257 [.agg (GShow.encS s),.agg (GState.encS v1),.sl (ab eI nodes)] [] (.lit (.bool res)) []:=by
 refine co (hi:=FJ) Tryz.func257 rfl rfl ?_
 unfold jC at h
 obtain ⟨r01,g1,h⟩:=ae h
 simp(config:=cS)only[go_sem]
 have g1:=ctr g1
 refine ag g1 ?_
 obtain ⟨r02,g2,h⟩:=ae h
 simp(config:=cS)only[go_sem]
 have g2:=ctr g2
 refine ag g2 ?_
 obtain ⟨q06,l3,h⟩:=ae h
 simp(config:=cS)only[go_sem]
 refine aj (m1:=.mk) (m2:=.mk) [.freeze [1216],.nf [3,7,8,19,20,21] [192,448,960,961,962,1216]] (pJ ((r02.length:Nat):Int) s.nodes s.ties s.horizon r01.1.now r01.1.times r01.1.values r01.2 r02) l3 ?_ ?_
 ·simp(config:=cS)only[go_sem]
 ·intro nb4 v21_1 bb4 b4 gb4
  unfold iO at b4
  try dsimp only at b4
  obtain ⟨h5,b4⟩|⟨h5,b4⟩:=aZ b4
  ·obtain ⟨x03,g6,b4⟩:=ae b4
   obtain ⟨h7,h8,h9⟩:=dW g6
   obtain ⟨r04,g10,b4⟩:=ae b4
   simp(config:=cS)only[go_sem,eqT h5,h7,h8,h9]
   have g10:=ctr g10
   refine ag g10 ?_
   obtain ⟨r05,g11,b4⟩:=ae b4
   simp(config:=cS)only[go_sem,eqT h5,h7,h8,h9]
   refine ag (hrec g11) ?_
   obtain ⟨h12,b4⟩|⟨h12,b4⟩:=aZ b4
   ·cases b4
    simp(config:=cS)only[go_sem,eqT h5,h7,h8,h9,eZt h12]
    refine gy gb4 ?_
    simp(config:=cS)only[go_sem,eqT h5,h7,h8,h9,eZt h12]
   ·cases b4
    obtain rfl:=(aS gb4).symm
    try dsimp only at h
    cases h
    simp(config:=cS)only[go_sem,eqT h5,h7,h8,h9,eZf h12]
  ·cases b4
   obtain rfl:=(aS gb4).symm
   try dsimp only at h
   cases h
   simp(config:=cS)only[go_sem,eqF h5]
def qq (d:List GNode)(e:List GTie)(f a:Int)(b c l:List Int)(n:Int):St:=⟨[(2,.ptr 128 1 0 0),(3,.ptr 192 1 0 0),(5,.ref 576 1 0 l.length),(6,.lit (.int .i64 n))],[(128,1,.var [.sl (ab GNode.encS d),.sl (ab GTie.enc e),.lit (.int .i64 f)]),(192,1,.var [.lit (.int .i64 a),.sl (ab eI b),.sl (ab eI c)]),(576,1,.row true (ab eI l))],2⟩
attribute [go_sem] qq
@[go_sem] def hi184_5:DT:=.i1 0 (.i1 1 (.i2 2 (.i2 3 (.i0 4 [0,1] (.i2 5 .nil)))))
def FK:Hint where
 acts:=fun _=>[]
 draws:=fun
  | 5=>⟨hi184_5,[[],[],[],[],[2,3],.range 5],.range 6⟩
  | _=>⟨.nil,[],[]⟩
theorem RQ (i:Nat):FK.acts i=[]:=rfl
theorem RR (i:Nat):FK.views i=none:=rfl
attribute [go_sem] RQ RR Tryz.ntmps184 Tryz.results184
@[go_sem] theorem Wy:(FK.draws 5).order=hi184_5:=rfl
theorem BG {rec:GShow→GState→Option Bool}(hrec:∀ {s:GShow} {v1:GState} {res:Bool},rec s v1=some res→ai Tryz.prog 93 [.agg (GShow.encS s),.agg (GState.encS v1)] [] (.lit (.bool res)) []){s:GShow}{v1:GState}{res:Bool}(h:kg rec s v1=some res):ai Tryz.prog 184 [.agg (GShow.encS s),.agg (GState.encS v1)] [] (.lit (.bool res)) []:=by
 refine co (hi:=FK) Tryz.func184 rfl rfl ?_
 unfold kg at h
 obtain ⟨r01,g1,h⟩:=ae h
 simp(config:=cS)only[go_sem]
 have g1:=ctr g1
 refine ag g1 ?_
 obtain ⟨h2,h⟩:=gx h
 obtain ⟨q04,l3,h⟩:=ae h
 simp(config:=cS)only[go_sem,eqF h2]
 refine aj (m1:=.mk) (m2:=.mk) [.nf [2,3,5,6] [128,192,576]] (qq s.nodes s.ties s.horizon v1.now v1.times v1.values r01) l3 ?_ ?_
 ·simp(config:=cS)only[go_sem,eqF h2]
 ·intro nb4 n_1 bb4 b4 gb4
  unfold gH at b4
  try dsimp only at b4
  obtain ⟨h5,b4⟩|⟨h5,b4⟩:=aZ b4
  ·obtain ⟨r02,g6,b4⟩:=ae b4
   simp(config:=cS)only[go_sem,eqF h2,eqT h5]
   have g6:=ctr g6
   refine ag g6 ?_
   obtain ⟨r03,g7,b4⟩:=ae b4
   simp(config:=cS)only[go_sem,eqF h2,eqT h5]
   refine ag (zE @hrec g7) ?_
   obtain ⟨h8,b4⟩|⟨h8,b4⟩:=aZ b4
   ·cases b4
    obtain rfl:=(aS gb4).symm
    try dsimp only at h
    cases h
    simp(config:=cS)only[go_sem,eqF h2,eqT h5,eZt h8]
   ·cases b4
    simp(config:=cS)only[go_sem,eqF h2,eqT h5,eZf h8]
    refine gy gb4 ?_
    simp(config:=cS)only[go_sem,eqF h2,eqT h5,eZf h8]
  ·cases b4
   obtain rfl:=(aS gb4).symm
   try dsimp only at h
   cases h
   simp(config:=cS)only[go_sem,eqF h2,eqF h5]
def qr (f:List GNode)(g:List GTie)(h c:Int)(d e a b:List Int)(n:Int):St:=⟨[(2,.ptr 128 1 0 0),(3,.ptr 192 1 0 0),(5,.ref 1280 1 0 a.length),(6,.ref 1281 1 0 b.length),(7,.lit (.int .i64 n))],[(128,1,.var [.sl (ab GNode.encS f),.sl (ab GTie.enc g),.lit (.int .i64 h)]),(192,1,.var [.lit (.int .i64 c),.sl (ab eI d),.sl (ab eI e)]),(1280,1,.row true (ab eI a)),(1281,1,.row true (ab eI b))],2⟩
attribute [go_sem] qr
@[go_sem] def hi93_11:DT:=.i1 0 (.i1 1 (.i1 2 (.r2 3 3 (.i0 6 [0,1,2] (.i0 7 [0,1,2] (.i0 8 [0] (.i2 9 (.i2 10 .nil))))))))
def hi93:Hint where
 acts:=fun _=>[]
 draws:=fun
  | 11=>⟨hi93_11,[[],[],[],[],[],[],[4,5],[3,4,5,6],[1,2,3,4,5,6,7],.range 9,.range 10],.range 11⟩
  | _=>⟨.nil,[],[]⟩
theorem TZ (i:Nat):hi93.acts i=[]:=rfl
theorem Ua (i:Nat):hi93.views i=none:=rfl
attribute [go_sem] TZ Ua Tryz.ntmps93 Tryz.results93
@[go_sem] theorem Wz:(hi93.draws 11).order=hi93_11:=rfl
theorem BH {rec:GShow→GState→Option Bool}(hrec:∀ {s:GShow} {v1:GState} {res:Bool},rec s v1=some res→ai Tryz.prog 93 [.agg (GShow.encS s),.agg (GState.encS v1)] [] (.lit (.bool res)) []){s:GShow}{v1:GState}{res:Bool}(h:kh rec s v1=some res):ai Tryz.prog 93 [.agg (GShow.encS s),.agg (GState.encS v1)] [] (.lit (.bool res)) []:=by
 refine co (hi:=hi93) Tryz.func93 rfl rfl ?_
 unfold kh at h
 obtain ⟨r01,g1,h⟩:=ae h
 simp(config:=cS)only[go_sem]
 have g1:=ctr g1
 refine ag g1 ?_
 obtain ⟨h2,h⟩|⟨h2,h⟩:=aZ h
 ·cases h
  simp(config:=cS)only[go_sem,eZt h2]
 ·obtain ⟨r02,g3,h⟩:=ae h
  simp(config:=cS)only[go_sem,eZf h2]
  have g3:=ctr g3
  refine ag g3 ?_
  obtain ⟨h4,h⟩|⟨h4,h⟩:=aZ h
  ·cases h
   simp(config:=cS)only[go_sem,eZf h2,eZt h4]
  ·obtain ⟨r03,g5,h⟩:=ae h
   simp(config:=cS)only[go_sem,eZf h2,eZf h4]
   have g5:=ctr g5
   refine ag g5 ?_
   obtain ⟨h6,h⟩|⟨h6,h⟩:=aZ h
   ·cases h
    simp(config:=cS)only[go_sem,eZf h2,eZf h4,eZt h6]
   ·obtain ⟨r04,g7,h⟩:=ae h
    simp(config:=cS)only[go_sem,eZf h2,eZf h4,eZf h6]
    have g7:=ctr g7
    refine ag g7 ?_
    obtain ⟨q09,l8,h⟩:=ae h
    simp(config:=cS)only[go_sem,eZf h2,eZf h4,eZf h6]
    refine aj (m1:=.mk) (m2:=.mk) [.nf [2,3,5,6,7] [128,192,1280,1281]] (qr s.nodes s.ties s.horizon v1.now v1.times v1.values r04.1 r04.2) l8 ?_ ?_
    ·simp(config:=cS)only[go_sem,eZf h2,eZf h4,eZf h6]
    ·intro nb9 n_1 bb9 b9 gb9
     unfold gI at b9
     try dsimp only at b9
     obtain ⟨h10,b9⟩:=gx b9
     obtain ⟨h11,b9⟩|⟨h11,b9⟩:=aZ b9
     ·obtain ⟨r05,g12,b9⟩:=ae b9
      simp(config:=cS)only[go_sem,eZf h2,eZf h4,eZf h6,eqF h10,eqT h11]
      have g12:=ctr g12
      refine ag g12 ?_
      obtain ⟨r06,g13,b9⟩:=ae b9
      simp(config:=cS)only[go_sem,eZf h2,eZf h4,eZf h6,eqF h10,eqT h11]
      have g13:=ctr g13
      refine ag g13 ?_
      obtain ⟨r07,g14,b9⟩:=ae b9
      simp(config:=cS)only[go_sem,eZf h2,eZf h4,eZf h6,eqF h10,eqT h11]
      have g14:=ctr g14
      refine ag g14 ?_
      obtain ⟨r08,g15,b9⟩:=ae b9
      simp(config:=cS)only[go_sem,eZf h2,eZf h4,eZf h6,eqF h10,eqT h11]
      refine ag (BG @hrec g15) ?_
      obtain ⟨h16,b9⟩|⟨h16,b9⟩:=aZ b9
      ·cases b9
       simp(config:=cS)only[go_sem,eZf h2,eZf h4,eZf h6,eqF h10,eqT h11,eZt h16]
       refine gy gb9 ?_
       simp(config:=cS)only[go_sem,eZf h2,eZf h4,eZf h6,eqF h10,eqT h11,eZt h16]
      ·cases b9
       obtain rfl:=(aS gb9).symm
       try dsimp only at h
       cases h
       simp(config:=cS)only[go_sem,eZf h2,eZf h4,eZf h6,eqF h10,eqT h11,eZf h16]
     ·cases b9
      obtain rfl:=(aS gb9).symm
      try dsimp only at h
      cases h
      simp(config:=cS)only[go_sem,eZf h2,eZf h4,eZf h6,eqF h10,eqF h11]
theorem we (fu:Nat):∀ {s:GShow} {v1:GState} {res:Bool},ki fu s v1=some res→ai Tryz.prog 93 [.agg (GShow.encS s),.agg (GState.encS v1)] [] (.lit (.bool res)) []:=by
 induction fu with
 | zero=>intro _ _ _ h;cases h
 | succ fu ih=>intro _ _ _ h;exact BH (@ih) h
theorem EL {s:GShow}{v1:GState}{res:Bool}(h:m_spec_l15Win s v1=some res):ai Tryz.prog 93 [.agg (GShow.encS s),.agg (GState.encS v1)] [] (.lit (.bool res)) []:=we 40 h
def tq (a b:Int)(c:List GNode)(d:List GTie)(e f:Int)(g h:List Int)(i:Bool)(j:List am)(k:Int)(m n:List Int)(l:List (List Int))(o:Int):St:=⟨[(2,.lit (.int .i64 a)),(3,.ptr 192 1 0 0),(4,.ptr 256 1 0 0),(8,.ref 896 1 0 l.length),(16,.lit (.int .i64 b)),(17,.lit (.int .i64 o))],[(192,1,.var [.sl (ab GNode.encS c),.sl (ab GTie.enc d),.lit (.int .i64 e),.lit (.int .i64 f),.sl (ab eI g),.sl (ab eI h),.lit (.bool i),.sl (ab am.encS j)]),(256,1,.var [.lit (.int .i64 k),.sl (ab eI m),.sl (ab eI n)]),(896,1,.tree (ab (eLS eI) l))],2⟩
attribute [go_sem] tq
attribute [go_sem] Tryz.ntmps233 Tryz.results233
def tu (o j h:List Int)(p q:Int)(r s:List Int)(k m:Int)(n:Bool)(t:Int)(a:List GNode)(b:List GTie)(c d:List Int)(e:List am)(f g i:List Int):(Int × (List Int) × (List Int))→St
 | (u,v,l)=>⟨[(1,.sl (ab eI o)),(3,.sl (ab eI j)),(4,.sl (ab eI h)),(7,.ptr 448 1 0 0),(10,.ptr 640 1 0 0),(11,.ptr 704 1 0 0),(12,.ptr 768 1 0 0),(13,.ref 1602 1 0 i.length),(14,.ref 1792 1 0 v.length),(15,.ref 1856 1 0 l.length),(30,.ref 1602 1 0 i.length),(31,.lit (.int .i64 p)),(32,.lit (.int .i64 u))],[(448,1,.var [.lit (.int .i64 q),.sl (ab eI r),.sl (ab eI s)]),(640,1,.var [.lit (.slice none 0 0),.lit (.slice none 0 0),.lit (.int .i64 0),.lit (.int .i64 0),.lit (.slice none 0 0),.lit (.slice none 0 0),.lit (.bool false),.lit (.slice none 0 0)]),(704,1,.var [.ref 1216 1 0 a.length,.ref 1217 1 0 b.length,.lit (.int .i64 k),.lit (.int .i64 m),.ref 1218 1 0 c.length,.ref 1219 1 0 d.length,.lit (.bool n),.ref 1220 1 0 e.length]),(1216,1,.row true (ab GNode.encO a)),(1217,1,.row true (ab GTie.enc b)),(1218,1,.row true (ab eI c)),(1219,1,.row true (ab eI d)),(1220,1,.row true (ab am.encO e)),(768,1,.var [.lit (.int .i64 t),.ref 1600 1 0 f.length,.ref 1601 1 0 g.length]),(1600,1,.row true (ab eI f)),(1601,1,.row true (ab eI g)),(1602,1,.row true (ab eI i)),(1792,1,.row true (ab eI v)),(1856,1,.row true (ab eI l))],2⟩
attribute [go_sem] tu
@[go_sem] def hi234_11:DT:=.i1 0 (.i1 1 (.i1 2 (.i1 3 (.i2 5 (.i2 8 (.i2 10 (.fork (.i0 4 [0,1,2,3] (.fork (.i0 6 [0,1,2,3] (.i0 7 [0,1,2,3] (.i0 9 [0,1,2,3] (.i2 11 (.i0 12 [0,1] (.i2 13 (.i2 14 (.i2 15 .nil)))))))) (.i0 7 [0,1,2,3] (.i0 6 [0,1,2,3] (.i0 9 [0,1,2,3] (.i2 11 (.i0 12 [0,1] (.i2 13 (.i2 14 (.i2 15 .nil)))))))))) (.i0 7 [0,1,2,3] (.i0 4 [0,1,2,3] (.i0 6 [0,1,2,3] (.i0 9 [0,1,2,3] (.i2 11 (.i0 12 [0,1] (.i2 13 (.i2 14 (.i2 15 .nil))))))))))))))))
def Kb:Hint where
 acts:=fun _=>[]
 draws:=fun
  | 11=>⟨hi234_11,[[],[0],[],[2],[],[],[4,5],[],[],[4,5,6,7,8],[],[2,3,4,5,6,7,8,9,10],[2,3,4,5,6,7,8,9,10,11],.range 13,.range 14,.range 15],.range 16⟩
  | _=>⟨.nil,[],[]⟩
theorem RS (i:Nat):Kb.acts i=[]:=rfl
theorem RT (i:Nat):Kb.views i=none:=rfl
attribute [go_sem] RS RT Tryz.ntmps234 Tryz.results234
@[go_sem] theorem Vr:(Kb.draws 11).order=hi234_11:=rfl
attribute [go_sem] Tryz.ntmps150 Tryz.results150
def uD (i j:List Int):(Int × Int × Bool × (List GNode) × (List GTie) × (List Int) × (List Int) × (List am))→St
 | (f,g,h,a,b,c,d,e)=>⟨[(3,.ptr 192 1 0 0),(4,.ptr 256 1 0 0),(6,.ptr 384 1 0 0)],[(192,1,.var [.sl (ab eI i),.sl (ab eI j)]),(256,1,.var [.lit (.slice none 0 0),.lit (.slice none 0 0),.lit (.int .i64 0),.lit (.int .i64 0),.lit (.slice none 0 0),.lit (.slice none 0 0),.lit (.bool false),.lit (.slice none 0 0)]),(384,1,.var [.ref 704 1 0 a.length,.ref 705 1 0 b.length,.lit (.int .i64 f),.lit (.int .i64 g),.ref 706 1 0 c.length,.ref 707 1 0 d.length,.lit (.bool h),.ref 708 1 0 e.length]),(704,1,.row true (ab GNode.encO a)),(705,1,.row true (ab GTie.enc b)),(706,1,.row true (ab eI c)),(707,1,.row true (ab eI d)),(708,1,.row true (ab am.encO e))],2⟩
attribute [go_sem] uD
@[go_sem] def hi138_4:DT:=.i1 0 (.i1 1 (.i1 2 (.i1 3 (.i1 4 (.i1 5 (.i1 7 (.i1 8 (.fork (.i0 6 [0,7,8] (.fork (.i2 9 (.i2 10 (.i2 11 (.i2 12 (.i2 13 (.i0 14 [0,1,2,3,4,5,7,8] (.i2 15 (.i2 16 (.i2 17 .nil))))))))) (.i0 14 [0,1,2,3,4,5,7,8] (.i2 9 (.i2 10 (.i2 11 (.i2 12 (.i2 13 (.i2 15 (.i2 16 (.i2 17 .nil))))))))))) (.i0 14 [0,1,2,3,4,5,7,8] (.i0 6 [0,7,8] (.i2 9 (.i2 10 (.i2 11 (.i2 12 (.i2 13 (.i2 15 (.i2 16 (.i2 17 .nil))))))))))))))))))
def Kc:Hint where
 acts:=fun _=>[]
 draws:=fun
  | 4=>⟨hi138_4,[[],[],[1],[],[3],[],[1,2,3,4,5],[],[7],.range 9,.range 10,.range 11,.range 11,.range 11,[],[0,1,2,3,4,5,6,7,8,9,10,11,14],[0,1,2,3,4,5,6,7,8,9,10,11,12,14,15],.range 17],[0,1,2,3,4,5,6,7,8,9,10,11,14,16,12,13,15,17]⟩
  | _=>⟨.nil,[],[]⟩
theorem RU (i:Nat):Kc.acts i=[]:=rfl
theorem RV (i:Nat):Kc.views i=none:=rfl
attribute [go_sem] RU RV Tryz.ntmps138 Tryz.results138
@[go_sem] theorem WA:(Kc.draws 4).order=hi138_4:=rfl
attribute [go_sem] Tryz.ntmps139 Tryz.results139
attribute [go_sem] Tryz.ntmps68 Tryz.results68
attribute [go_sem] Tryz.ntmps199 Tryz.results199
def tR (a:List GLink)(b c d:Int):St:=⟨[(1,.ptr 64 1 0 0),(16,.sl (ab GLink.enc a)),(17,.lit (.int .i64 b)),(18,.lit (.int .i64 d))],[(64,1,.var [.lit (.int .i64 c),.sl (ab GLink.enc a)])],2⟩
attribute [go_sem] tR
attribute [go_sem] Tryz.ntmps123 Tryz.results123
def sr (c:List GNode)(d:Int)(g:List GTie)(h:Int)(e f:List Int):(Int × (List Bool) × (List GLink))→St
 | (i,b,a)=>⟨[(2,.ptr 128 1 0 0),(3,.ptr 192 1 0 0),(4,.ptr 256 1 0 0),(6,.ptr 384 1 0 0),(7,.ref 1728 1 0 b.length),(29,.sl (ab GNode.encS c)),(30,.lit (.int .i64 d)),(31,.lit (.int .i64 i))],[(128,1,.var [.sl (ab GNode.encS c),.sl (ab GTie.enc g),.lit (.int .i64 h)]),(192,1,.var [.sl (ab eI e),.sl (ab eI f)]),(256,1,.var [.lit (.int .i64 0),.lit (.slice none 0 0)]),(384,1,.var [.lit (.int .i64 d),.ref 100024577 1 0 a.length]),(100024577,1,.row true (ab GLink.enc a)),(1728,1,.row true (ab eB b))],2⟩
attribute [go_sem] sr
def su (d:List GTie)(g:Int)(h:List GNode)(i:Int)(e f:List Int)(c:Int)(b:List Bool):(Int × (List GLink))→St
 | (j,a)=>⟨[(2,.ptr 128 1 0 0),(3,.ptr 192 1 0 0),(4,.ptr 256 1 0 0),(6,.ptr 384 1 0 0),(7,.ref 1728 1 0 b.length),(61,.sl (ab GTie.enc d)),(62,.lit (.int .i64 g)),(63,.lit (.int .i64 j))],[(128,1,.var [.sl (ab GNode.encS h),.sl (ab GTie.enc d),.lit (.int .i64 i)]),(192,1,.var [.sl (ab eI e),.sl (ab eI f)]),(256,1,.var [.lit (.int .i64 0),.lit (.slice none 0 0)]),(384,1,.var [.lit (.int .i64 c),.ref 100024577 1 0 a.length]),(100024577,1,.row true (ab GLink.enc a)),(1728,1,.row true (ab eB b))],2⟩
attribute [go_sem] su
def sv (c:Int)(e:List GNode)(f:List GTie)(g:Int)(b:List Bool):(Int × (List GLink))→St
 | (d,a)=>⟨[(2,.ptr 128 1 0 0),(4,.ptr 256 1 0 0),(6,.ptr 384 1 0 0),(7,.ref 1728 1 0 b.length),(114,.lit (.int .i64 c)),(115,.lit (.int .i64 d))],[(128,1,.var [.sl (ab GNode.encS e),.sl (ab GTie.enc f),.lit (.int .i64 g)]),(256,1,.var [.lit (.int .i64 0),.lit (.slice none 0 0)]),(384,1,.var [.lit (.int .i64 c),.ref 100024577 1 0 a.length]),(100024577,1,.row true (ab GLink.enc a)),(1728,1,.row true (ab eB b))],2⟩
attribute [go_sem] sv
def sw (i:Int)(c:List GNode)(d:Int)(e:List Int)(f:Int)(h:List GTie)(j:Int)(b:List Bool):(Int × (List GLink))→St
 | (g,a)=>⟨[(2,.ptr 128 1 0 0),(4,.ptr 256 1 0 0),(6,.ptr 384 1 0 0),(7,.ref 1728 1 0 b.length),(14,.lit (.int .i64 i)),(132,.sl (ab GNode.encS c)),(133,.lit (.int .i64 d)),(134,.lit (.int .i64 i)),(140,.sl (ab eI e)),(141,.lit (.int .i64 f)),(142,.lit (.int .i64 g))],[(128,1,.var [.sl (ab GNode.encS c),.sl (ab GTie.enc h),.lit (.int .i64 j)]),(256,1,.var [.lit (.int .i64 0),.lit (.slice none 0 0)]),(384,1,.var [.lit (.int .i64 d),.ref 100024577 1 0 a.length]),(100024577,1,.row true (ab GLink.enc a)),(1728,1,.row true (ab eB b))],2⟩
attribute [go_sem] sw
def sx (c:List GNode)(d:Int)(f:List GTie)(g:Int)(b:List Bool):(Int × (List GLink))→St
 | (e,a)=>⟨[(2,.ptr 128 1 0 0),(4,.ptr 256 1 0 0),(6,.ptr 384 1 0 0),(7,.ref 1728 1 0 b.length),(132,.sl (ab GNode.encS c)),(133,.lit (.int .i64 d)),(134,.lit (.int .i64 e))],[(128,1,.var [.sl (ab GNode.encS c),.sl (ab GTie.enc f),.lit (.int .i64 g)]),(256,1,.var [.lit (.int .i64 0),.lit (.slice none 0 0)]),(384,1,.var [.lit (.int .i64 d),.ref 100024577 1 0 a.length]),(100024577,1,.row true (ab GLink.enc a)),(1728,1,.row true (ab eB b))],2⟩
attribute [go_sem] sx
@[go_sem] def hi54_35:DT:=.i1 0 (.i1 1 (.i1 2 (.i2 3 (.i2 6 (.i2 7 (.i0 4 [0,1,2] (.i0 5 [0,1] (.i2 8 (.i0 9 [0,1] (.r2 10 3 .nil))))))))))
def hi54:Hint where
 acts:=fun _=>[]
 draws:=fun
  | 35=>⟨hi54_35,[[],[0],[],[],[3],[2,3,4],[],[],[2,3,4,5,6,7],[2,3,4,5,6,7,8],.range 10,.range 11,.range 12],.range 13⟩
  | _=>⟨.nil,[],[]⟩
theorem Ub (i:Nat):hi54.acts i=[]:=rfl
theorem Uc (i:Nat):hi54.views i=none:=rfl
attribute [go_sem] Ub Uc Tryz.ntmps54 Tryz.results54
@[go_sem] theorem WB:(hi54.draws 35).order=hi54_35:=rfl
@[go_sem] def hi55_1:DT:=.r2 0 24 .nil
def hi55:Hint where
 acts:=fun _=>[]
 draws:=fun
  | 1=>⟨hi55_1,[[],[],[0,1],[0,1,2],[0,1,2,3],[0,1,2,3],[0,1,2,3,5],[0,1,2,3,5,6],[0,1,2,3,5,6,7],.range 9,.range 10,.range 11,.range 12,.range 13,.range 12,.range 15,.range 16,.range 17,.range 12,[0,1,2,3,4,5,6,7,8,9,10,11,18],.range 20,.range 21,.range 22,.range 23],.range 24⟩
  | _=>⟨.nil,[],[]⟩
theorem Ud (i:Nat):hi55.acts i=[]:=rfl
theorem Ue (i:Nat):hi55.views i=none:=rfl
attribute [go_sem] Ud Ue Tryz.ntmps55 Tryz.results55
@[go_sem] theorem Xv:(hi55.draws 1).order=hi55_1:=rfl
def tS (a:List Int)(b c:Int):St:=⟨[(17,.sl (ab eI a)),(18,.lit (.int .i64 b)),(19,.lit (.int .i64 c))],[],2⟩
attribute [go_sem] tS
attribute [go_sem] Tryz.ntmps125 Tryz.results125
attribute [go_sem] Tryz.ntmps200 Tryz.results200
def sN (a:List Int)(b:List GLink)(c d:Int):St:=⟨[(1,.sl (ab eI a)),(12,.sl (ab GLink.enc b)),(13,.lit (.int .i64 c)),(14,.lit (.int .i64 d))],[],2⟩
attribute [go_sem] sN
@[go_sem] def hi126_6:DT:=.r2 0 15 .nil
def Kd:Hint where
 acts:=fun _=>[]
 draws:=fun
  | 6=>⟨hi126_6,[[],[0],[],[],[3],[2,3,4],[2,3,4,5],[],[],[8],[7,8,9],[7,8,9,10],[2,3,4,5,6,7,8,9,10,11],.range 13,.range 14],.range 15⟩
  | _=>⟨.nil,[],[]⟩
theorem RW (i:Nat):Kd.acts i=[]:=rfl
theorem RX (i:Nat):Kd.views i=none:=rfl
attribute [go_sem] RW RX Tryz.ntmps126 Tryz.results126
@[go_sem] theorem WC:(Kd.draws 6).order=hi126_6:=rfl
attribute [go_sem] Tryz.ntmps56 Tryz.results56
def tT (e:List Int)(f:Int)(g:List GNode)(h:List GTie)(i:Int)(c d:List Int)(j:Int)(a:List GLink):(Int × (List Int))→St
 | (k,b)=>⟨[(3,.ptr 192 1 0 0),(4,.ptr 256 1 0 0),(7,.ptr 448 1 0 0),(9,.ref 1792 1 0 b.length),(29,.sl (ab eI e)),(30,.lit (.int .i64 f)),(31,.lit (.int .i64 k))],[(192,1,.var [.sl (ab GNode.encS g),.sl (ab GTie.enc h),.lit (.int .i64 i)]),(256,1,.var [.sl (ab eI c),.sl (ab eI d)]),(448,1,.var [.lit (.int .i64 j),.ref 960 1 0 a.length]),(960,1,.row true (ab GLink.enc a)),(1792,1,.row true (ab eI b))],2⟩
attribute [go_sem] tT
attribute [go_sem] Tryz.ntmps11 Tryz.results11
def rf (a:Bool)(b:List GNode)(c:List GTie)(d n:Int):St:=⟨[(1,.lit (.bool a)),(2,.ptr 128 1 0 0),(5,.lit (.int .i64 n))],[(128,1,.var [.sl (ab GNode.encS b),.sl (ab GTie.enc c),.lit (.int .i64 d)])],2⟩
attribute [go_sem] rf
attribute [go_sem] Tryz.ntmps19 Tryz.results19
def qt (s:ByteArray)(i:Int):St:=⟨[(0,.lit (.string s)),(3,.lit (.int .i64 i))],[],2⟩
attribute [go_sem] qt
@[go_sem] def hi266_4:DT:=.r2 0 22 .nil
def FL:Hint where
 acts:=fun _=>[]
 draws:=fun
  | 4=>⟨hi266_4,[[],[],[0,1],[0,1,2],[0,1,2,3],.range 5,.range 5,.range 7,.range 8,.range 9,[],[],[10,11],[10,11,12],[0,1,2,3,4,10,11,12,13],[0,1,2,3,4,10,11,12,13,14],[0,1,2,3,4,10,11,12,13,14],[0,1,2,3,4,10,11,12,13,14,15,16],[0,1,2,3,4,10,11,12,13,14,15,16,17],[0,1,2,3,4,10,11,12,13,14,15,16,17,18],.range 15,.range 21],[0,1,2,3,4,5,6,7,8,9,10,11,12,13,14,16,17,18,19,20,15,21]⟩
  | _=>⟨.nil,[],[]⟩
theorem RY (i:Nat):FL.acts i=[]:=rfl
theorem RZ (i:Nat):FL.views i=none:=rfl
attribute [go_sem] RY RZ Tryz.ntmps266 Tryz.results266
@[go_sem] theorem WD:(FL.draws 4).order=hi266_4:=rfl
instance k266 {s:ByteArray}:Ctr (mc s) (fun (res:Bool)=>ai Tryz.prog 266 [.lit (.string s)] [] (.lit (.bool res)) []):=⟨by
 intro res h0
 refine co (hi:=FL) Tryz.func266 rfl rfl ?_
 unfold mc at h0
 obtain ⟨q02,l0,h0⟩:=ae h0
 simp(config:=cS)only[go_sem, *]
 refine aj (m1:=.mk) (m2:=.mk) [.nf [0,3] []] (qt s) l0 ?_ ?_
 ·simp(config:=cS)only[go_sem, *]
 ·have k0:=h0
  clear h0 l0
  intro _ i_1 _ h0 gb0
  unfold gE at h0
  try dsimp only at h0
  exact run⟩
attribute [go_sem] Tryz.ntmps176 Tryz.results176
instance k176 {l:Int}:Ctr (cT l) (fun (res:Int)=>ai Tryz.prog 176 [.lit (.int .i64 l)] [] (.lit (.int .i64 res)) []):=⟨by
 intro res h0
 refine co (hi:=hi00) Tryz.func176 rfl rfl ?_
 unfold cT at h0
 exact run⟩
def pK (l:List Int)(a b:Int):St:=⟨[(0,.sl (ab eI l)),(5,.sl (ab eI l)),(6,.lit (.int .i64 a)),(7,.lit (.int .i64 b))],[],2⟩
attribute [go_sem] pK
attribute [go_sem] Tryz.ntmps172 Tryz.results172
instance k172 {l:List Int}:Ctr (dK l) (fun (res:Bool)=>ai Tryz.prog 172 [.sl (ab eI l)] [] (.lit (.bool res)) []):=⟨by
 intro res h0
 refine co (hi:=hi00) Tryz.func172 rfl rfl ?_
 unfold dK at h0
 obtain ⟨q05,l0,h0⟩:=ae h0
 simp(config:=cS)only[go_sem, *]
 refine aj (m1:=.mk) (m2:=.mk) [.nf [0,5,6,7] []] (pK l ((l.length:Nat):Int)) l0 ?_ ?_
 ·simp(config:=cS)only[go_sem, *]
 ·have k0:=h0
  clear h0 l0
  intro _ v7_1 _ h0 gb0
  unfold fI at h0
  try dsimp only at h0
  exact run⟩
attribute [go_sem] Tryz.ntmps223 Tryz.results223
instance k223 {n:GNode}:Ctr (me n) (fun (res:Bool)=>ai Tryz.prog 223 [.agg (GNode.encS n)] [] (.lit (.bool res)) []):=⟨by
 intro res h0
 refine co (hi:=hi00) Tryz.func223 rfl rfl ?_
 unfold me at h0
 exact run⟩
def oS (a:List GNode)(b c:Int)(d:List GNode)(e:Int)(f:List GTie)(g:Int)(h:ByteArray)(i:List Int)(j k:Int):St:=⟨[(1,.ptr 64 1 0 0),(4,.ptr 256 1 0 0),(35,.sl (ab GNode.encS a)),(36,.lit (.int .i64 b)),(37,.lit (.int .i64 c)),(48,.sl (ab GNode.encS d)),(49,.lit (.int .i64 e)),(50,.lit (.int .i64 k))],[(64,1,.var [.sl (ab GNode.encS a),.sl (ab GTie.enc f),.lit (.int .i64 g)]),(256,1,.var [.lit (.string h),.sl (ab eI i),.lit (.int .i64 j)])],2⟩
attribute [go_sem] oS
def oT (a:List GNode)(b:Int)(c:List GTie)(d e:Int):St:=⟨[(1,.ptr 64 1 0 0),(35,.sl (ab GNode.encS a)),(36,.lit (.int .i64 b)),(37,.lit (.int .i64 e))],[(64,1,.var [.sl (ab GNode.encS a),.sl (ab GTie.enc c),.lit (.int .i64 d)])],2⟩
attribute [go_sem] oT
attribute [go_sem] Tryz.ntmps142 Tryz.results142
instance k142 {s:GShow}:Ctr (kc s) (fun (res:Bool)=>ai Tryz.prog 142 [.agg (GShow.encS s)] [] (.lit (.bool res)) []):=⟨by
 intro res h0
 refine co (hi:=hi00) Tryz.func142 rfl rfl ?_
 unfold kc at h0
 obtain ⟨_,h0⟩|⟨_,h0⟩:=itP h0
 ·exact run
 ·obtain ⟨_,h0⟩|⟨_,h0⟩:=itP h0
  ·exact run
  ·obtain ⟨x01,g1,h0⟩:=ae h0
   have:=dr (k:=0) g1
   obtain ⟨_,h0⟩|⟨_,h0⟩:=itP h0
   ·exact run
   ·obtain ⟨_,h0⟩|⟨_,h0⟩:=itP h0
    ·obtain ⟨q06,l0,h0⟩:=ae h0
     simp(config:=cS)only[go_sem, *]
     refine aj (m1:=.mk) (m2:=.mk) [.nf [1,35,36,37] [64]] (oT s.nodes ((s.nodes.length:Nat):Int) s.ties s.horizon) l0 ?_ ?_
     ·simp(config:=cS)only[go_sem, *]
     ·have k0:=h0
      clear h0 l0
      intro _ v37_1 _ h0 gb0
      unfold eJ at h0
      try dsimp only at h0
      obtain ⟨_,h0⟩|⟨_,h0⟩:=itP h0
      ·obtain ⟨x02,_,_,_,h0⟩:=gtI h0
       obtain ⟨r03,g0,h0⟩:=ae h0
       simp(config:=cS)only[go_sem, *]
       have g0:=ctr g0
       refine ag g0 ?_
       obtain ⟨_,h0⟩|⟨_,h0⟩:=itB h0
       ·obtain ⟨_,h0⟩:=ckP h0
        obtain ⟨_,h0⟩:=ckP h0
        obtain ⟨q05,l0,h0⟩:=ae h0
        simp(config:=cS)only[go_sem, *]
        refine aj (m1:=.mk) (m2:=.mk) [.nf [1,4,35,36,37,48,49,50] [64,256]] (oS s.nodes ((s.nodes.length:Nat):Int) v37_1 (s.nodes.take v37_1.toNat) (((s.nodes.take v37_1.toNat).length:Nat):Int) s.ties s.horizon x02.name x02.label x02.watch) l0 ?_ ?_
        ·simp(config:=cS)only[go_sem, *]
        ·have k0:=h0
         clear h0 l0
         intro _ v50_2 _ h0 gb0
         unfold eH at h0
         try dsimp only at h0
         exact run
       ·exact run
      ·exact run
    ·exact run⟩
attribute [go_sem] Tryz.ntmps103 Tryz.results103
instance k103 {n:Int} {node:Int}:Ctr (fU n node) (fun (res:Bool)=>ai Tryz.prog 103 [.lit (.int .i64 n),.lit (.int .i64 node)] [] (.lit (.bool res)) []):=⟨by
 intro res h0
 refine co (hi:=hi00) Tryz.func103 rfl rfl ?_
 unfold fU at h0
 exact run⟩
attribute [go_sem] Tryz.ntmps224 Tryz.results224
instance k224 {n:Int}:Ctr (jT n) (fun (res:Bool)=>ai Tryz.prog 224 [.lit (.int .i64 n)] [] (.lit (.bool res)) []):=⟨by
 intro res h0
 refine co (hi:=hi00) Tryz.func224 rfl rfl ?_
 unfold jT at h0
 exact run⟩
def mL (c d:List Int)(a b:Int):St:=⟨[(0,.sl (ab eI c)),(1,.sl (ab eI d)),(12,.lit (.int .i64 a)),(13,.lit (.int .i64 b))],[],2⟩
attribute [go_sem] mL
@[go_sem] def hi91_6:DT:=.r2 0 9 .nil
def hi91:Hint where
 acts:=fun _=>[]
 draws:=fun
  | 6=>⟨hi91_6,[[],[],[0,1],[0,1,2],[],[],[4,5],[4,5,6],.range 8],.range 9⟩
  | _=>⟨.nil,[],[]⟩
theorem Uf (i:Nat):hi91.acts i=[]:=rfl
theorem Ug (i:Nat):hi91.views i=none:=rfl
attribute [go_sem] Uf Ug Tryz.ntmps91 Tryz.results91
@[go_sem] theorem Xw:(hi91.draws 6).order=hi91_6:=rfl
instance k91 {v0:List Int} {v1:List Int}:Ctr (cu v0 v1) (fun (res:Bool)=>ai Tryz.prog 91 [.sl (ab eI v0),.sl (ab eI v1)] [] (.lit (.bool res)) []):=⟨by
 intro res h0
 refine co (hi:=hi91) Tryz.func91 rfl rfl ?_
 unfold cu at h0
 obtain ⟨_,h0⟩|⟨_,h0⟩:=itP h0
 ·obtain ⟨q03,l0,h0⟩:=ae h0
  simp(config:=cS)only[go_sem, *]
  refine aj (m1:=.mk) (m2:=.mk) [.nf [0,1,12,13] []] (mL v0 v1 ((v0.length:Nat):Int)) l0 ?_ ?_
  ·simp(config:=cS)only[go_sem, *]
  ·have k0:=h0
   clear h0 l0
   intro _ v13_1 _ h0 gb0
   unfold dj at h0
   try dsimp only at h0
   exact run
 ·exact run⟩
end Go.Proofs.Qb
