/- Functions. -/
import Derived.Test.YtpkcmjnlnbddbaaGreatDoorXaX
import Derived.Test.YtpkcmjnlnbddbaaGreatDoorXa37
set_option linter.all false
set_option maxRecDepth 100000
set_option maxHeartbeats 4000000
namespace Go.Proofs.Qa
open Go
theorem co {hi:Hint}{f:FuncId}{fn:Func}{c:Code}{args:List AV}{h0 h':Hp}{r:AV}(hf:Tryz.prog.funcs[f]?=some fn)(hn:(fn.name == "runtime.NumGoroutine")=false) (hb:fn.body=some c) (h:bj Tryz.prog mdT T fn.ntmps hi c ⟨jw 0 args,h0,1⟩ (retK T [] fn.results.toList (h0.map (·.1)) (fun r1 h1=>r1=r∧h1=h'))) (hc:ff hi c=true:=by decide +kernel) (hlen:args.length≤fn.ntmps:=by simp):al Tryz.prog f args h0 r h':=cE (ra:=[]) (md:=mdT) hT hf hn hb hc hlen h
attribute [go_sem] Tryz.ntmps53 Tryz.results53
instance k53 {a:List Int} {left:Int}:Ctr (dX a left) (fun (res:Int)=>al Tryz.prog 53 [.sl (ab eI a),.lit (.int .i64 left)] [] (.lit (.int .i64 res)) []):=⟨by
 intro res h0
 refine co (hi:=hi00) Tryz.func53 rfl rfl ?_
 unfold dX at h0
 exact run⟩
attribute [go_sem] Tryz.ntmps117 Tryz.results117
instance k117 {a:GNode} {left:Int}:Ctr (gr a left) (fun (res:Int)=>al Tryz.prog 117 [.agg (GNode.encS a),.lit (.int .i64 left)] [] (.lit (.int .i64 res)) []):=⟨by
 intro res h0
 refine co (hi:=hi00) Tryz.func117 rfl rfl ?_
 unfold gr at h0
 exact run⟩
def jy (a:List GNode):(Int × Int)→St
 | (b,i)=>⟨[(0,.sl (ab GNode.encS a)),(1,.lit (.int .i64 b)),(5,.lit (.int .i64 i))],[],2⟩
attribute [go_sem] jy
attribute [go_sem] Tryz.ntmps51 Tryz.results51
instance k51 {a:List GNode} {left:Int}:Ctr (fQ a left) (fun (res:Int)=>al Tryz.prog 51 [.sl (ab GNode.encS a),.lit (.int .i64 left)] [] (.lit (.int .i64 res)) []):=⟨by
 intro res h0
 refine co (hi:=hi00) Tryz.func51 rfl rfl ?_
 unfold fQ at h0
 obtain ⟨_,h0⟩|⟨_,h0⟩:=itP h0
 ·exact run
 ·obtain ⟨q03,l0,h0⟩:=af h0
  simp(config:=cS)only[go_sem, *]
  refine aq (m1:=.mk) (m2:=.mk) [.nf [0,1,5] []] (jy a) l0 ?_ ?_
  ·simp(config:=cS)only[go_sem, *]
  ·have k0:=h0
   clear h0 l0
   intro _ s0 _ h0 gb0
   obtain ⟨left_1,i_1⟩:=s0
   unfold ea at h0
   try dsimp only at h0
   exact run⟩
attribute [go_sem] Tryz.ntmps52 Tryz.results52
instance k52 {a:List GTie} {left:Int}:Ctr (gu a left) (fun (res:Int)=>al Tryz.prog 52 [.sl (ab GTie.enc a),.lit (.int .i64 left)] [] (.lit (.int .i64 res)) []):=⟨by
 intro res h0
 refine co (hi:=hi00) Tryz.func52 rfl rfl ?_
 unfold gu at h0
 exact run⟩
attribute [go_sem] Tryz.ntmps9 Tryz.results9
instance k9 {a:GShow} {left:Int}:Ctr (gv a left) (fun (res:Int)=>al Tryz.prog 9 [.agg (GShow.encS a),.lit (.int .i64 left)] [] (.lit (.int .i64 res)) []):=⟨by
 intro res h0
 refine co (hi:=hi00) Tryz.func9 rfl rfl ?_
 unfold gv at h0
 exact run⟩
def jV (a:List Int):(Int × (List Int))→St
 | (i,b)=>⟨[(0,.sl (ab eI a)),(3,.ref 448 1 0 b.length),(4,.lit (.int .i64 i))],[(448,1,.row true (ab eI b))],2⟩
attribute [go_sem] jV
attribute [go_sem] Tryz.ntmps14 Tryz.results14
instance k14 {a:List Int}:Ctr (bX a) (fun (res:List Int)=>al Tryz.prog 14 [.sl (ab eI a)] [] (.ref 20000 1 0 res.length) [(20000,1,.row true (ab eI res))]):=⟨by
 intro res h0
 refine cE (ra:=[.home 2]) (md:=mdT) hT (hi:=hi00) Tryz.func14 rfl rfl (by decide +kernel) (by simp) ?_
 unfold bX at h0
 obtain ⟨_,h0⟩:=ckP h0
 obtain ⟨_,h0⟩:=ckP h0
 obtain ⟨q03,l0,h0⟩:=af h0
 simp(config:=cS)only[go_sem, *]
 refine aq (m1:=.mk) (m2:=.mk) [.nf [0,3,4] [448]] (jV a) l0 ?_ ?_
 ·simp(config:=cS)only[go_sem, *]
 ·have k0:=h0
  clear h0 l0
  intro _ s0 _ h0 gb0
  obtain ⟨i_1,out_1⟩:=s0
  unfold eN at h0
  try dsimp only at h0
  exact run⟩
attribute [go_sem] Tryz.ntmps127 Tryz.results127
instance k127 {a:GNode}:Ctr (gw a) (fun (res:GNode)=>al Tryz.prog 127 [.agg (GNode.encS a)] [] (.agg [.lit (.string res.name),.ref 20000 1 0 res.label.length,.lit (.int .i64 res.watch)]) [(20000,1,.row true (ab eI res.label))]):=⟨by
 intro res h0
 refine cE (ra:=[.homeCell 128 1]) (md:=mdT) hT (hi:=hi00) Tryz.func127 rfl rfl (by decide +kernel) (by simp) ?_
 unfold gw at h0
 exact run⟩
def jz (a:List GNode):(Int × (List GNode))→St
 | (i,b)=>⟨[(0,.sl (ab GNode.encS a)),(3,.ref 448 1 0 b.length),(4,.lit (.int .i64 i))],[(448,1,.row true (ab GNode.encO b))],2⟩
attribute [go_sem] jz
attribute [go_sem] Tryz.ntmps57 Tryz.results57
instance k57 {a:List GNode}:Ctr (fR a) (fun (res:List GNode)=>al Tryz.prog 57 [.sl (ab GNode.encS a)] [] (.ref 20000 1 0 res.length) [(20000,1,.row true (ab GNode.encO res))]):=⟨by
 intro res h0
 refine cE (ra:=[.home 2]) (md:=mdT) hT (hi:=hi00) Tryz.func57 rfl rfl (by decide +kernel) (by simp) ?_
 unfold fR at h0
 obtain ⟨_,h0⟩:=ckP h0
 obtain ⟨_,h0⟩:=ckP h0
 obtain ⟨q04,l0,h0⟩:=af h0
 simp(config:=cS)only[go_sem, *]
 refine aq (m1:=.mk) (m2:=.mk) [.nf [0,3,4] [448]] (jz a) l0 ?_ ?_
 ·simp(config:=cS)only[go_sem, *]
 ·have k0:=h0
  clear h0 l0
  intro _ s0 _ h0 gb0
  obtain ⟨i_1,out_1⟩:=s0
  unfold eb at h0
  try dsimp only at h0
  exact run⟩
attribute [go_sem] Tryz.ntmps128 Tryz.results128
instance k128 {a:GTie}:Ctr (jM a) (fun (res:GTie)=>al Tryz.prog 128 [.agg (GTie.enc a)] [] (.agg (GTie.enc res)) []):=⟨by
 intro res h0
 refine co (hi:=hi00) Tryz.func128 rfl rfl ?_
 unfold jM at h0
 exact run⟩
def jW (a:List GTie):(Int × (List GTie))→St
 | (i,b)=>⟨[(0,.sl (ab GTie.enc a)),(3,.ref 448 1 0 b.length),(4,.lit (.int .i64 i))],[(448,1,.row true (ab GTie.enc b))],2⟩
attribute [go_sem] jW
attribute [go_sem] Tryz.ntmps58 Tryz.results58
instance k58 {a:List GTie}:Ctr (gx a) (fun (res:List GTie)=>al Tryz.prog 58 [.sl (ab GTie.enc a)] [] (.ref 20000 1 0 res.length) [(20000,1,.row true (ab GTie.enc res))]):=⟨by
 intro res h0
 refine cE (ra:=[.home 2]) (md:=mdT) hT (hi:=hi00) Tryz.func58 rfl rfl (by decide +kernel) (by simp) ?_
 unfold gx at h0
 obtain ⟨_,h0⟩:=ckP h0
 obtain ⟨_,h0⟩:=ckP h0
 obtain ⟨q04,l0,h0⟩:=af h0
 simp(config:=cS)only[go_sem, *]
 refine aq (m1:=.mk) (m2:=.mk) [.nf [0,3,4] [448]] (jW a) l0 ?_ ?_
 ·simp(config:=cS)only[go_sem, *]
 ·have k0:=h0
  clear h0 l0
  intro _ s0 _ h0 gb0
  obtain ⟨i_1,out_1⟩:=s0
  unfold eO at h0
  try dsimp only at h0
  exact run⟩
attribute [go_sem] Tryz.ntmps12 Tryz.results12
instance k12 {a:GShow}:Ctr (dY a) (fun (res:GShow)=>al Tryz.prog 12 [.agg (GShow.encS a)] [] (.agg [.ref 20000 1 0 res.nodes.length,.ref 20001 1 0 res.ties.length,.lit (.int .i64 res.horizon)]) [(20000,1,.row true (ab GNode.encO res.nodes)),(20001,1,.row true (ab GTie.enc res.ties))]):=⟨by
 intro res h0
 refine cE (ra:=[.homeCell 128 0,.homeCell 128 1]) (md:=mdT) hT (hi:=hi00) Tryz.func12 rfl rfl (by decide +kernel) (by simp) ?_
 unfold dY at h0
 exact run⟩
attribute [go_sem] Tryz.ntmps124 Tryz.results124
instance k124 {n:Int} {lo:Int} {hi:Int}:Ctr (aU n lo hi) (fun (res:Bool)=>al Tryz.prog 124 [.lit (.int .i64 n),.lit (.int .i64 lo),.lit (.int .i64 hi)] [] (.lit (.bool res)) []):=⟨by
 intro res h0
 refine co (hi:=hi00) Tryz.func124 rfl rfl ?_
 unfold aU at h0
 exact run⟩
def jX (s:ByteArray)(i:Int):St:=⟨[(0,.lit (.string s)),(3,.lit (.int .i64 i))],[],2⟩
attribute [go_sem] jX
attribute [go_sem] Tryz.ntmps274 Tryz.results274
instance k274 {s:ByteArray}:Ctr (gy s) (fun (res:Bool)=>al Tryz.prog 274 [.lit (.string s)] [] (.lit (.bool res)) []):=⟨by
 intro res h0
 refine co (hi:=hi00) Tryz.func274 rfl rfl ?_
 unfold gy at h0
 obtain ⟨q03,l0,h0⟩:=af h0
 simp(config:=cS)only[go_sem, *]
 refine aq (m1:=.mk) (m2:=.mk) [.nf [0,3] []] (jX s) l0 ?_ ?_
 ·simp(config:=cS)only[go_sem, *]
 ·have k0:=h0
  clear h0 l0
  intro _ i_1 _ h0 gb0
  unfold dv at h0
  try dsimp only at h0
  exact run⟩
attribute [go_sem] Tryz.ntmps122 Tryz.results122
instance k122 {n:Int}:Ctr (bE n) (fun (res:Int)=>al Tryz.prog 122 [.lit (.int .i64 n)] [] (.lit (.int .i64 res)) []):=⟨by
 intro res h0
 refine co (hi:=hi00) Tryz.func122 rfl rfl ?_
 unfold bE at h0
 exact run⟩
def jA (l:List Int)(a b:Int):St:=⟨[(0,.sl (ab eI l)),(5,.sl (ab eI l)),(6,.lit (.int .i64 a)),(7,.lit (.int .i64 b))],[],2⟩
attribute [go_sem] jA
attribute [go_sem] Tryz.ntmps275 Tryz.results275
instance k275 {l:List Int}:Ctr (dw l) (fun (res:Bool)=>al Tryz.prog 275 [.sl (ab eI l)] [] (.lit (.bool res)) []):=⟨by
 intro res h0
 refine co (hi:=hi00) Tryz.func275 rfl rfl ?_
 unfold dw at h0
 obtain ⟨q06,l0,h0⟩:=af h0
 simp(config:=cS)only[go_sem, *]
 refine aq (m1:=.mk) (m2:=.mk) [.nf [0,5,6,7] []] (jA l ((l.length:Nat):Int)) l0 ?_ ?_
 ·simp(config:=cS)only[go_sem, *]
 ·have k0:=h0
  clear h0 l0
  intro _ v7_1 _ h0 gb0
  unfold da at h0
  try dsimp only at h0
  exact run⟩
attribute [go_sem] Tryz.ntmps217 Tryz.results217
instance k217 {n:GNode}:Ctr (gz n) (fun (res:Bool)=>al Tryz.prog 217 [.agg (GNode.encS n)] [] (.lit (.bool res)) []):=⟨by
 intro res h0
 refine co (hi:=hi00) Tryz.func217 rfl rfl ?_
 unfold gz at h0
 exact run⟩
def iA (a:ByteArray)(c:List GNode)(d b:Int):St:=⟨[(1,.lit (.string a)),(8,.sl (ab GNode.encS c)),(9,.lit (.int .i64 d)),(10,.lit (.int .i64 b))],[],2⟩
attribute [go_sem] iA
attribute [go_sem] Tryz.ntmps218 Tryz.results218
instance k218 {s:GShow} {name:ByteArray}:Ctr (eP s name) (fun (res:Int)=>al Tryz.prog 218 [.agg (GShow.encS s),.lit (.string name)] [] (.lit (.int .i64 res)) []):=⟨by
 intro res h0
 refine co (hi:=hi00) Tryz.func218 rfl rfl ?_
 unfold eP at h0
 obtain ⟨q02,l0,h0⟩:=af h0
 simp(config:=cS)only[go_sem, *]
 refine aq (m1:=.mk) (m2:=.mk) [.nf [1,8,9,10] []] (iA name s.nodes ((s.nodes.length:Nat):Int)) l0 ?_ ?_
 ·simp(config:=cS)only[go_sem, *]
 ·have k0:=h0
  clear h0 l0
  intro _ v10_1 _ h0 gb0
  unfold cp at h0
  try dsimp only at h0
  exact run⟩
def ip (p:Int)(b:List GNode)(c a:Int):St:=⟨[(1,.lit (.int .i64 p)),(8,.sl (ab GNode.encS b)),(9,.lit (.int .i64 c)),(10,.lit (.int .i64 a))],[],2⟩
attribute [go_sem] ip
attribute [go_sem] Tryz.ntmps121 Tryz.results121
instance k121 {s:GShow} {p:Int}:Ctr (bf s p) (fun (res:Int)=>al Tryz.prog 121 [.agg (GShow.encS s),.lit (.int .i64 p)] [] (.lit (.int .i64 res)) []):=⟨by
 intro res h0
 refine co (hi:=hi00) Tryz.func121 rfl rfl ?_
 unfold bf at h0
 obtain ⟨q02,l0,h0⟩:=af h0
 simp(config:=cS)only[go_sem, *]
 refine aq (m1:=.mk) (m2:=.mk) [.nf [1,8,9,10] []] (ip p s.nodes ((s.nodes.length:Nat):Int)) l0 ?_ ?_
 ·simp(config:=cS)only[go_sem, *]
 ·have k0:=h0
  clear h0 l0
  intro _ v10_1 _ h0 gb0
  unfold bY at h0
  try dsimp only at h0
  exact run⟩
def jY (n:Int)(a:List Int)(b c:Int):St:=⟨[(1,.lit (.int .i64 n)),(7,.sl (ab eI a)),(8,.lit (.int .i64 b)),(9,.lit (.int .i64 c))],[],2⟩
attribute [go_sem] jY
attribute [go_sem] Tryz.ntmps219 Tryz.results219
instance k219 {l:List Int} {n:Int}:Ctr (cy l n) (fun (res:Bool)=>al Tryz.prog 219 [.sl (ab eI l),.lit (.int .i64 n)] [] (.lit (.bool res)) []):=⟨by
 intro res h0
 refine co (hi:=hi00) Tryz.func219 rfl rfl ?_
 unfold cy at h0
 obtain ⟨q02,l0,h0⟩:=af h0
 simp(config:=cS)only[go_sem, *]
 refine aq (m1:=.mk) (m2:=.mk) [.nf [1,7,8,9] []] (jY n l ((l.length:Nat):Int)) l0 ?_ ?_
 ·simp(config:=cS)only[go_sem, *]
 ·have k0:=h0
  clear h0 l0
  intro _ v9_1 _ h0 gb0
  unfold dx at h0
  try dsimp only at h0
  exact run⟩
def gQ (a b:List Int)(c d:Int):St:=⟨[(0,.sl (ab eI a)),(15,.sl (ab eI b)),(16,.lit (.int .i64 c)),(17,.lit (.int .i64 d))],[],2⟩
attribute [go_sem] gQ
attribute [go_sem] Tryz.ntmps220 Tryz.results220
instance k220 {a:List Int} {b:List Int}:Ctr (cq a b) (fun (res:Bool)=>al Tryz.prog 220 [.sl (ab eI a),.sl (ab eI b)] [] (.lit (.bool res)) []):=⟨by
 intro res h0
 refine co (hi:=hi00) Tryz.func220 rfl rfl ?_
 unfold cq at h0
 obtain ⟨r01,g0,h0⟩:=af h0
 simp(config:=cS)only[go_sem, *]
 have g0:=ctr g0
 refine az g0 ?_
 obtain ⟨_,h0⟩|⟨_,h0⟩:=itB h0
 ·obtain ⟨r02,g0,h0⟩:=af h0
  simp(config:=cS)only[go_sem, *]
  have g0:=ctr g0
  refine az g0 ?_
  obtain ⟨_,h0⟩|⟨_,h0⟩:=itB h0
  ·obtain ⟨q05,l0,h0⟩:=af h0
   simp(config:=cS)only[go_sem, *]
   refine aq (m1:=.mk) (m2:=.mk) [.nf [0,15,16,17] []] (gQ a b ((b.length:Nat):Int)) l0 ?_ ?_
   ·simp(config:=cS)only[go_sem, *]
   ·have k0:=h0
    clear h0 l0
    intro _ v17_1 _ h0 gb0
    unfold bF at h0
    try dsimp only at h0
    exact run
  ·exact run
 ·exact run⟩
def iT (a:List GNode)(b:Int)(c:List GTie)(d e:Int):St:=⟨[(1,.ptr 64 1 0 0),(33,.sl (ab GNode.encS a)),(34,.lit (.int .i64 b)),(35,.lit (.int .i64 e))],[(64,1,.var [.sl (ab GNode.encS a),.sl (ab GTie.enc c),.lit (.int .i64 d)])],2⟩
attribute [go_sem] iT
def iU (a:List GNode)(c d:Int)(b:List Int)(e:Int)(f:List GTie)(g:Int)(h:ByteArray)(i j:Int):St:=⟨[(1,.ptr 64 1 0 0),(6,.ptr 384 1 0 0),(66,.sl (ab GNode.encS a)),(67,.lit (.int .i64 c)),(68,.lit (.int .i64 d)),(73,.sl (ab eI b)),(74,.lit (.int .i64 e)),(75,.lit (.int .i64 j))],[(64,1,.var [.sl (ab GNode.encS a),.sl (ab GTie.enc f),.lit (.int .i64 g)]),(384,1,.var [.lit (.string h),.sl (ab eI b),.lit (.int .i64 i)])],2⟩
attribute [go_sem] iU
def iV (a:List GNode)(b:Int)(c:List GTie)(d e:Int):St:=⟨[(1,.ptr 64 1 0 0),(66,.sl (ab GNode.encS a)),(67,.lit (.int .i64 b)),(68,.lit (.int .i64 e))],[(64,1,.var [.sl (ab GNode.encS a),.sl (ab GTie.enc c),.lit (.int .i64 d)])],2⟩
attribute [go_sem] iV
@[go_sem] def hi140_16:DT:=.r2 0 35 .nil
@[go_sem] def hi140_15:DT:=.i1 0 (.i2 1 (.i0 2 [0] (.i2 3 (.i2 4 .nil))))
def uM:Hint where
 acts:=fun _=>[]
 draws:=fun
  | 15=>⟨hi140_15,[[],[],[1],[0,1,2],[0,1,2,3]],.range 5⟩
  | 16=>⟨hi140_16,[[],[0],[0,1],[0,1,2],[0,1,2,3],[0,1,2],.range 6,.range 7,.range 8,[0,1,2],.range 10,.range 11,.range 12,.range 13,.range 14,.range 13,.range 16,.range 17,.range 18,.range 13,[0,1,2,3,4,5,6,7,8,9,10,11,12,19],.range 21,.range 22,.range 23,.range 24,.range 25,.range 24,[0,1,2,3,4,5,6,7,8,9,10,11,12,13,14,15,16,17,18,19,20,21,22,23,26],.range 24,[0,1,2,3,4,5,6,7,8,9,10,11,12,13,14,15,16,17,18,19,20,21,22,23,26,27,28],[0,1,2,3,4,5,6,7,8,9,10,11,12,13,14,15,16,17,18,19,20,21,22,23,26,27,28,29],[0,1,2,3,4,5,6,7,8,9,10,11,12,13,14,15,16,17,18,19,20,21,22,23,26,27,28,29,30],.range 32,.range 33,.range 34],.range 35⟩
  | _=>⟨.nil,[],[]⟩
theorem HA (i:Nat):uM.acts i=[]:=rfl
theorem HB (i:Nat):uM.views i=none:=rfl
attribute [go_sem] HA HB Tryz.ntmps140 Tryz.results140
@[go_sem] theorem Lg:(uM.draws 15).order=hi140_15:=rfl
@[go_sem] theorem Lh:(uM.draws 16).order=hi140_16:=rfl
instance k140 {s:GShow}:Ctr (fj s) (fun (res:Bool)=>al Tryz.prog 140 [.agg (GShow.encS s)] [] (.lit (.bool res)) []):=⟨by
 intro res h0
 refine co (hi:=uM) Tryz.func140 rfl rfl ?_
 unfold fj at h0
 obtain ⟨r01,g0,h0⟩:=af h0
 simp(config:=cS)only[go_sem, *]
 have g0:=ctr g0
 refine az g0 ?_
 obtain ⟨_,h0⟩|⟨_,h0⟩:=itB h0
 ·obtain ⟨x02,g1,h0⟩:=af h0
  have:=lH (k:=0) g1
  obtain ⟨_,h0⟩|⟨_,h0⟩:=itP h0
  ·exact run
  ·obtain ⟨_,h0⟩|⟨_,h0⟩:=itP h0
   ·obtain ⟨q17,l0,h0⟩:=af h0
    simp(config:=cS)only[go_sem, *]
    refine aq (m1:=.mk) (m2:=.mk) [.nf [1,33,34,35] [64]] (iT s.nodes ((s.nodes.length:Nat):Int) s.ties s.horizon) l0 ?_ ?_
    ·simp(config:=cS)only[go_sem, *]
    ·have k0:=h0
     clear h0 l0
     intro _ v35_1 _ h0 gb0
     unfold cF at h0
     try dsimp only at h0
     obtain ⟨_,h0⟩|⟨_,h0⟩:=itP h0
     ·exact run
     ·cases h0
      obtain rfl:=(cn gb0).symm
      clear gb0
      have h0:=k0
      clear k0
      try dsimp only at h0
      obtain ⟨q16,l0,h0⟩:=af h0
      simp(config:=cS)only[go_sem, *]
      refine aq (m1:=.mk) (m2:=.mk) [.nf [1,66,67,68] [64]] (iV s.nodes ((s.nodes.length:Nat):Int) s.ties s.horizon) l0 ?_ ?_
      ·simp(config:=cS)only[go_sem, *]
      ·have k0:=h0
       clear h0 l0
       intro _ v68_2 _ h0 gb0
       unfold cH at h0
       try dsimp only at h0
       obtain ⟨_,h0⟩|⟨_,h0⟩:=itP h0
       ·obtain ⟨x07,_,_,_,h0⟩:=gtI h0
        obtain ⟨q15,l0,h0⟩:=af h0
        simp(config:=cS)only[go_sem, *]
        refine aq (m1:=.mk) (m2:=.mk) [.nf [1,6,66,67,68,73,74,75] [64,384]] (iU s.nodes ((s.nodes.length:Nat):Int) v68_2 x07.label ((x07.label.length:Nat):Int) s.ties s.horizon x07.name x07.watch) l0 ?_ ?_
        ·simp(config:=cS)only[go_sem, *]
        ·have k0:=h0
         clear h0 l0
         intro _ v75_3 _ h0 gb0
         unfold cG at h0
         try dsimp only at h0
         exact run
       ·exact run
   ·exact run
 ·exact run⟩
def jB (b a:List Int)(c d:Int):St:=⟨[(1,.sl (ab eI b)),(12,.sl (ab eI a)),(13,.lit (.int .i64 c)),(14,.lit (.int .i64 d))],[],2⟩
attribute [go_sem] jB
attribute [go_sem] Tryz.ntmps221 Tryz.results221
instance k221 {a:List Int} {b:List Int}:Ctr (fS a b) (fun (res:Bool)=>al Tryz.prog 221 [.sl (ab eI a),.sl (ab eI b)] [] (.lit (.bool res)) []):=⟨by
 intro res h0
 refine co (hi:=hi00) Tryz.func221 rfl rfl ?_
 unfold fS at h0
 obtain ⟨_,h0⟩|⟨_,h0⟩:=itP h0
 ·obtain ⟨q03,l0,h0⟩:=af h0
  simp(config:=cS)only[go_sem, *]
  refine aq (m1:=.mk) (m2:=.mk) [.nf [1,12,13,14] []] (jB b a ((a.length:Nat):Int)) l0 ?_ ?_
  ·simp(config:=cS)only[go_sem, *]
  ·have k0:=h0
   clear h0 l0
   intro _ v14_1 _ h0 gb0
   unfold db at h0
   try dsimp only at h0
   exact run
 ·exact run⟩
def jC (a:Int)(c:List GTie)(d b:Int):St:=⟨[(1,.lit (.int .i64 a)),(8,.sl (ab GTie.enc c)),(9,.lit (.int .i64 d)),(10,.lit (.int .i64 b))],[],2⟩
attribute [go_sem] jC
attribute [go_sem] Tryz.ntmps222 Tryz.results222
instance k222 {s:GShow} {node:Int}:Ctr (fT s node) (fun (res:Int)=>al Tryz.prog 222 [.agg (GShow.encS s),.lit (.int .i64 node)] [] (.lit (.int .i64 res)) []):=⟨by
 intro res h0
 refine co (hi:=hi00) Tryz.func222 rfl rfl ?_
 unfold fT at h0
 obtain ⟨q02,l0,h0⟩:=af h0
 simp(config:=cS)only[go_sem, *]
 refine aq (m1:=.mk) (m2:=.mk) [.nf [1,8,9,10] []] (jC node s.ties ((s.ties.length:Nat):Int)) l0 ?_ ?_
 ·simp(config:=cS)only[go_sem, *]
 ·have k0:=h0
  clear h0 l0
  intro _ v10_1 _ h0 gb0
  unfold dc at h0
  try dsimp only at h0
  exact run⟩
@[go_sem] def hi141_5:DT:=.r2 0 43 (.i2 44 (.i2 43 (.r2 45 4 .nil)))
def xU:Hint where
 acts:=fun _=>[]
 draws:=fun
  | 5=>⟨hi141_5,[[],[0],[0,1],[0,1,2],[0,1,2,3],.range 5,.range 6,.range 7,.range 8,.range 9,.range 10,.range 11,.range 12,.range 13,.range 14,.range 13,[0,1,2,3,4,5,6,7,8,9,10,11,12,15],.range 17,.range 18,.range 19,.range 20,.range 21,.range 22,.range 23,.range 24,.range 23,[0,1,2,3,4,5,6,7,8,9,10,11,12,13,14,15,16,17,18,19,20,21,22,25],.range 27,.range 28,.range 29,.range 23,[0,1,2,3,4,5,6,7,8,9,10,11,12,13,14,15,16,17,18,19,20,21,22,30],.range 23,[0,1,2,3,4,5,6,7,8,9,10,11,12,13,14,15,16,17,18,19,20,21,22,32],[0,1,2,3,4,5,6,7,8,9,10,11,12,13,14,15,16,17,18,19,20,21,22,30,31,32,33],[0,1,2,3,4,5,6,7,8,9,10,11,12,13,14,15,16,17,18,19,20,21,22,30,31,32,33,34],[0,1,2,3,4,5,6,7,8,9,10,11,12,13,14,15,16,17,18,19,20,21,22,30,31,32,33,34,35],.range 37,.range 38,.range 39,.range 40,.range 40,[0,1,2,3,4,5,6,7,8,9,10,11,12,13,14,15,16,17,18,19,20,21,22,23,24,25,26,27,28,29,30,31,32,33,34,35,36,37,38,39,41],.range 43,.range 40,.range 45,.range 46,.range 47,.range 48],.range 49⟩
  | _=>⟨.nil,[],[]⟩
theorem HC (i:Nat):xU.acts i=[]:=rfl
theorem HD (i:Nat):xU.views i=none:=rfl
attribute [go_sem] HC HD Tryz.ntmps141 Tryz.results141
@[go_sem] theorem Ma:(xU.draws 5).order=hi141_5:=rfl
instance k141 {s:GShow} {i:Int}:Ctr (gA s i) (fun (res:Bool)=>al Tryz.prog 141 [.agg (GShow.encS s),.lit (.int .i64 i)] [] (.lit (.bool res)) []):=⟨by
 intro res h0
 refine co (hi:=xU) Tryz.func141 rfl rfl ?_
 unfold gA at h0
 exact run⟩
def jZ (a:Int)(b:List GNode)(c:List GTie)(d e:Int):St:=⟨[(1,.ptr 64 1 0 0),(21,.lit (.int .i64 a)),(22,.lit (.int .i64 e))],[(64,1,.var [.sl (ab GNode.encS b),.sl (ab GTie.enc c),.lit (.int .i64 d)])],2⟩
attribute [go_sem] jZ
attribute [go_sem] Tryz.ntmps69 Tryz.results69
instance k69 {s:GShow}:Ctr (gB s) (fun (res:Bool)=>al Tryz.prog 69 [.agg (GShow.encS s)] [] (.lit (.bool res)) []):=⟨by
 intro res h0
 refine co (hi:=hi00) Tryz.func69 rfl rfl ?_
 unfold gB at h0
 obtain ⟨r01,g0,h0⟩:=af h0
 simp(config:=cS)only[go_sem, *]
 have g0:=ctr g0
 refine az g0 ?_
 obtain ⟨_,h0⟩|⟨_,h0⟩:=itB h0
 ·obtain ⟨_,h0⟩|⟨_,h0⟩:=itP h0
  ·exact run
  ·obtain ⟨r02,g0,h0⟩:=af h0
   simp(config:=cS)only[go_sem, *]
   have g0:=ctr g0
   refine az g0 ?_
   obtain ⟨_,h0⟩|⟨_,h0⟩:=itB h0
   ·obtain ⟨q04,l0,h0⟩:=af h0
    simp(config:=cS)only[go_sem, *]
    refine aq (m1:=.mk) (m2:=.mk) [.nf [1,21,22] [64]] (jZ ((s.ties.length:Nat):Int) s.nodes s.ties s.horizon) l0 ?_ ?_
    ·simp(config:=cS)only[go_sem, *]
    ·have k0:=h0
     clear h0 l0
     intro _ v22_1 _ h0 gb0
     unfold dy at h0
     try dsimp only at h0
     exact run
   ·exact run
 ·exact run⟩
def jD (c:List GTie)(d:Int):(Int × (List Int))→St
 | (b,a)=>⟨[(3,.ref 384 1 0 a.length),(8,.sl (ab GTie.enc c)),(9,.lit (.int .i64 d)),(10,.lit (.int .i64 b))],[(384,1,.row true (ab eI a))],2⟩
attribute [go_sem] jD
attribute [go_sem] Tryz.ntmps136 Tryz.results136
instance k136 {s:GShow}:Ctr (eH s) (fun (res:List Int)=>al Tryz.prog 136 [.agg (GShow.encS s)] [] (.ref 20000 1 0 res.length) [(20000,1,.row true (ab eI res))]):=⟨by
 intro res h0
 refine cE (ra:=[.home 2]) (md:=mdT) hT (hi:=hi00) Tryz.func136 rfl rfl (by decide +kernel) (by simp) ?_
 unfold eH at h0
 obtain ⟨q02,l0,h0⟩:=af h0
 simp(config:=cS)only[go_sem, *]
 refine aq (m1:=.mk) (m2:=.mk) [.nf [3,8,9,10] [384]] (jD s.ties ((s.ties.length:Nat):Int)) l0 ?_ ?_
 ·simp(config:=cS)only[go_sem, *]
 ·have k0:=h0
  clear h0 l0
  intro _ s0 _ h0 gb0
  obtain ⟨v10_1,out_1⟩:=s0
  unfold ec at h0
  try dsimp only at h0
  exact run⟩
def lp (b:Int)(c:List GNode)(d:List GTie)(e:Int)(a:List Int):(Int × Int)→St
 | (n,f)=>⟨[(1,.ptr 64 1 0 0),(3,.lit (.int .i64 n)),(11,.ref 704 1 0 a.length),(12,.lit (.int .i64 b)),(13,.lit (.int .i64 f))],[(64,1,.var [.sl (ab GNode.encS c),.sl (ab GTie.enc d),.lit (.int .i64 e)]),(704,1,.row true (ab eI a))],2⟩
attribute [go_sem] lp
def lq (a:List GNode)(b:List GTie)(c:Int):(Int × Int)→St
 | (n,p)=>⟨[(1,.ptr 64 1 0 0),(3,.lit (.int .i64 n)),(6,.lit (.int .i64 p))],[(64,1,.var [.sl (ab GNode.encS a),.sl (ab GTie.enc b),.lit (.int .i64 c)])],2⟩
attribute [go_sem] lq
@[go_sem] def hi66_7:DT:=.r2 0 17 .nil
def hi66:Hint where
 acts:=fun _=>[]
 draws:=fun
  | 7=>⟨hi66_7,[[],[],[1],[],[1,2,3],[1,2,3,4],[1,2,3,4,5],[],[7],[],[7,8,9],[7,8,9,10],[7,8,9,10,11],[1,2,3,4,5,6,7,8,9,10,11,12],[1,2,3,4,5,6,7,8,9,10,11,12,13],.range 15,.range 16],.range 17⟩
  | _=>⟨.nil,[],[]⟩
theorem JY (i:Nat):hi66.acts i=[]:=rfl
theorem JZ (i:Nat):hi66.views i=none:=rfl
attribute [go_sem] JY JZ Tryz.ntmps66 Tryz.results66
@[go_sem] theorem Nk:(hi66.draws 7).order=hi66_7:=rfl
def nq (c:Int)(d:List GNode)(e:List GTie)(f:Int)(b:List Int):(Int × Int × (List Int))→St
 | (n,g,a)=>⟨[(1,.lit (.int .i64 n)),(2,.ptr 128 1 0 0),(4,.ptr 256 1 0 0),(6,.ptr 384 1 0 0),(21,.ref 1344 1 0 b.length),(22,.lit (.int .i64 c)),(23,.lit (.int .i64 g))],[(128,1,.var [.sl (ab GNode.encS d),.sl (ab GTie.enc e),.lit (.int .i64 f)]),(256,1,.var [.lit (.slice none 0 0),.lit (.slice none 0 0)]),(384,1,.var [.ref 100024576 1 0 a.length,.lit (.slice none 0 0)]),(100024576,1,.row true (ab eI a)),(1344,1,.row true (ab eI b))],2⟩
attribute [go_sem] nq
def nr (c:List GNode)(d:List GTie)(e:Int)(a:List Int):(Int × Int × (List Int))→St
 | (n,p,b)=>⟨[(1,.lit (.int .i64 n)),(2,.ptr 128 1 0 0),(4,.ptr 256 1 0 0),(6,.ptr 384 1 0 0),(10,.lit (.int .i64 p))],[(128,1,.var [.sl (ab GNode.encS c),.sl (ab GTie.enc d),.lit (.int .i64 e)]),(256,1,.var [.lit (.slice none 0 0),.lit (.slice none 0 0)]),(384,1,.var [.ref 100024576 1 0 a.length,.ref 100024577 1 0 b.length]),(100024576,1,.row true (ab eI a)),(100024577,1,.row true (ab eI b))],2⟩
attribute [go_sem] nr
@[go_sem] def hi67_8:DT:=.i1 0 (.i1 1 (.r2 2 10 (.i0 12 [0,1] (.r2 13 3 .nil))))
@[go_sem] def hi67_7:DT:=.r2 0 15 .nil
def hi67:Hint where
 acts:=fun _=>[]
 draws:=fun
  | 7=>⟨hi67_7,[[],[0],[],[0,1,2],[0,1,2,3],.range 5,[],[6],[],[6,7,8],[6,7,8,9],[6,7,8,9,10],.range 12,.range 13,.range 14],.range 15⟩
  | 8=>⟨hi67_8,[[],[0],[],[2],[],[2,3,4],[2,3,4,5],[2,3,4,5,6],[],[],[8,9],[2,3,4,5,6,7,8,9,10],[2,3,4,5,6,7,8,9,10,11],.range 13,.range 14,.range 15],.range 16⟩
  | _=>⟨.nil,[],[]⟩
theorem Ka (i:Nat):hi67.acts i=[]:=rfl
theorem Kb (i:Nat):hi67.views i=none:=rfl
attribute [go_sem] Ka Kb Tryz.ntmps67 Tryz.results67
@[go_sem] theorem Nl:(hi67.draws 7).order=hi67_7:=rfl
@[go_sem] theorem Nm:(hi67.draws 8).order=hi67_8:=rfl
def og (d:List GNode)(e c:Int)(b:List GTie):(Int × (List GNode))→St
 | (f,a)=>⟨[(2,.ptr 128 1 0 0),(3,.ptr 192 1 0 0),(14,.sl (ab GNode.encS d)),(15,.lit (.int .i64 e)),(16,.lit (.int .i64 f))],[(128,1,.var [.lit (.slice none 0 0),.lit (.slice none 0 0),.lit (.int .i64 0)]),(192,1,.var [.ref 100012288 1 0 a.length,.ref 384 1 0 b.length,.lit (.int .i64 c)]),(100012288,1,.row true (ab GNode.encO a)),(384,1,.row true (ab GTie.enc b))],2⟩
attribute [go_sem] og
@[go_sem] def hi212_5:DT:=.i1 0 (.i1 1 (.i1 2 (.i1 3 (.i1 5 (.i1 6 (.i1 8 (.i1 9 (.i0 4 [0,1,2,3,5,6,8,9] (.i0 7 [0,1,2,3,8,9] (.i2 10 (.i0 11 [0,1] (.r2 12 3 .nil))))))))))))
@[go_sem] def hi212_1:DT:=.i1 1 (.i1 2 (.i1 4 (.i1 5 (.fork (.i0 0 [1,2,4,5] (.fork (.i0 3 [4,5] (.i2 6 (.i0 7 [1,2,4,5] (.i2 8 .nil)))) (.i0 7 [1,2,4,5] (.i0 3 [4,5] (.i2 6 (.i2 8 .nil)))))) (.i0 7 [1,2,4,5] (.i0 0 [1,2,4,5] (.i0 3 [4,5] (.i2 6 (.i2 8 .nil)))))))))
def xV:Hint where
 acts:=fun _=>[]
 draws:=fun
  | 1=>⟨hi212_1,[[],[],[1],[0,1,2],[],[4],.range 6,[],.range 8],.range 9⟩
  | 5=>⟨hi212_5,[[],[0],[],[2],[],[],[5],[4,5,6],[],[8],[2,3,4,5,6,7,8,9],[2,3,4,5,6,7,8,9,10],.range 12,.range 13,.range 14],.range 15⟩
  | _=>⟨.nil,[],[]⟩
theorem HE (i:Nat):xV.acts i=[]:=rfl
theorem HF (i:Nat):xV.views i=none:=rfl
attribute [go_sem] HE HF Tryz.ntmps212 Tryz.results212
@[go_sem] theorem Mb:(xV.draws 1).order=hi212_1:=rfl
@[go_sem] theorem Me:(xV.draws 5).order=hi212_5:=rfl
def ma (c:Int)(b:List Int):(Int × (List Int))→St
 | (d,a)=>⟨[(2,.ptr 128 1 0 0),(3,.ptr 192 1 0 0),(14,.lit (.int .i64 c)),(15,.lit (.int .i64 d))],[(128,1,.var [.lit (.int .i64 0),.lit (.slice none 0 0),.lit (.slice none 0 0)]),(192,1,.var [.lit (.int .i64 0),.ref 100012289 1 0 a.length,.ref 640 1 0 b.length]),(100012289,1,.row true (ab eI a)),(640,1,.row true (ab eI b))],2⟩
attribute [go_sem] ma
attribute [go_sem] Tryz.ntmps94 Tryz.results94
@[go_sem] def hi137_3:DT:=.i2 0 (.i1 2 (.i2 4 (.i0 1 [2] (.i2 3 (.r2 5 3 .nil)))))
def Bp:Hint where
 acts:=fun _=>[]
 draws:=fun
  | 3=>⟨hi137_3,[[],[0],[],[0,1,2],[],.range 5,.range 6,.range 7],.range 8⟩
  | _=>⟨.nil,[],[]⟩
theorem HG (i:Nat):Bp.acts i=[]:=rfl
theorem HH (i:Nat):Bp.views i=none:=rfl
attribute [go_sem] HG HH Tryz.ntmps137 Tryz.results137
@[go_sem] theorem Mf:(Bp.draws 3).order=hi137_3:=rfl
def iW (d:Int)(e:List GNode)(f:List GTie)(g:Int)(b c a:List Int)(h:Int):St:=⟨[(2,.ptr 128 1 0 0),(3,.ptr 192 1 0 0),(27,.ref 896 1 0 a.length),(28,.lit (.int .i64 d)),(29,.lit (.int .i64 h))],[(128,1,.var [.sl (ab GNode.encS e),.sl (ab GTie.enc f),.lit (.int .i64 g)]),(192,1,.var [.sl (ab eI b),.sl (ab eI c)]),(896,1,.row true (ab eI a))],2⟩
attribute [go_sem] iW
def iX (a:List Int)(b:Int)(c:List GNode)(d:List GTie)(e f:Int):St:=⟨[(2,.ptr 128 1 0 0),(55,.sl (ab eI a)),(56,.lit (.int .i64 b)),(57,.lit (.int .i64 f))],[(128,1,.var [.sl (ab GNode.encS c),.sl (ab GTie.enc d),.lit (.int .i64 e)])],2⟩
attribute [go_sem] iX
@[go_sem] def hi118_9:DT:=.r2 0 19 .nil
def xW:Hint where
 acts:=fun _=>[]
 draws:=fun
  | 9=>⟨hi118_9,[[],[0],[],[0,1,2],[0,1,2,3],[],[5],[],[5,6,7],[5,6,7,8],[5,6,7,8,9],[],[11],[],[11,12,13],[11,12,13,14],[11,12,13,14,15],.range 17,.range 18],.range 19⟩
  | _=>⟨.nil,[],[]⟩
theorem HI (i:Nat):xW.acts i=[]:=rfl
theorem HJ (i:Nat):xW.views i=none:=rfl
attribute [go_sem] HI HJ Tryz.ntmps118 Tryz.results118
@[go_sem] theorem Mg:(xW.draws 9).order=hi118_9:=rfl
instance k118 {s:GShow} {v1:GChoice}:Ctr (ck s v1) (fun (res:Bool)=>al Tryz.prog 118 [.agg (GShow.encS s),.agg [.sl (ab eI v1.lengths),.sl (ab eI v1.values)]] [] (.lit (.bool res)) []):=⟨by
 intro res h0
 refine co (hi:=xW) Tryz.func118 rfl rfl ?_
 unfold ck at h0
 obtain ⟨r01,g0,h0⟩:=af h0
 simp(config:=cS)only[go_sem, *]
 have g0:=ctr g0
 refine az g0 ?_
 obtain ⟨_,h0⟩|⟨_,h0⟩:=itB h0
 ·obtain ⟨r02,g0,h0⟩:=af h0
  simp(config:=cS)only[go_sem, *]
  have g0:=ctr g0
  refine az g0 ?_
  obtain ⟨_,h0⟩|⟨_,h0⟩:=itP h0
  ·obtain ⟨_,h0⟩|⟨_,h0⟩:=itP h0
   ·obtain ⟨q11,l0,h0⟩:=af h0
    simp(config:=cS)only[go_sem, *]
    refine aq (m1:=.mk) (m2:=.mk) [.nf [2,3,27,28,29] [128,192,896]] (iW ((r02.length:Nat):Int) s.nodes s.ties s.horizon v1.lengths v1.values r02) l0 ?_ ?_
    ·simp(config:=cS)only[go_sem, *]
    ·have k0:=h0
     clear h0 l0
     intro _ v29_1 _ h0 gb0
     unfold cI at h0
     try dsimp only at h0
     obtain ⟨_,h0⟩|⟨_,h0⟩:=itP h0
     ·exact run
     ·cases h0
      obtain rfl:=(cn gb0).symm
      clear gb0
      have h0:=k0
      clear k0
      try dsimp only at h0
      obtain ⟨q10,l0,h0⟩:=af h0
      simp(config:=cS)only[go_sem, *]
      refine aq (m1:=.mk) (m2:=.mk) [.nf [2,55,56,57] [128]] (iX v1.values ((v1.values.length:Nat):Int) s.nodes s.ties s.horizon) l0 ?_ ?_
      ·simp(config:=cS)only[go_sem, *]
      ·have k0:=h0
       clear h0 l0
       intro _ v57_2 _ h0 gb0
       unfold cJ at h0
       try dsimp only at h0
       exact run
   ·exact run
  ·exact run
 ·exact run⟩
@[go_sem] def hi258_1:DT:=.i1 0 (.i1 1 (.i1 3 (.i1 4 (.i1 7 (.i1 8 (.fork (.i0 2 [0,1,3,4,7,8] (.fork (.i0 5 [0,1,7,8] (.i0 6 [0,1,3,4,7,8] (.i0 9 [0,1] (.i2 10 (.i2 11 .nil))))) (.i0 6 [0,1,3,4,7,8] (.i0 5 [0,1,7,8] (.i0 9 [0,1] (.i2 10 (.i2 11 .nil))))))) (.i0 6 [0,1,3,4,7,8] (.i0 2 [0,1,3,4,7,8] (.i0 5 [0,1,7,8] (.i0 9 [0,1] (.i2 10 (.i2 11 .nil))))))))))))
def Bq:Hint where
 acts:=fun _=>[]
 draws:=fun
  | 1=>⟨hi258_1,[[],[0],[],[],[3],[2,3,4],[],[],[7],[2,3,4,5,6,7,8],.range 10,.range 11],.range 12⟩
  | _=>⟨.nil,[],[]⟩
theorem HK (i:Nat):Bq.acts i=[]:=rfl
theorem HL (i:Nat):Bq.views i=none:=rfl
attribute [go_sem] HK HL Tryz.ntmps258 Tryz.results258
@[go_sem] theorem Mh:(Bq.draws 1).order=hi258_1:=rfl
@[go_sem] def hi270_1:DT:=.i1 0 (.i1 1 (.i1 3 (.i1 4 (.i1 7 (.i1 8 (.i1 11 (.i1 12 (.fork (.i0 2 [0,1,3,4,7,8,11,12] (.fork (.i0 5 [0,1,7,8,11,12] (.fork (.i0 6 [0,1,3,4,7,8,11,12] (.fork (.i0 9 [0,1,11,12] (.i0 10 [0,1,3,4,7,8,11,12] (.i0 13 [0,1] (.i2 14 (.i2 15 .nil))))) (.i0 10 [0,1,3,4,7,8,11,12] (.i0 9 [0,1,11,12] (.i0 13 [0,1] (.i2 14 (.i2 15 .nil))))))) (.i0 10 [0,1,3,4,7,8,11,12] (.i0 6 [0,1,3,4,7,8,11,12] (.i0 9 [0,1,11,12] (.i0 13 [0,1] (.i2 14 (.i2 15 .nil)))))))) (.fork (.i0 6 [0,1,3,4,7,8,11,12] (.fork (.i0 5 [0,1,7,8,11,12] (.fork (.i0 9 [0,1,11,12] (.i0 10 [0,1,3,4,7,8,11,12] (.i0 13 [0,1] (.i2 14 (.i2 15 .nil))))) (.i0 10 [0,1,3,4,7,8,11,12] (.i0 9 [0,1,11,12] (.i0 13 [0,1] (.i2 14 (.i2 15 .nil))))))) (.i0 10 [0,1,3,4,7,8,11,12] (.i0 5 [0,1,7,8,11,12] (.i0 9 [0,1,11,12] (.i0 13 [0,1] (.i2 14 (.i2 15 .nil)))))))) (.i0 10 [0,1,3,4,7,8,11,12] (.fork (.i0 5 [0,1,7,8,11,12] (.i0 6 [0,1,3,4,7,8,11,12] (.i0 9 [0,1,11,12] (.i0 13 [0,1] (.i2 14 (.i2 15 .nil)))))) (.i0 6 [0,1,3,4,7,8,11,12] (.i0 5 [0,1,7,8,11,12] (.i0 9 [0,1,11,12] (.i0 13 [0,1] (.i2 14 (.i2 15 .nil))))))))))) (.fork (.i0 6 [0,1,3,4,7,8,11,12] (.fork (.i0 2 [0,1,3,4,7,8,11,12] (.fork (.i0 5 [0,1,7,8,11,12] (.fork (.i0 9 [0,1,11,12] (.i0 10 [0,1,3,4,7,8,11,12] (.i0 13 [0,1] (.i2 14 (.i2 15 .nil))))) (.i0 10 [0,1,3,4,7,8,11,12] (.i0 9 [0,1,11,12] (.i0 13 [0,1] (.i2 14 (.i2 15 .nil))))))) (.i0 10 [0,1,3,4,7,8,11,12] (.i0 5 [0,1,7,8,11,12] (.i0 9 [0,1,11,12] (.i0 13 [0,1] (.i2 14 (.i2 15 .nil)))))))) (.i0 10 [0,1,3,4,7,8,11,12] (.i0 2 [0,1,3,4,7,8,11,12] (.i0 5 [0,1,7,8,11,12] (.i0 9 [0,1,11,12] (.i0 13 [0,1] (.i2 14 (.i2 15 .nil))))))))) (.i0 10 [0,1,3,4,7,8,11,12] (.fork (.i0 2 [0,1,3,4,7,8,11,12] (.fork (.i0 5 [0,1,7,8,11,12] (.i0 6 [0,1,3,4,7,8,11,12] (.i0 9 [0,1,11,12] (.i0 13 [0,1] (.i2 14 (.i2 15 .nil)))))) (.i0 6 [0,1,3,4,7,8,11,12] (.i0 5 [0,1,7,8,11,12] (.i0 9 [0,1,11,12] (.i0 13 [0,1] (.i2 14 (.i2 15 .nil)))))))) (.i0 6 [0,1,3,4,7,8,11,12] (.i0 2 [0,1,3,4,7,8,11,12] (.i0 5 [0,1,7,8,11,12] (.i0 9 [0,1,11,12] (.i0 13 [0,1] (.i2 14 (.i2 15 .nil))))))))))))))))))
def Br:Hint where
 acts:=fun _=>[]
 draws:=fun
  | 1=>⟨hi270_1,[[],[0],[],[],[3],[2,3,4],[],[],[7],[2,3,4,5,6,7,8],[],[],[11],[2,3,4,5,6,7,8,9,10,11,12],.range 14,.range 15],.range 16⟩
  | _=>⟨.nil,[],[]⟩
theorem HM (i:Nat):Br.acts i=[]:=rfl
theorem HN (i:Nat):Br.views i=none:=rfl
attribute [go_sem] HM HN Tryz.ntmps270 Tryz.results270
@[go_sem] theorem Mi:(Br.draws 1).order=hi270_1:=rfl
def oh (i:List ap)(j f g:Int)(h:Bool)(b:List GNode)(c:List GTie)(d e:List Int):(Int × (List ap))→St
 | (k,a)=>⟨[(2,.ptr 128 1 0 0),(3,.ptr 192 1 0 0),(16,.sl (ab ap.encS i)),(17,.lit (.int .i64 j)),(18,.lit (.int .i64 k))],[(128,1,.var [.lit (.slice none 0 0),.lit (.slice none 0 0),.lit (.int .i64 0),.lit (.int .i64 0),.lit (.slice none 0 0),.lit (.slice none 0 0),.lit (.bool false),.lit (.slice none 0 0)]),(192,1,.var [.ref 512 1 0 b.length,.ref 513 1 0 c.length,.lit (.int .i64 f),.lit (.int .i64 g),.ref 704 1 0 d.length,.ref 705 1 0 e.length,.lit (.bool h),.ref 100012295 1 0 a.length]),(512,1,.row true (ab GNode.encO b)),(513,1,.row true (ab GTie.enc c)),(704,1,.row true (ab eI d)),(705,1,.row true (ab eI e)),(100012295,1,.row true (ab ap.encO a))],2⟩
attribute [go_sem] oh
@[go_sem] def hi213_5:DT:=.i1 0 (.i1 1 (.i2 2 (.i0 3 [0,1] (.i0 4 [0,1] (.r2 5 3 .nil)))))
@[go_sem] def hi213_1:DT:=.i1 0 (.i1 1 (.i1 3 (.i1 4 (.i1 6 (.i1 7 (.fork (.i0 2 [3,4,6,7] (.fork (.i0 5 [6,7] (.i2 8 (.i0 9 [0,1,3,4,6,7] (.i2 10 .nil)))) (.i0 9 [0,1,3,4,6,7] (.i0 5 [6,7] (.i2 8 (.i2 10 .nil)))))) (.i0 9 [0,1,3,4,6,7] (.i0 2 [3,4,6,7] (.i0 5 [6,7] (.i2 8 (.i2 10 .nil)))))))))))
def xX:Hint where
 acts:=fun _=>[]
 draws:=fun
  | 1=>⟨hi213_1,[[],[0],[0,1],[],[3],.range 5,[],[6],.range 8,[],.range 10],.range 11⟩
  | 5=>⟨hi213_5,[[],[0],[],[2],[2,3],.range 5,.range 6,.range 7],.range 8⟩
  | _=>⟨.nil,[],[]⟩
theorem HP (i:Nat):xX.acts i=[]:=rfl
theorem HQ (i:Nat):xX.views i=none:=rfl
attribute [go_sem] HP HQ Tryz.ntmps213 Tryz.results213
@[go_sem] theorem Mj:(xX.draws 1).order=hi213_1:=rfl
@[go_sem] theorem Ml:(xX.draws 5).order=hi213_5:=rfl
def nu (v:List Int)(a b:Int):St:=⟨[(0,.sl (ab eI v)),(5,.sl (ab eI v)),(6,.lit (.int .i64 a)),(7,.lit (.int .i64 b))],[],2⟩
attribute [go_sem] nu
attribute [go_sem] Tryz.ntmps273 Tryz.results273
def ol (a:List Int)(d:Int)(e:List GNode)(f:List GTie)(g b:Int)(c:List Int)(h:Int):St:=⟨[(2,.ptr 128 1 0 0),(3,.ptr 192 1 0 0),(44,.sl (ab eI a)),(45,.lit (.int .i64 d)),(46,.lit (.int .i64 h))],[(128,1,.var [.sl (ab GNode.encS e),.sl (ab GTie.enc f),.lit (.int .i64 g)]),(192,1,.var [.lit (.int .i64 b),.sl (ab eI a),.sl (ab eI c)])],2⟩
attribute [go_sem] ol
def om (d:List GNode)(e:List GTie)(f a:Int)(b c:List Int)(p:Int):St:=⟨[(2,.ptr 128 1 0 0),(3,.ptr 192 1 0 0),(7,.lit (.int .i64 p))],[(128,1,.var [.sl (ab GNode.encS d),.sl (ab GTie.enc e),.lit (.int .i64 f)]),(192,1,.var [.lit (.int .i64 a),.sl (ab eI b),.sl (ab eI c)])],2⟩
attribute [go_sem] om
@[go_sem] def hi216_13:DT:=.r2 0 18 .nil
def Bs:Hint where
 acts:=fun _=>[]
 draws:=fun
  | 13=>⟨hi216_13,[[],[0],[],[2],[0,1,2,3],.range 5,.range 6,[],[7],[7,8],[7,8,9],[7,8,9,10],[7,8,9],[7,8,9,10,11,12],[7,8,9,10,11,12,13],[7,8,9,10,11,12,13,14],[7,8,9,10,11,12,13,14,15],.range 17],.range 18⟩
  | _=>⟨.nil,[],[]⟩
theorem HR (i:Nat):Bs.acts i=[]:=rfl
theorem HS (i:Nat):Bs.views i=none:=rfl
attribute [go_sem] HR HS Tryz.ntmps216 Tryz.results216
@[go_sem] theorem Li:(Bs.draws 13).order=hi216_13:=rfl
def mH (e:List GTie)(f b:Int)(c d:List Int):(Int × (List Int))→St
 | (g,a)=>⟨[(3,.ptr 192 1 0 0),(5,.ref 512 1 0 a.length),(10,.sl (ab GTie.enc e)),(11,.lit (.int .i64 f)),(12,.lit (.int .i64 g))],[(192,1,.var [.lit (.int .i64 b),.sl (ab eI c),.sl (ab eI d)]),(512,1,.row true (ab eI a))],2⟩
attribute [go_sem] mH
attribute [go_sem] Tryz.ntmps255 Tryz.results255
def mb (g:Int)(h:List GNode)(i:List GTie)(j d:Int)(e f b:List Int):(Int × (List Int) × (List Int))→St
 | (k,a,c)=>⟨[(2,.ptr 128 1 0 0),(3,.ptr 192 1 0 0),(6,.ref 704 1 0 a.length),(7,.ref 768 1 0 c.length),(15,.ref 960 1 0 b.length),(16,.lit (.int .i64 g)),(17,.lit (.int .i64 k))],[(128,1,.var [.sl (ab GNode.encS h),.sl (ab GTie.enc i),.lit (.int .i64 j)]),(192,1,.var [.lit (.int .i64 d),.sl (ab eI e),.sl (ab eI f)]),(704,1,.row true (ab eI a)),(768,1,.row true (ab eI c)),(960,1,.row true (ab eI b))],2⟩
attribute [go_sem] mb
@[go_sem] def hi183_6:DT:=.r2 0 14 .nil
def Bt:Hint where
 acts:=fun _=>[]
 draws:=fun
  | 6=>⟨hi183_6,[[],[0],[],[2],[],[4],[],[4,5,6],[4,5,6,7],[4,5,6,7,8],[2,3,4,5,6,7,8,9],[2,3,4,5,6,7,8,9,10],.range 12,.range 13],.range 14⟩
  | _=>⟨.nil,[],[]⟩
theorem HT (i:Nat):Bt.acts i=[]:=rfl
theorem HU (i:Nat):Bt.views i=none:=rfl
attribute [go_sem] HT HU Tryz.ntmps183 Tryz.results183
@[go_sem] theorem Mm:(Bt.draws 6).order=hi183_6:=rfl
def oo (n:Int)(d:List Int)(b:Int):(Int × (List Int))→St
 | (c,a)=>⟨[(1,.lit (.int .i64 n)),(5,.ref 512 1 0 a.length),(9,.sl (ab eI d)),(10,.lit (.int .i64 b)),(11,.lit (.int .i64 c))],[(512,1,.row true (ab eI a))],2⟩
attribute [go_sem] oo
attribute [go_sem] Tryz.ntmps187 Tryz.results187
def nw (a b:List Int):(Int × Int × (List Int))→St
 | (i,k,c)=>⟨[(0,.sl (ab eI a)),(1,.sl (ab eI b)),(5,.ref 512 1 0 c.length),(6,.lit (.int .i64 i)),(7,.lit (.int .i64 k))],[(512,1,.row true (ab eI c))],2⟩
attribute [go_sem] nw
@[go_sem] def hi186_5:DT:=.r2 0 21 .nil
def Bu:Hint where
 acts:=fun _=>[]
 draws:=fun
  | 5=>⟨hi186_5,[[],[],[1],[0,1,2],[0,1,2,3],.range 5,.range 5,[0,1,2,3,4,6],.range 8,.range 9,.range 10,.range 10,.range 12,.range 13,.range 10,.range 10,[0,1,2,3,4,5,6,7,8,9,14,15],[0,1,2,3,4,5,6,7,8,9,14,15,16],.range 18,.range 19,.range 20],.range 21⟩
  | _=>⟨.nil,[],[]⟩
theorem HV (i:Nat):Bu.acts i=[]:=rfl
theorem HW (i:Nat):Bu.views i=none:=rfl
attribute [go_sem] HV HW Tryz.ntmps186 Tryz.results186
@[go_sem] theorem Mn:(Bu.draws 5).order=hi186_5:=rfl
def mI (a b:List Int):(Int × (List (List Int)))→St
 | (n,c)=>⟨[(5,.ref 1472 1 0 a.length),(6,.ref 1473 1 0 b.length),(7,.ref 1664 1 0 c.length),(8,.lit (.int .i64 n))],[(1472,1,.row true (ab eI a)),(1473,1,.row true (ab eI b)),(1664,1,.row true (ab (eLO eI) c))],2⟩
attribute [go_sem] mI
attribute [go_sem] Tryz.ntmps149 Tryz.results149
def pX (a:List Int)(b:List (List Int))(c d:Int):St:=⟨[(1,.sl (ab eI a)),(7,.sl (ab (eLS eI) b)),(8,.lit (.int .i64 c)),(9,.lit (.int .i64 d))],[],2⟩
attribute [go_sem] pX
attribute [go_sem] Tryz.ntmps299 Tryz.results299
def oZ (g:List Int)(h:Int)(i:List GNode)(j:List GTie)(k d:Int)(e f:List Int)(c:Int)(a:List Int):(Int × (List Int))→St
 | (l,b)=>⟨[(3,.ptr 192 1 0 0),(4,.ptr 256 1 0 0),(6,.ptr 384 1 0 0),(7,.ptr 448 1 0 0),(12,.sl (ab eI g)),(13,.lit (.int .i64 h)),(14,.lit (.int .i64 l))],[(192,1,.var [.sl (ab GNode.encS i),.sl (ab GTie.enc j),.lit (.int .i64 k)]),(256,1,.var [.lit (.int .i64 d),.sl (ab eI e),.sl (ab eI f)]),(384,1,.var [.lit (.int .i64 0),.lit (.slice none 0 0),.lit (.slice none 0 0)]),(448,1,.var [.lit (.int .i64 c),.ref 704 1 0 b.length,.ref 705 1 0 a.length]),(704,1,.row true (ab eI b)),(705,1,.row true (ab eI a))],2⟩
attribute [go_sem] oZ
@[go_sem] def hi185_5:DT:=.r2 0 12 .nil
def Bv:Hint where
 acts:=fun _=>[]
 draws:=fun
  | 5=>⟨hi185_5,[[],[0],[],[2],[],[2,3,4],[2,3,4,5],[2,3,4,5,6],[],[8],.range 10,.range 11],.range 12⟩
  | _=>⟨.nil,[],[]⟩
theorem HX (i:Nat):Bv.acts i=[]:=rfl
theorem HY (i:Nat):Bv.views i=none:=rfl
attribute [go_sem] HX HY Tryz.ntmps185 Tryz.results185
@[go_sem] theorem Mo:(Bv.draws 5).order=hi185_5:=rfl
attribute [go_sem] Tryz.ntmps278 Tryz.results278
attribute [go_sem] Tryz.ntmps300 Tryz.results300
def iY (v d:List Int)(a:Int):(Int × Int)→St
 | (b,c)=>⟨[(1,.sl (ab eI v)),(5,.lit (.int .i64 b)),(9,.sl (ab eI d)),(10,.lit (.int .i64 a)),(11,.lit (.int .i64 c))],[],2⟩
attribute [go_sem] iY
attribute [go_sem] Tryz.ntmps119 Tryz.results119
instance k119 {l:List Int} {v:List Int}:Ctr (dQ l v) (fun (res:Int)=>al Tryz.prog 119 [.sl (ab eI l),.sl (ab eI v)] [] (.lit (.int .i64 res)) []):=⟨by
 intro res h0
 refine co (hi:=hi00) Tryz.func119 rfl rfl ?_
 unfold dQ at h0
 obtain ⟨q04,l0,h0⟩:=af h0
 simp(config:=cS)only[go_sem, *]
 refine aq (m1:=.mk) (m2:=.mk) [.nf [1,5,9,10,11] []] (iY v l ((l.length:Nat):Int)) l0 ?_ ?_
 ·simp(config:=cS)only[go_sem, *]
 ·have k0:=h0
  clear h0 l0
  intro _ s0 _ h0 gb0
  obtain ⟨out_1,v11_1⟩:=s0
  unfold dJ at h0
  try dsimp only at h0
  exact run⟩
def mc (a:List GNode)(f:Int)(g:List GTie)(h c:Int)(d e:List Int):(Int × (List Int))→St
 | (i,b)=>⟨[(2,.ptr 128 1 0 0),(3,.ptr 192 1 0 0),(5,.ref 512 1 0 b.length),(10,.sl (ab GNode.encS a)),(11,.lit (.int .i64 f)),(12,.lit (.int .i64 i))],[(128,1,.var [.sl (ab GNode.encS a),.sl (ab GTie.enc g),.lit (.int .i64 h)]),(192,1,.var [.lit (.int .i64 c),.sl (ab eI d),.sl (ab eI e)]),(512,1,.row true (ab eI b))],2⟩
attribute [go_sem] mc
attribute [go_sem] Tryz.ntmps256 Tryz.results256
def lN (l:List Int):(Int × (List (List Int)))→St
 | (n,a)=>⟨[(5,.ref 896 1 0 l.length),(6,.ref 960 1 0 a.length),(7,.lit (.int .i64 n))],[(896,1,.row true (ab eI l)),(960,1,.row true (ab (eLO eI) a))],2⟩
attribute [go_sem] lN
attribute [go_sem] Tryz.ntmps279 Tryz.results279
def mJ (a:List Int)(h:Int)(i:List GNode)(j:List GTie)(k e:Int)(f g:List Int)(d:Int)(b:List Int):(Int × (List Int))→St
 | (l,c)=>⟨[(2,.sl (ab eI a)),(3,.ptr 192 1 0 0),(4,.ptr 256 1 0 0),(6,.ptr 384 1 0 0),(8,.ptr 512 1 0 0),(15,.sl (ab eI a)),(16,.lit (.int .i64 h)),(17,.lit (.int .i64 l))],[(192,1,.var [.sl (ab GNode.encS i),.sl (ab GTie.enc j),.lit (.int .i64 k)]),(256,1,.var [.lit (.int .i64 e),.sl (ab eI f),.sl (ab eI g)]),(384,1,.var [.lit (.int .i64 0),.lit (.slice none 0 0),.lit (.slice none 0 0)]),(512,1,.var [.lit (.int .i64 d),.ref 896 1 0 c.length,.ref 897 1 0 b.length]),(896,1,.row true (ab eI c)),(897,1,.row true (ab eI b))],2⟩
attribute [go_sem] mJ
def mK (d:List Int)(f:List GNode)(g:List GTie)(h e:Int)(b c:List Int):(Int × (List Int))→St
 | (p,a)=>⟨[(2,.sl (ab eI d)),(3,.ptr 192 1 0 0),(6,.ptr 384 1 0 0),(8,.ptr 512 1 0 0),(11,.ref 1792 1 0 a.length),(12,.lit (.int .i64 p))],[(192,1,.var [.sl (ab GNode.encS f),.sl (ab GTie.enc g),.lit (.int .i64 h)]),(384,1,.var [.lit (.int .i64 0),.lit (.slice none 0 0),.lit (.slice none 0 0)]),(512,1,.var [.lit (.int .i64 e),.ref 896 1 0 b.length,.ref 897 1 0 c.length]),(896,1,.row true (ab eI b)),(897,1,.row true (ab eI c)),(1792,1,.row true (ab eI a))],2⟩
attribute [go_sem] mK
attribute [go_sem] Tryz.ntmps280 Tryz.results280
attribute [go_sem] Tryz.ntmps325 Tryz.results325
def mL (a e:List Int)(f d:Int)(b:List Int):(Int × (List Int))→St
 | (g,c)=>⟨[(2,.sl (ab eI a)),(6,.ptr 384 1 0 0),(7,.ptr 448 1 0 0),(12,.sl (ab eI e)),(13,.lit (.int .i64 f)),(14,.lit (.int .i64 g))],[(384,1,.var [.lit (.int .i64 0),.lit (.slice none 0 0),.lit (.slice none 0 0)]),(448,1,.var [.lit (.int .i64 d),.ref 704 1 0 b.length,.ref 705 1 0 c.length]),(704,1,.row true (ab eI b)),(705,1,.row true (ab eI c))],2⟩
attribute [go_sem] mL
@[go_sem] def hi281_5:DT:=.r2 0 10 .nil
def Bw:Hint where
 acts:=fun _=>[]
 draws:=fun
  | 5=>⟨hi281_5,[[],[0],[],[2],[],[],[4,5],[4,5,6],.range 8,.range 9],.range 10⟩
  | _=>⟨.nil,[],[]⟩
theorem HZ (i:Nat):Bw.acts i=[]:=rfl
theorem Ia (i:Nat):Bw.views i=none:=rfl
attribute [go_sem] HZ Ia Tryz.ntmps281 Tryz.results281
@[go_sem] theorem Mp:(Bw.draws 5).order=hi281_5:=rfl
def nx (e f:Int)(g h i:List Int)(j:Int)(b c d:List Int):(Int × (List Int))→St
 | (k,a)=>⟨[(5,.ptr 320 1 0 0),(6,.ptr 384 1 0 0),(10,.ptr 640 1 0 0),(11,.ref 2946 1 0 d.length),(13,.ref 3904 1 0 a.length),(62,.ref 2946 1 0 d.length),(63,.lit (.int .i64 e)),(64,.lit (.int .i64 k))],[(320,1,.var [.lit (.int .i64 f),.sl (ab eI g),.sl (ab eI h),.sl (ab eI i)]),(384,1,.var [.lit (.int .i64 0),.lit (.slice none 0 0),.lit (.slice none 0 0)]),(640,1,.var [.lit (.int .i64 j),.ref 2944 1 0 b.length,.ref 2945 1 0 c.length]),(2944,1,.row true (ab eI b)),(2945,1,.row true (ab eI c)),(2946,1,.row true (ab eI d)),(3904,1,.row true (ab eI a))],2⟩
attribute [go_sem] nx
attribute [go_sem] Tryz.ntmps298 Tryz.results298
def mM (d:List ap)(e:Int)(f:List GNode)(g:List GTie)(h:Int):(Int × Int × (List Int) × (List Int))→St
 | (i,c,a,b)=>⟨[(2,.ptr 128 1 0 0),(4,.ptr 256 1 0 0),(6,.ptr 384 1 0 0),(13,.sl (ab ap.encS d)),(14,.lit (.int .i64 e)),(15,.lit (.int .i64 i))],[(128,1,.var [.sl (ab GNode.encS f),.sl (ab GTie.enc g),.lit (.int .i64 h)]),(256,1,.var [.lit (.int .i64 0),.lit (.slice none 0 0),.lit (.slice none 0 0)]),(384,1,.var [.lit (.int .i64 c),.ref 768 1 0 a.length,.ref 769 1 0 b.length]),(768,1,.row true (ab eI a)),(769,1,.row true (ab eI b))],2⟩
attribute [go_sem] mM
@[go_sem] def hi271_10:DT:=.i1 0 (.i2 1 (.i0 2 [0] (.i2 3 (.i2 4 .nil))))
def Bx:Hint where
 acts:=fun _=>[]
 draws:=fun
  | 10=>⟨hi271_10,[[],[],[1],[0,1,2],[0,1,2,3]],.range 5⟩
  | _=>⟨.nil,[],[]⟩
theorem Ib (i:Nat):Bx.acts i=[]:=rfl
theorem Ic (i:Nat):Bx.views i=none:=rfl
attribute [go_sem] Ib Ic Tryz.ntmps271 Tryz.results271
@[go_sem] theorem Lj:(Bx.draws 10).order=hi271_10:=rfl
attribute [go_sem] Tryz.ntmps272 Tryz.results272
attribute [go_sem] Tryz.ntmps214 Tryz.results214
def iB (d e:Int)(b c a:List Int)(f:Int):St:=⟨[(2,.lit (.int .i64 d)),(4,.ptr 256 1 0 0),(10,.ref 640 1 0 a.length),(11,.lit (.int .i64 e)),(12,.lit (.int .i64 f))],[(256,1,.var [.sl (ab eI b),.sl (ab eI c)]),(640,1,.row true (ab eI a))],2⟩
attribute [go_sem] iB
attribute [go_sem] Tryz.ntmps120 Tryz.results120
instance k120 {s:GShow} {v1:GChoice} {tie:Int}:Ctr (eQ s v1 tie) (fun (res:Int)=>al Tryz.prog 120 [.agg (GShow.encS s),.agg [.sl (ab eI v1.lengths),.sl (ab eI v1.values)],.lit (.int .i64 tie)] [] (.lit (.int .i64 res)) []):=⟨by
 intro res h0
 refine co (hi:=hi00) Tryz.func120 rfl rfl ?_
 unfold eQ at h0
 obtain ⟨r01,g0,h0⟩:=af h0
 simp(config:=cS)only[go_sem, *]
 have g0:=ctr g0
 refine az g0 ?_
 obtain ⟨q04,l0,h0⟩:=af h0
 simp(config:=cS)only[go_sem, *]
 refine aq (m1:=.mk) (m2:=.mk) [.nf [2,4,10,11,12] [256,640]] (iB tie ((r01.length:Nat):Int) v1.lengths v1.values r01) l0 ?_ ?_
 ·simp(config:=cS)only[go_sem, *]
 ·have k0:=h0
  clear h0 l0
  intro _ v12_1 _ h0 gb0
  unfold ct at h0
  try dsimp only at h0
  exact run⟩
def mN (h:Int)(i:List GNode)(j:List GTie)(k c:Int)(d e f g a:List Int):(Int × (List Int))→St
 | (l,b)=>⟨[(3,.ptr 192 1 0 0),(4,.ptr 256 1 0 0),(5,.ptr 320 1 0 0),(7,.ref 640 1 0 b.length),(13,.ref 832 1 0 a.length),(14,.lit (.int .i64 h)),(15,.lit (.int .i64 l))],[(192,1,.var [.sl (ab GNode.encS i),.sl (ab GTie.enc j),.lit (.int .i64 k)]),(256,1,.var [.lit (.int .i64 c),.sl (ab eI d),.sl (ab eI e)]),(320,1,.var [.sl (ab eI f),.sl (ab eI g)]),(640,1,.row true (ab eI b)),(832,1,.row true (ab eI a))],2⟩
attribute [go_sem] mN
@[go_sem] def hi215_5:DT:=.i1 0 (.i1 1 (.i1 2 (.i1 3 (.i1 4 (.i1 5 (.i2 6 (.i1 7 (.i1 8 (.i1 9 (.i1 10 (.i1 11 (.r2 12 4 (.i0 16 [0,1,2,3,4,5,7,8,9,10,11] (.i2 17 .nil))))))))))))))
def By:Hint where
 acts:=fun _=>[]
 draws:=fun
  | 5=>⟨hi215_5,[[],[0],[],[2],[],[4],[],[4,5,6],[4,5,6,7],[4,5,6,7,8],[2,3,4,5,6,7,8,9],[2,3,4,5,6,7,8,9,10],.range 12,[],[],[],[13,14,15],.range 17],.range 18⟩
  | _=>⟨.nil,[],[]⟩
theorem Ie (i:Nat):By.acts i=[]:=rfl
theorem If (i:Nat):By.views i=none:=rfl
attribute [go_sem] Ie If Tryz.ntmps215 Tryz.results215
@[go_sem] theorem Mq:(By.draws 5).order=hi215_5:=rfl
@[go_sem] def hi253_10:DT:=.r2 0 21 .nil
@[go_sem] def hi253_8:DT:=.r2 0 21 .nil
def xY:Hint where
 acts:=fun _=>[]
 draws:=fun
  | 8=>⟨hi253_8,[[],[0],[],[2],[0,1,2,3],.range 5,.range 6,[],[7],.range 9,.range 10,.range 11,.range 12,.range 13,.range 12,.range 15,.range 12,[0,1,2,3,4,5,6,7,8,9,10,11,16],.range 18,.range 19,.range 20],.range 21⟩
  | 10=>⟨hi253_10,[[],[0],[],[2],[0,1,2,3],.range 5,.range 6,[],[7],.range 9,.range 10,.range 11,.range 12,.range 12,[0,1,2,3,4,5,6,7,8,9,10,11,13],.range 15,.range 12,[0,1,2,3,4,5,6,7,8,9,10,11,16],.range 18,.range 19,.range 20],.range 21⟩
  | _=>⟨.nil,[],[]⟩
theorem Ig (i:Nat):xY.acts i=[]:=rfl
theorem Ih (i:Nat):xY.views i=none:=rfl
attribute [go_sem] Ig Ih Tryz.ntmps253 Tryz.results253
@[go_sem] theorem Mr:(xY.draws 8).order=hi253_8:=rfl
@[go_sem] theorem Lk:(xY.draws 10).order=hi253_10:=rfl
def mO (a:List GTie)(e:Int)(f:List GNode)(g b:Int)(c d:List Int)(h:Int):St:=⟨[(2,.ptr 128 1 0 0),(3,.ptr 192 1 0 0),(10,.sl (ab GTie.enc a)),(11,.lit (.int .i64 e)),(12,.lit (.int .i64 h))],[(128,1,.var [.sl (ab GNode.encS f),.sl (ab GTie.enc a),.lit (.int .i64 g)]),(192,1,.var [.lit (.int .i64 b),.sl (ab eI c),.sl (ab eI d)])],2⟩
attribute [go_sem] mO
def mP (a:List GNode)(e:Int)(f:List GTie)(g b:Int)(c d:List Int)(h:Int):St:=⟨[(2,.ptr 128 1 0 0),(3,.ptr 192 1 0 0),(22,.sl (ab GNode.encS a)),(23,.lit (.int .i64 e)),(24,.lit (.int .i64 h))],[(128,1,.var [.sl (ab GNode.encS a),.sl (ab GTie.enc f),.lit (.int .i64 g)]),(192,1,.var [.lit (.int .i64 b),.sl (ab eI c),.sl (ab eI d)])],2⟩
attribute [go_sem] mP
attribute [go_sem] Tryz.ntmps180 Tryz.results180
def oq (e:List GNode)(f a:Int)(b c:List Int)(d:Int):St:=⟨[(3,.ptr 192 1 0 0),(8,.sl (ab GNode.encS e)),(9,.lit (.int .i64 f)),(10,.lit (.int .i64 d))],[(192,1,.var [.lit (.int .i64 a),.sl (ab eI b),.sl (ab eI c)])],2⟩
attribute [go_sem] oq
attribute [go_sem] Tryz.ntmps181 Tryz.results181
def ny (a b:List Int)(c:Int)(d:List GNode)(e:List GTie)(f g:Int)(h i:List Int)(j:Bool)(k:List ap)(l:Int):St:=⟨[(1,.sl (ab eI a)),(3,.ptr 192 1 0 0),(6,.ptr 384 1 0 0),(21,.sl (ab eI b)),(22,.lit (.int .i64 c)),(23,.lit (.int .i64 l))],[(192,1,.var [.sl (ab GNode.encS d),.sl (ab GTie.enc e),.lit (.int .i64 f),.lit (.int .i64 g),.sl (ab eI h),.sl (ab eI i),.lit (.bool j),.sl (ab ap.encS k)]),(384,1,.var [.lit (.int .i64 0),.lit (.slice none 0 0),.lit (.slice none 0 0)])],2⟩
attribute [go_sem] ny
attribute [go_sem] Tryz.ntmps232 Tryz.results232
def mQ (c:List GNode)(h:Int)(i:List GTie)(j e:Int)(f g:List Int):(Int × (List Int) × (List Int) × (List Bool))→St
 | (k,d,a,b)=>⟨[(2,.ptr 128 1 0 0),(3,.ptr 192 1 0 0),(7,.ref 832 1 0 d.length),(8,.ref 896 1 0 a.length),(9,.ref 960 1 0 b.length),(17,.sl (ab GNode.encS c)),(18,.lit (.int .i64 h)),(19,.lit (.int .i64 k))],[(128,1,.var [.sl (ab GNode.encS c),.sl (ab GTie.enc i),.lit (.int .i64 j)]),(192,1,.var [.lit (.int .i64 e),.sl (ab eI f),.sl (ab eI g)]),(832,1,.row true (ab eI d)),(896,1,.row true (ab eI a)),(960,1,.row true (ab eB b))],2⟩
attribute [go_sem] mQ
attribute [go_sem] Tryz.ntmps254 Tryz.results254
def lO (c:Int)(d:List GTie)(f:Int)(g:List GNode)(h:Int)(a:List Bool):(Int × (List Int) × (List Int))→St
 | (i,e,b)=>⟨[(2,.ptr 128 1 0 0),(5,.ref 960 1 0 e.length),(6,.ref 961 1 0 b.length),(7,.ref 962 1 0 a.length),(8,.lit (.int .i64 c)),(27,.sl (ab GTie.enc d)),(28,.lit (.int .i64 f)),(29,.lit (.int .i64 i))],[(128,1,.var [.sl (ab GNode.encS g),.sl (ab GTie.enc d),.lit (.int .i64 h)]),(960,1,.row true (ab eI e)),(961,1,.row true (ab eI b)),(962,1,.row true (ab eB a))],2⟩
attribute [go_sem] lO
def lP (e:List GNode)(f:List GTie)(g:Int)(a:List Bool):(Int × (List Int) × (List Int))→St
 | (c,d,b)=>⟨[(2,.ptr 128 1 0 0),(5,.ref 960 1 0 d.length),(6,.ref 961 1 0 b.length),(7,.ref 962 1 0 a.length),(8,.lit (.int .i64 c))],[(128,1,.var [.sl (ab GNode.encS e),.sl (ab GTie.enc f),.lit (.int .i64 g)]),(960,1,.row true (ab eI d)),(961,1,.row true (ab eI b)),(962,1,.row true (ab eB a))],2⟩
attribute [go_sem] lP
def lQ (d:Int)(c a:List Int)(b:List Bool)(e:Int):St:=⟨[(5,.ref 960 1 0 c.length),(6,.ref 961 1 0 a.length),(7,.ref 962 1 0 b.length),(121,.lit (.int .i64 d)),(122,.lit (.int .i64 e))],[(960,1,.row true (ab eI c)),(961,1,.row true (ab eI a)),(962,1,.row true (ab eB b))],2⟩
attribute [go_sem] lQ
@[go_sem] def hi182_17:DT:=.r2 0 15 .nil
@[go_sem] def hi182_12:DT:=.r2 0 19 .nil
@[go_sem] def hi182_11:DT:=.r2 0 19 .nil
@[go_sem] def hi182_10:DT:=.r2 0 19 .nil
@[go_sem] def hi182_9:DT:=.r2 0 19 .nil
def ot:Hint where
 acts:=fun _=>[]
 draws:=fun
  | 9=>⟨hi182_9,[[],[],[1],[],[],[4],[3,4,5],[3,4,5,6],[],[],[9],[8,9,10],[8,9,10,11],[],[13],[8,9,10,11,12,13,14],[3,4,5,6,7,8,9,10,11,12,13,14,15],.range 17,.range 18],.range 19⟩
  | 10=>⟨hi182_10,[[],[],[1],[],[],[4],[3,4,5],[3,4,5,6],[],[],[9],[8,9,10],[8,9,10,11],[],[13],[8,9,10,11,12,13,14],[3,4,5,6,7,8,9,10,11,12,13,14,15],.range 17,.range 18],.range 19⟩
  | 11=>⟨hi182_11,[[],[],[1],[],[],[4],[3,4,5],[3,4,5,6],[],[],[9],[8,9,10],[8,9,10,11],[],[13],[8,9,10,11,12,13,14],[3,4,5,6,7,8,9,10,11,12,13,14,15],.range 17,.range 18],.range 19⟩
  | 12=>⟨hi182_12,[[],[],[1],[],[],[4],[3,4,5],[3,4,5,6],[],[],[9],[8,9,10],[8,9,10,11],[],[13],[8,9,10,11,12,13,14],[3,4,5,6,7,8,9,10,11,12,13,14,15],.range 17,.range 18],.range 19⟩
  | 17=>⟨hi182_17,[[],[],[0,1],[0,1,2],[0,1,2,3],.range 5,.range 5,.range 7,.range 8,.range 5,.range 5,[0,1,2,3,4,9,10],[0,1,2,3,4,9,10,11],.range 13,.range 14],.range 15⟩
  | _=>⟨.nil,[],[]⟩
theorem Ii (i:Nat):ot.acts i=[]:=rfl
theorem Ij (i:Nat):ot.views i=none:=rfl
attribute [go_sem] Ii Ij Tryz.ntmps182 Tryz.results182
@[go_sem] theorem Ms:(ot.draws 9).order=hi182_9:=rfl
@[go_sem] theorem Ll:(ot.draws 10).order=hi182_10:=rfl
@[go_sem] theorem Lm:(ot.draws 11).order=hi182_11:=rfl
@[go_sem] theorem Ln:(ot.draws 12).order=hi182_12:=rfl
@[go_sem] theorem Lo:(ot.draws 17).order=hi182_17:=rfl
def kF (a:List Int)(b c:Int):St:=⟨[(0,.sl (ab eI a)),(9,.sl (ab eI a)),(10,.lit (.int .i64 b)),(11,.lit (.int .i64 c))],[],2⟩
attribute [go_sem] kF
def kG (a:List Int)(n c:Int)(b:List (List Int)):(Int × (List Int))→St
 | (d,l)=>⟨[(0,.sl (ab eI a)),(5,.ref 2112 1 0 b.length),(6,.lit (.int .i64 n)),(7,.ref 2688 1 0 l.length),(44,.lit (.int .i64 c)),(45,.lit (.int .i64 d))],[(2112,1,.row true (ab (eLO eI) b)),(2688,1,.row true (ab eI l))],2⟩
attribute [go_sem] kG
def kH (a:List Int):(Int × (List (List Int)))→St
 | (n,b)=>⟨[(0,.sl (ab eI a)),(5,.ref 2112 1 0 b.length),(6,.lit (.int .i64 n))],[(2112,1,.row true (ab (eLO eI) b))],2⟩
attribute [go_sem] kH
attribute [go_sem] Tryz.ntmps295 Tryz.results295
def ou (e:Int)(f:List GNode)(g:List GTie)(h i:Int)(b c a:List Int)(d:List (List Int))(j:Int):St:=⟨[(3,.ptr 192 1 0 0),(7,.ptr 448 1 0 0),(8,.ref 962 1 0 a.length),(19,.ref 1216 1 0 d.length),(20,.lit (.int .i64 e)),(21,.lit (.int .i64 j))],[(192,1,.var [.sl (ab GNode.encS f),.sl (ab GTie.enc g),.lit (.int .i64 h)]),(448,1,.var [.lit (.int .i64 i),.ref 960 1 0 b.length,.ref 961 1 0 c.length]),(960,1,.row true (ab eI b)),(961,1,.row true (ab eI c)),(962,1,.row true (ab eI a)),(1216,1,.tree (ab (eLS eI) d))],2⟩
attribute [go_sem] ou
@[go_sem] def hi257_5:DT:=.i1 0 (.r2 1 3 (.i0 4 [0] (.i2 5 (.i2 6 .nil))))
def Bz:Hint where
 acts:=fun _=>[]
 draws:=fun
  | 5=>⟨hi257_5,[[],[],[],[],[1,2,3],.range 5,.range 6],.range 7⟩
  | _=>⟨.nil,[],[]⟩
@[go_sem] theorem Nn (i:Nat):Bz.acts i=[]:=rfl
theorem Ik (i:Nat):Bz.views i=none:=rfl
attribute [go_sem] Ik Tryz.ntmps257 Tryz.results257
@[go_sem] theorem Mt:(Bz.draws 5).order=hi257_5:=rfl
def pd (d:List GNode)(e:List GTie)(f a:Int)(b c l:List Int)(n:Int):St:=⟨[(2,.ptr 128 1 0 0),(3,.ptr 192 1 0 0),(5,.ref 576 1 0 l.length),(6,.lit (.int .i64 n))],[(128,1,.var [.sl (ab GNode.encS d),.sl (ab GTie.enc e),.lit (.int .i64 f)]),(192,1,.var [.lit (.int .i64 a),.sl (ab eI b),.sl (ab eI c)]),(576,1,.row true (ab eI l))],2⟩
attribute [go_sem] pd
@[go_sem] def hi184_5:DT:=.i1 0 (.i1 1 (.i2 2 (.i2 3 (.i0 4 [0,1] (.i2 5 .nil)))))
def BA:Hint where
 acts:=fun _=>[]
 draws:=fun
  | 5=>⟨hi184_5,[[],[],[],[],[2,3],.range 5],.range 6⟩
  | _=>⟨.nil,[],[]⟩
theorem Il (i:Nat):BA.acts i=[]:=rfl
theorem Im (i:Nat):BA.views i=none:=rfl
attribute [go_sem] Il Im Tryz.ntmps184 Tryz.results184
@[go_sem] theorem Mu:(BA.draws 5).order=hi184_5:=rfl
def pf (f:List GNode)(g:List GTie)(h c:Int)(d e a b:List Int)(n:Int):St:=⟨[(2,.ptr 128 1 0 0),(3,.ptr 192 1 0 0),(5,.ref 1280 1 0 a.length),(6,.ref 1281 1 0 b.length),(7,.lit (.int .i64 n))],[(128,1,.var [.sl (ab GNode.encS f),.sl (ab GTie.enc g),.lit (.int .i64 h)]),(192,1,.var [.lit (.int .i64 c),.sl (ab eI d),.sl (ab eI e)]),(1280,1,.row true (ab eI a)),(1281,1,.row true (ab eI b))],2⟩
attribute [go_sem] pf
@[go_sem] def hi93_11:DT:=.i1 0 (.i1 1 (.i1 2 (.r2 3 3 (.i0 6 [0,1,2] (.i0 7 [0,1,2] (.i0 8 [0] (.i2 9 (.i2 10 .nil))))))))
def hi93:Hint where
 acts:=fun _=>[]
 draws:=fun
  | 11=>⟨hi93_11,[[],[],[],[],[],[],[4,5],[3,4,5,6],[1,2,3,4,5,6,7],.range 9,.range 10],.range 11⟩
  | _=>⟨.nil,[],[]⟩
theorem Kc (i:Nat):hi93.acts i=[]:=rfl
theorem Kd (i:Nat):hi93.views i=none:=rfl
attribute [go_sem] Kc Kd Tryz.ntmps93 Tryz.results93
@[go_sem] theorem Mv:(hi93.draws 11).order=hi93_11:=rfl
def mR (a b:Int)(c:List GNode)(d:List GTie)(e f:Int)(g h:List Int)(i:Bool)(j:List ap)(k:Int)(m n:List Int)(l:List (List Int))(o:Int):St:=⟨[(2,.lit (.int .i64 a)),(3,.ptr 192 1 0 0),(4,.ptr 256 1 0 0),(8,.ref 896 1 0 l.length),(16,.lit (.int .i64 b)),(17,.lit (.int .i64 o))],[(192,1,.var [.sl (ab GNode.encS c),.sl (ab GTie.enc d),.lit (.int .i64 e),.lit (.int .i64 f),.sl (ab eI g),.sl (ab eI h),.lit (.bool i),.sl (ab ap.encS j)]),(256,1,.var [.lit (.int .i64 k),.sl (ab eI m),.sl (ab eI n)]),(896,1,.tree (ab (eLS eI) l))],2⟩
attribute [go_sem] mR
attribute [go_sem] Tryz.ntmps233 Tryz.results233
def mS (o j h:List Int)(p q:Int)(r s:List Int)(k m:Int)(n:Bool)(t:Int)(a:List GNode)(b:List GTie)(c d:List Int)(e:List ap)(f g i:List Int):(Int × (List Int) × (List Int))→St
 | (u,v,l)=>⟨[(1,.sl (ab eI o)),(3,.sl (ab eI j)),(4,.sl (ab eI h)),(7,.ptr 448 1 0 0),(10,.ptr 640 1 0 0),(11,.ptr 704 1 0 0),(12,.ptr 768 1 0 0),(13,.ref 1602 1 0 i.length),(14,.ref 1792 1 0 v.length),(15,.ref 1856 1 0 l.length),(30,.ref 1602 1 0 i.length),(31,.lit (.int .i64 p)),(32,.lit (.int .i64 u))],[(448,1,.var [.lit (.int .i64 q),.sl (ab eI r),.sl (ab eI s)]),(640,1,.var [.lit (.slice none 0 0),.lit (.slice none 0 0),.lit (.int .i64 0),.lit (.int .i64 0),.lit (.slice none 0 0),.lit (.slice none 0 0),.lit (.bool false),.lit (.slice none 0 0)]),(704,1,.var [.ref 1216 1 0 a.length,.ref 1217 1 0 b.length,.lit (.int .i64 k),.lit (.int .i64 m),.ref 1218 1 0 c.length,.ref 1219 1 0 d.length,.lit (.bool n),.ref 1220 1 0 e.length]),(1216,1,.row true (ab GNode.encO a)),(1217,1,.row true (ab GTie.enc b)),(1218,1,.row true (ab eI c)),(1219,1,.row true (ab eI d)),(1220,1,.row true (ab ap.encO e)),(768,1,.var [.lit (.int .i64 t),.ref 1600 1 0 f.length,.ref 1601 1 0 g.length]),(1600,1,.row true (ab eI f)),(1601,1,.row true (ab eI g)),(1602,1,.row true (ab eI i)),(1792,1,.row true (ab eI v)),(1856,1,.row true (ab eI l))],2⟩
attribute [go_sem] mS
@[go_sem] def hi234_11:DT:=.i1 0 (.i1 1 (.i1 2 (.i1 3 (.i2 5 (.i2 8 (.i2 10 (.fork (.i0 4 [0,1,2,3] (.fork (.i0 6 [0,1,2,3] (.i0 7 [0,1,2,3] (.i0 9 [0,1,2,3] (.i2 11 (.i0 12 [0,1] (.i2 13 (.i2 14 (.i2 15 .nil)))))))) (.i0 7 [0,1,2,3] (.i0 6 [0,1,2,3] (.i0 9 [0,1,2,3] (.i2 11 (.i0 12 [0,1] (.i2 13 (.i2 14 (.i2 15 .nil)))))))))) (.i0 7 [0,1,2,3] (.i0 4 [0,1,2,3] (.i0 6 [0,1,2,3] (.i0 9 [0,1,2,3] (.i2 11 (.i0 12 [0,1] (.i2 13 (.i2 14 (.i2 15 .nil))))))))))))))))
def BB:Hint where
 acts:=fun _=>[]
 draws:=fun
  | 11=>⟨hi234_11,[[],[0],[],[2],[],[],[4,5],[],[],[4,5,6,7,8],[],[2,3,4,5,6,7,8,9,10],[2,3,4,5,6,7,8,9,10,11],.range 13,.range 14,.range 15],.range 16⟩
  | _=>⟨.nil,[],[]⟩
theorem In (i:Nat):BB.acts i=[]:=rfl
theorem Io (i:Nat):BB.views i=none:=rfl
attribute [go_sem] In Io Tryz.ntmps234 Tryz.results234
@[go_sem] theorem Lp:(BB.draws 11).order=hi234_11:=rfl
attribute [go_sem] Tryz.ntmps150 Tryz.results150
def ov (i j:List Int):(Int × Int × Bool × (List GNode) × (List GTie) × (List Int) × (List Int) × (List ap))→St
 | (f,g,h,a,b,c,d,e)=>⟨[(3,.ptr 192 1 0 0),(4,.ptr 256 1 0 0),(6,.ptr 384 1 0 0)],[(192,1,.var [.sl (ab eI i),.sl (ab eI j)]),(256,1,.var [.lit (.slice none 0 0),.lit (.slice none 0 0),.lit (.int .i64 0),.lit (.int .i64 0),.lit (.slice none 0 0),.lit (.slice none 0 0),.lit (.bool false),.lit (.slice none 0 0)]),(384,1,.var [.ref 704 1 0 a.length,.ref 705 1 0 b.length,.lit (.int .i64 f),.lit (.int .i64 g),.ref 706 1 0 c.length,.ref 707 1 0 d.length,.lit (.bool h),.ref 708 1 0 e.length]),(704,1,.row true (ab GNode.encO a)),(705,1,.row true (ab GTie.enc b)),(706,1,.row true (ab eI c)),(707,1,.row true (ab eI d)),(708,1,.row true (ab ap.encO e))],2⟩
attribute [go_sem] ov
@[go_sem] def hi138_4:DT:=.i1 0 (.i1 1 (.i1 2 (.i1 3 (.i1 4 (.i1 5 (.i1 7 (.i1 8 (.fork (.i0 6 [0,7,8] (.fork (.i2 9 (.i2 10 (.i2 11 (.i2 12 (.i2 13 (.i0 14 [0,1,2,3,4,5,7,8] (.i2 15 (.i2 16 (.i2 17 .nil))))))))) (.i0 14 [0,1,2,3,4,5,7,8] (.i2 9 (.i2 10 (.i2 11 (.i2 12 (.i2 13 (.i2 15 (.i2 16 (.i2 17 .nil))))))))))) (.i0 14 [0,1,2,3,4,5,7,8] (.i0 6 [0,7,8] (.i2 9 (.i2 10 (.i2 11 (.i2 12 (.i2 13 (.i2 15 (.i2 16 (.i2 17 .nil))))))))))))))))))
def BC:Hint where
 acts:=fun _=>[]
 draws:=fun
  | 4=>⟨hi138_4,[[],[],[1],[],[3],[],[1,2,3,4,5],[],[7],.range 9,.range 10,.range 11,.range 11,.range 11,[],[0,1,2,3,4,5,6,7,8,9,10,11,14],[0,1,2,3,4,5,6,7,8,9,10,11,12,14,15],.range 17],[0,1,2,3,4,5,6,7,8,9,10,11,14,16,12,13,15,17]⟩
  | _=>⟨.nil,[],[]⟩
theorem Ip (i:Nat):BC.acts i=[]:=rfl
theorem Iq (i:Nat):BC.views i=none:=rfl
attribute [go_sem] Ip Iq Tryz.ntmps138 Tryz.results138
@[go_sem] theorem Mw:(BC.draws 4).order=hi138_4:=rfl
attribute [go_sem] Tryz.ntmps139 Tryz.results139
attribute [go_sem] Tryz.ntmps68 Tryz.results68
attribute [go_sem] Tryz.ntmps199 Tryz.results199
instance k199 {i:ao}:Ctr (dd i) (fun (res:Bool)=>al Tryz.prog 199 [.agg [.lit (.int .i64 i.low),.lit (.int .i64 i.high)]] [] (.lit (.bool res)) []):=⟨by
 intro res h0
 refine co (hi:=hi00) Tryz.func199 rfl rfl ?_
 unfold dd at h0
 exact run⟩
def iZ (a:List GLink)(b c d:Int):St:=⟨[(1,.ptr 64 1 0 0),(16,.sl (ab GLink.enc a)),(17,.lit (.int .i64 b)),(18,.lit (.int .i64 d))],[(64,1,.var [.lit (.int .i64 c),.sl (ab GLink.enc a)])],2⟩
attribute [go_sem] iZ
attribute [go_sem] Tryz.ntmps123 Tryz.results123
instance k123 {s:ag}:Ctr (dR s) (fun (res:Bool)=>al Tryz.prog 123 [.agg [.lit (.int .i64 s.events),.sl (ab GLink.enc s.links)]] [] (.lit (.bool res)) []):=⟨by
 intro res h0
 refine co (hi:=hi00) Tryz.func123 rfl rfl ?_
 unfold dR at h0
 obtain ⟨r01,g0,h0⟩:=af h0
 simp(config:=cS)only[go_sem, *]
 have g0:=ctr g0
 refine az g0 ?_
 obtain ⟨_,h0⟩|⟨_,h0⟩:=itB h0
 ·obtain ⟨_,h0⟩|⟨_,h0⟩:=itP h0
  ·exact run
  ·obtain ⟨q06,l0,h0⟩:=af h0
   simp(config:=cS)only[go_sem, *]
   refine aq (m1:=.mk) (m2:=.mk) [.nf [1,16,17,18] [64]] (iZ s.links ((s.links.length:Nat):Int) s.events) l0 ?_ ?_
   ·simp(config:=cS)only[go_sem, *]
   ·have k0:=h0
    clear h0 l0
    intro _ v18_1 _ h0 gb0
    unfold cK at h0
    try dsimp only at h0
    exact run
 ·exact run⟩
def gW (c:List GNode)(d:Int)(g:List GTie)(h:Int)(e f:List Int):(Int × (List Bool) × (List GLink))→St
 | (i,b,a)=>⟨[(2,.ptr 128 1 0 0),(3,.ptr 192 1 0 0),(4,.ptr 256 1 0 0),(6,.ptr 384 1 0 0),(7,.ref 1728 1 0 b.length),(29,.sl (ab GNode.encS c)),(30,.lit (.int .i64 d)),(31,.lit (.int .i64 i))],[(128,1,.var [.sl (ab GNode.encS c),.sl (ab GTie.enc g),.lit (.int .i64 h)]),(192,1,.var [.sl (ab eI e),.sl (ab eI f)]),(256,1,.var [.lit (.int .i64 0),.lit (.slice none 0 0)]),(384,1,.var [.lit (.int .i64 d),.ref 100024577 1 0 a.length]),(100024577,1,.row true (ab GLink.enc a)),(1728,1,.row true (ab eB b))],2⟩
attribute [go_sem] gW
def gX (d:List GTie)(g:Int)(h:List GNode)(i:Int)(e f:List Int)(c:Int)(b:List Bool):(Int × (List GLink))→St
 | (j,a)=>⟨[(2,.ptr 128 1 0 0),(3,.ptr 192 1 0 0),(4,.ptr 256 1 0 0),(6,.ptr 384 1 0 0),(7,.ref 1728 1 0 b.length),(61,.sl (ab GTie.enc d)),(62,.lit (.int .i64 g)),(63,.lit (.int .i64 j))],[(128,1,.var [.sl (ab GNode.encS h),.sl (ab GTie.enc d),.lit (.int .i64 i)]),(192,1,.var [.sl (ab eI e),.sl (ab eI f)]),(256,1,.var [.lit (.int .i64 0),.lit (.slice none 0 0)]),(384,1,.var [.lit (.int .i64 c),.ref 100024577 1 0 a.length]),(100024577,1,.row true (ab GLink.enc a)),(1728,1,.row true (ab eB b))],2⟩
attribute [go_sem] gX
def gY (c:Int)(e:List GNode)(f:List GTie)(g:Int)(b:List Bool):(Int × (List GLink))→St
 | (d,a)=>⟨[(2,.ptr 128 1 0 0),(4,.ptr 256 1 0 0),(6,.ptr 384 1 0 0),(7,.ref 1728 1 0 b.length),(114,.lit (.int .i64 c)),(115,.lit (.int .i64 d))],[(128,1,.var [.sl (ab GNode.encS e),.sl (ab GTie.enc f),.lit (.int .i64 g)]),(256,1,.var [.lit (.int .i64 0),.lit (.slice none 0 0)]),(384,1,.var [.lit (.int .i64 c),.ref 100024577 1 0 a.length]),(100024577,1,.row true (ab GLink.enc a)),(1728,1,.row true (ab eB b))],2⟩
attribute [go_sem] gY
def gZ (i:Int)(c:List GNode)(d:Int)(e:List Int)(f:Int)(h:List GTie)(j:Int)(b:List Bool):(Int × (List GLink))→St
 | (g,a)=>⟨[(2,.ptr 128 1 0 0),(4,.ptr 256 1 0 0),(6,.ptr 384 1 0 0),(7,.ref 1728 1 0 b.length),(14,.lit (.int .i64 i)),(132,.sl (ab GNode.encS c)),(133,.lit (.int .i64 d)),(134,.lit (.int .i64 i)),(140,.sl (ab eI e)),(141,.lit (.int .i64 f)),(142,.lit (.int .i64 g))],[(128,1,.var [.sl (ab GNode.encS c),.sl (ab GTie.enc h),.lit (.int .i64 j)]),(256,1,.var [.lit (.int .i64 0),.lit (.slice none 0 0)]),(384,1,.var [.lit (.int .i64 d),.ref 100024577 1 0 a.length]),(100024577,1,.row true (ab GLink.enc a)),(1728,1,.row true (ab eB b))],2⟩
attribute [go_sem] gZ
def hD (c:List GNode)(d:Int)(f:List GTie)(g:Int)(b:List Bool):(Int × (List GLink))→St
 | (e,a)=>⟨[(2,.ptr 128 1 0 0),(4,.ptr 256 1 0 0),(6,.ptr 384 1 0 0),(7,.ref 1728 1 0 b.length),(132,.sl (ab GNode.encS c)),(133,.lit (.int .i64 d)),(134,.lit (.int .i64 e))],[(128,1,.var [.sl (ab GNode.encS c),.sl (ab GTie.enc f),.lit (.int .i64 g)]),(256,1,.var [.lit (.int .i64 0),.lit (.slice none 0 0)]),(384,1,.var [.lit (.int .i64 d),.ref 100024577 1 0 a.length]),(100024577,1,.row true (ab GLink.enc a)),(1728,1,.row true (ab eB b))],2⟩
attribute [go_sem] hD
@[go_sem] def hi54_35:DT:=.i1 0 (.i1 1 (.i1 2 (.i2 3 (.i2 6 (.i2 7 (.i0 4 [0,1,2] (.i0 5 [0,1] (.i2 8 (.i0 9 [0,1] (.r2 10 3 .nil))))))))))
def hi54:Hint where
 acts:=fun _=>[]
 draws:=fun
  | 35=>⟨hi54_35,[[],[0],[],[],[3],[2,3,4],[],[],[2,3,4,5,6,7],[2,3,4,5,6,7,8],.range 10,.range 11,.range 12],.range 13⟩
  | _=>⟨.nil,[],[]⟩
theorem Ke (i:Nat):hi54.acts i=[]:=rfl
theorem Kf (i:Nat):hi54.views i=none:=rfl
attribute [go_sem] Ke Kf Tryz.ntmps54 Tryz.results54
@[go_sem] theorem Mx:(hi54.draws 35).order=hi54_35:=rfl
instance k54 {s:GShow} {v1:GChoice}:Ctr (dK s v1) (fun (res:ag × Bool)=>al Tryz.prog 54 [.agg (GShow.encS s),.agg [.sl (ab eI v1.lengths),.sl (ab eI v1.values)]] [] (.tup [.agg [.lit (.int .i64 res.1.events),.ref 20000 1 0 res.1.links.length],.lit (.bool res.2)]) [(20000,1,.row true (ab GLink.enc res.1.links))]):=⟨by
 intro res h0
 refine cE (ra:=[.homeCell 256 1]) (md:=mdT) hT (hi:=hi54) Tryz.func54 rfl rfl (by decide +kernel) (by simp) ?_
 unfold dK at h0
 obtain ⟨r01,g0,h0⟩:=af h0
 simp(config:=cS)only[go_sem, *]
 have g0:=ctr g0
 refine az g0 ?_
 obtain ⟨_,h0⟩|⟨_,h0⟩:=itB h0
 ·obtain ⟨q20,l0,h0⟩:=af h0
  simp(config:=cS)only[go_sem, *]
  refine aq (m1:=.mk) (m2:=.mk) [.homeCell 384 1,.nf [2,3,4,6,7,29,30,31] [128,192,256,384,100024577,1728]] (gW s.nodes ((s.nodes.length:Nat):Int) s.ties s.horizon v1.lengths v1.values) l0 ?_ ?_
  ·simp(config:=cS)only[go_sem, *]
  ·have k0:=h0
   clear h0 l0
   intro _ s0 _ h0 gb0
   obtain ⟨v31_1,happens_1,h100024577_1⟩:=s0
   unfold bK at h0
   try dsimp only at h0
   obtain ⟨_,h0⟩|⟨_,h0⟩:=itP h0
   ·obtain ⟨x02,_,_,_,h0⟩:=gtI h0
    obtain ⟨r03,g0,h0⟩:=af h0
    simp(config:=cS)only[go_sem, *]
    have g0:=ctr g0
    refine az g0 ?_
    obtain ⟨_,h0⟩:=ckP h0
    obtain ⟨_,h0⟩:=ckP h0
    obtain ⟨x04,a1,a2,a3,h0⟩:=gtI h0
    try simp only [List.length_append,List.length_cons,List.length_nil,Nat.zero_add,Nat.reduceAdd] at a1
    try simp only [List.length_append,List.length_cons,List.length_nil,Nat.zero_add,Nat.reduceAdd] at a2
    try simp only [List.length_append,List.length_cons,List.length_nil,Nat.zero_add,Nat.reduceAdd] at a3
    exact run
   ·cases h0
    obtain rfl:=(cn gb0).symm
    clear gb0
    have h0:=k0
    clear k0
    try dsimp only at h0
    obtain ⟨q19,l0,h0⟩:=af h0
    simp(config:=cS)only[go_sem, *]
    refine aq (m1:=.mk) (m2:=.mk) [.nf [2,3,4,6,7,61,62,63] [128,192,256,384,100024577,1728]] (gX s.ties ((s.ties.length:Nat):Int) s.nodes s.horizon v1.lengths v1.values ((s.nodes.length:Nat):Int) happens_1) l0 ?_ ?_
    ·simp(config:=cS)only[go_sem, *]
    ·have k0:=h0
     clear h0 l0
     intro _ s0 _ h0 gb0
     obtain ⟨v63_2,h100024577_2⟩:=s0
     unfold bL at h0
     try dsimp only at h0
     obtain ⟨_,h0⟩|⟨_,h0⟩:=itP h0
     ·exact run
     ·cases h0
      obtain rfl:=(cn gb0).symm
      clear gb0
      have h0:=k0
      clear k0
      try dsimp only at h0
      obtain ⟨q18,l0,h0⟩:=af h0
      simp(config:=cS)only[go_sem, *]
      refine aq (m1:=.mk) (m2:=.mk) [.nf [2,4,6,7,114,115] [128,256,384,100024577,1728]] (gY ((s.nodes.length:Nat):Int) s.nodes s.ties s.horizon happens_1) l0 ?_ ?_
      ·simp(config:=cS)only[go_sem, *]
      ·have k0:=h0
       clear h0 l0
       intro _ s0 _ h0 gb0
       obtain ⟨v115_3,h100024577_3⟩:=s0
       unfold bM at h0
       try dsimp only at h0
       obtain ⟨_,h0⟩|⟨_,h0⟩:=itP h0
       ·exact run
       ·cases h0
        obtain rfl:=(cn gb0).symm
        clear gb0
        have h0:=k0
        clear k0
        try dsimp only at h0
        obtain ⟨q17,l0,h0⟩:=af h0
        simp(config:=cS)only[go_sem, *]
        refine aq (m1:=.mk) (m2:=.mk) [.nf [2,4,6,7,132,133,134] [128,256,384,100024577,1728]] (hD s.nodes ((s.nodes.length:Nat):Int) s.ties s.horizon happens_1) l0 ?_ ?_
        ·simp(config:=cS)only[go_sem, *]
        ·have k0:=h0
         clear h0 l0
         intro _ s0 _ h0 gb0
         obtain ⟨v134_4,h100024577_4⟩:=s0
         unfold bO at h0
         try dsimp only at h0
         obtain ⟨_,h0⟩|⟨_,h0⟩:=itP h0
         ·obtain ⟨x10,_,_,_,h0⟩:=gtI h0
          obtain ⟨q15,l0,h0⟩:=af h0
          simp(config:=cS)only[go_sem, *]
          refine aq (m1:=.mk) (m2:=.mk) [.nf [2,4,6,7,14,132,133,134,140,141,142] [128,256,384,100024577,1728]] (gZ v134_4 s.nodes ((s.nodes.length:Nat):Int) x10.label ((x10.label.length:Nat):Int) s.ties s.horizon happens_1) l0 ?_ ?_
          ·simp(config:=cS)only[go_sem, *]
          ·have k0:=h0
           clear h0 l0
           intro _ s0 _ h0 gb0
           obtain ⟨v142_5,h100024577_5⟩:=s0
           unfold bN at h0
           try dsimp only at h0
           exact run
         ·exact run
 ·exact run⟩
@[go_sem] def hi55_1:DT:=.r2 0 24 .nil
def hi55:Hint where
 acts:=fun _=>[]
 draws:=fun
  | 1=>⟨hi55_1,[[],[],[0,1],[0,1,2],[0,1,2,3],[0,1,2,3],[0,1,2,3,5],[0,1,2,3,5,6],[0,1,2,3,5,6,7],.range 9,.range 10,.range 11,.range 12,.range 13,.range 12,.range 15,.range 16,.range 17,.range 12,[0,1,2,3,4,5,6,7,8,9,10,11,18],.range 20,.range 21,.range 22,.range 23],.range 24⟩
  | _=>⟨.nil,[],[]⟩
theorem Kg (i:Nat):hi55.acts i=[]:=rfl
theorem Kh (i:Nat):hi55.views i=none:=rfl
attribute [go_sem] Kg Kh Tryz.ntmps55 Tryz.results55
@[go_sem] theorem No:(hi55.draws 1).order=hi55_1:=rfl
instance k55 {s:GShow} {v1:GChoice} {node:Int}:Ctr (eR s v1 node) (fun (res:Bool)=>al Tryz.prog 55 [.agg (GShow.encS s),.agg [.sl (ab eI v1.lengths),.sl (ab eI v1.values)],.lit (.int .i64 node)] [] (.lit (.bool res)) []):=⟨by
 intro res h0
 refine co (hi:=hi55) Tryz.func55 rfl rfl ?_
 unfold eR at h0
 exact run⟩
def ja (a:List Int)(b c:Int):St:=⟨[(17,.sl (ab eI a)),(18,.lit (.int .i64 b)),(19,.lit (.int .i64 c))],[],2⟩
attribute [go_sem] ja
attribute [go_sem] Tryz.ntmps125 Tryz.results125
instance k125 {s:ag} {times:List Int}:Ctr (dS s times) (fun (res:Bool)=>al Tryz.prog 125 [.agg [.lit (.int .i64 s.events),.sl (ab GLink.enc s.links)],.sl (ab eI times)] [] (.lit (.bool res)) []):=⟨by
 intro res h0
 refine co (hi:=hi00) Tryz.func125 rfl rfl ?_
 unfold dS at h0
 obtain ⟨r01,g0,h0⟩:=af h0
 simp(config:=cS)only[go_sem, *]
 have g0:=ctr g0
 refine az g0 ?_
 obtain ⟨_,h0⟩|⟨_,h0⟩:=itB h0
 ·obtain ⟨_,h0⟩|⟨_,h0⟩:=itP h0
  ·obtain ⟨q04,l0,h0⟩:=af h0
   simp(config:=cS)only[go_sem, *]
   refine aq (m1:=.mk) (m2:=.mk) [.nf [17,18,19] []] (ja times ((times.length:Nat):Int)) l0 ?_ ?_
   ·simp(config:=cS)only[go_sem, *]
   ·have k0:=h0
    clear h0 l0
    intro _ v19_1 _ h0 gb0
    unfold cL at h0
    try dsimp only at h0
    exact run
  ·exact run
 ·exact run⟩
attribute [go_sem] Tryz.ntmps200 Tryz.results200
instance k200 {i:ao} {n:Int}:Ctr (fk i n) (fun (res:Bool)=>al Tryz.prog 200 [.agg [.lit (.int .i64 i.low),.lit (.int .i64 i.high)],.lit (.int .i64 n)] [] (.lit (.bool res)) []):=⟨by
 intro res h0
 refine co (hi:=hi00) Tryz.func200 rfl rfl ?_
 unfold fk at h0
 exact run⟩
def iq (a:List Int)(b:List GLink)(c d:Int):St:=⟨[(1,.sl (ab eI a)),(12,.sl (ab GLink.enc b)),(13,.lit (.int .i64 c)),(14,.lit (.int .i64 d))],[],2⟩
attribute [go_sem] iq
@[go_sem] def hi126_6:DT:=.r2 0 15 .nil
def xZ:Hint where
 acts:=fun _=>[]
 draws:=fun
  | 6=>⟨hi126_6,[[],[0],[],[],[3],[2,3,4],[2,3,4,5],[],[],[8],[7,8,9],[7,8,9,10],[2,3,4,5,6,7,8,9,10,11],.range 13,.range 14],.range 15⟩
  | _=>⟨.nil,[],[]⟩
theorem Ir (i:Nat):xZ.acts i=[]:=rfl
theorem Is (i:Nat):xZ.views i=none:=rfl
attribute [go_sem] Ir Is Tryz.ntmps126 Tryz.results126
@[go_sem] theorem My:(xZ.draws 6).order=hi126_6:=rfl
instance k126 {s:ag} {times:List Int}:Ctr (ed s times) (fun (res:Int)=>al Tryz.prog 126 [.agg [.lit (.int .i64 s.events),.sl (ab GLink.enc s.links)],.sl (ab eI times)] [] (.lit (.int .i64 res)) []):=⟨by
 intro res h0
 refine co (hi:=xZ) Tryz.func126 rfl rfl ?_
 unfold ed at h0
 obtain ⟨r01,g0,h0⟩:=af h0
 simp(config:=cS)only[go_sem, *]
 have g0:=ctr g0
 refine az g0 ?_
 obtain ⟨_,h0⟩|⟨_,h0⟩:=itB h0
 ·obtain ⟨q06,l0,h0⟩:=af h0
  simp(config:=cS)only[go_sem, *]
  refine aq (m1:=.mk) (m2:=.mk) [.nf [1,12,13,14] []] (iq times s.links ((s.links.length:Nat):Int)) l0 ?_ ?_
  ·simp(config:=cS)only[go_sem, *]
  ·have k0:=h0
   clear h0 l0
   intro _ v14_1 _ h0 gb0
   unfold bZ at h0
   try dsimp only at h0
   exact run
 ·exact run⟩
attribute [go_sem] Tryz.ntmps56 Tryz.results56
instance k56 {s:ag} {times:List Int}:Ctr (eg s times) (fun (res:Bool)=>al Tryz.prog 56 [.agg [.lit (.int .i64 s.events),.sl (ab GLink.enc s.links)],.sl (ab eI times)] [] (.lit (.bool res)) []):=⟨by
 intro res h0
 refine co (hi:=hi00) Tryz.func56 rfl rfl ?_
 unfold eg at h0
 obtain ⟨r01,g0,h0⟩:=af h0
 simp(config:=cS)only[go_sem, *]
 have g0:=ctr g0
 refine az g0 ?_
 obtain ⟨_,h0⟩|⟨_,h0⟩:=itB h0
 ·obtain ⟨x02,g1,h0⟩:=af h0
  have:=lH (k:=0) g1
  exact run
 ·exact run⟩
def jb (e:List Int)(f:Int)(g:List GNode)(h:List GTie)(i:Int)(c d:List Int)(j:Int)(a:List GLink):(Int × (List Int))→St
 | (k,b)=>⟨[(3,.ptr 192 1 0 0),(4,.ptr 256 1 0 0),(7,.ptr 448 1 0 0),(9,.ref 1792 1 0 b.length),(29,.sl (ab eI e)),(30,.lit (.int .i64 f)),(31,.lit (.int .i64 k))],[(192,1,.var [.sl (ab GNode.encS g),.sl (ab GTie.enc h),.lit (.int .i64 i)]),(256,1,.var [.sl (ab eI c),.sl (ab eI d)]),(448,1,.var [.lit (.int .i64 j),.ref 960 1 0 a.length]),(960,1,.row true (ab GLink.enc a)),(1792,1,.row true (ab eI b))],2⟩
attribute [go_sem] jb
attribute [go_sem] Tryz.ntmps11 Tryz.results11
instance k11 {s:GShow} {v1:GChoice} {times:List Int}:Ctr (fm s v1 times) (fun (res:Bool)=>al Tryz.prog 11 [.agg (GShow.encS s),.agg [.sl (ab eI v1.lengths),.sl (ab eI v1.values)],.sl (ab eI times)] [] (.lit (.bool res)) []):=⟨by
 intro res h0
 refine co (hi:=hi00) Tryz.func11 rfl rfl ?_
 unfold fm at h0
 obtain ⟨r01,g0,h0⟩:=af h0
 simp(config:=cS)only[go_sem, *]
 have g0:=ctr g0
 refine az g0 ?_
 obtain ⟨_,h0⟩|⟨_,h0⟩:=itB h0
 ·obtain ⟨_,h0⟩|⟨_,h0⟩:=itP h0
  ·obtain ⟨q05,l0,h0⟩:=af h0
   simp(config:=cS)only[go_sem, *]
   refine aq (m1:=.mk) (m2:=.mk) [.nf [3,4,7,9,29,30,31] [192,256,448,960,1792]] (jb times ((times.length:Nat):Int) s.nodes s.ties s.horizon v1.lengths v1.values r01.1.events r01.1.links) l0 ?_ ?_
   ·simp(config:=cS)only[go_sem, *]
   ·have k0:=h0
    clear h0 l0
    intro _ s0 _ h0 gb0
    obtain ⟨v31_1,full_1⟩:=s0
    unfold bR at h0
    try dsimp only at h0
    exact run
  ·exact run
 ·exact run⟩
def kI (a:Bool)(b:List GNode)(c:List GTie)(d n:Int):St:=⟨[(1,.lit (.bool a)),(2,.ptr 128 1 0 0),(5,.lit (.int .i64 n))],[(128,1,.var [.sl (ab GNode.encS b),.sl (ab GTie.enc c),.lit (.int .i64 d)])],2⟩
attribute [go_sem] kI
attribute [go_sem] Tryz.ntmps19 Tryz.results19
def ka (s:ByteArray)(i:Int):St:=⟨[(0,.lit (.string s)),(3,.lit (.int .i64 i))],[],2⟩
attribute [go_sem] ka
@[go_sem] def hi266_4:DT:=.r2 0 22 .nil
def ya:Hint where
 acts:=fun _=>[]
 draws:=fun
  | 4=>⟨hi266_4,[[],[],[0,1],[0,1,2],[0,1,2,3],.range 5,.range 5,.range 7,.range 8,.range 9,[],[],[10,11],[10,11,12],[0,1,2,3,4,10,11,12,13],[0,1,2,3,4,10,11,12,13,14],[0,1,2,3,4,10,11,12,13,14],[0,1,2,3,4,10,11,12,13,14,15,16],[0,1,2,3,4,10,11,12,13,14,15,16,17],[0,1,2,3,4,10,11,12,13,14,15,16,17,18],.range 15,.range 21],[0,1,2,3,4,5,6,7,8,9,10,11,12,13,14,16,17,18,19,20,15,21]⟩
  | _=>⟨.nil,[],[]⟩
theorem It (i:Nat):ya.acts i=[]:=rfl
theorem Iu (i:Nat):ya.views i=none:=rfl
attribute [go_sem] It Iu Tryz.ntmps266 Tryz.results266
@[go_sem] theorem Mz:(ya.draws 4).order=hi266_4:=rfl
instance k266 {s:ByteArray}:Ctr (gC s) (fun (res:Bool)=>al Tryz.prog 266 [.lit (.string s)] [] (.lit (.bool res)) []):=⟨by
 intro res h0
 refine co (hi:=ya) Tryz.func266 rfl rfl ?_
 unfold gC at h0
 obtain ⟨q02,l0,h0⟩:=af h0
 simp(config:=cS)only[go_sem, *]
 refine aq (m1:=.mk) (m2:=.mk) [.nf [0,3] []] (ka s) l0 ?_ ?_
 ·simp(config:=cS)only[go_sem, *]
 ·have k0:=h0
  clear h0 l0
  intro _ i_1 _ h0 gb0
  unfold dz at h0
  try dsimp only at h0
  exact run⟩
attribute [go_sem] Tryz.ntmps176 Tryz.results176
instance k176 {l:Int}:Ctr (cz l) (fun (res:Int)=>al Tryz.prog 176 [.lit (.int .i64 l)] [] (.lit (.int .i64 res)) []):=⟨by
 intro res h0
 refine co (hi:=hi00) Tryz.func176 rfl rfl ?_
 unfold cz at h0
 exact run⟩
def jE (l:List Int)(a b:Int):St:=⟨[(0,.sl (ab eI l)),(5,.sl (ab eI l)),(6,.lit (.int .i64 a)),(7,.lit (.int .i64 b))],[],2⟩
attribute [go_sem] jE
attribute [go_sem] Tryz.ntmps172 Tryz.results172
instance k172 {l:List Int}:Ctr (cM l) (fun (res:Bool)=>al Tryz.prog 172 [.sl (ab eI l)] [] (.lit (.bool res)) []):=⟨by
 intro res h0
 refine co (hi:=hi00) Tryz.func172 rfl rfl ?_
 unfold cM at h0
 obtain ⟨q05,l0,h0⟩:=af h0
 simp(config:=cS)only[go_sem, *]
 refine aq (m1:=.mk) (m2:=.mk) [.nf [0,5,6,7] []] (jE l ((l.length:Nat):Int)) l0 ?_ ?_
 ·simp(config:=cS)only[go_sem, *]
 ·have k0:=h0
  clear h0 l0
  intro _ v7_1 _ h0 gb0
  unfold de at h0
  try dsimp only at h0
  exact run⟩
attribute [go_sem] Tryz.ntmps223 Tryz.results223
instance k223 {n:GNode}:Ctr (gD n) (fun (res:Bool)=>al Tryz.prog 223 [.agg (GNode.encS n)] [] (.lit (.bool res)) []):=⟨by
 intro res h0
 refine co (hi:=hi00) Tryz.func223 rfl rfl ?_
 unfold gD at h0
 exact run⟩
def jc (a:List GNode)(b c:Int)(d:List GNode)(e:Int)(f:List GTie)(g:Int)(h:ByteArray)(i:List Int)(j k:Int):St:=⟨[(1,.ptr 64 1 0 0),(4,.ptr 256 1 0 0),(35,.sl (ab GNode.encS a)),(36,.lit (.int .i64 b)),(37,.lit (.int .i64 c)),(48,.sl (ab GNode.encS d)),(49,.lit (.int .i64 e)),(50,.lit (.int .i64 k))],[(64,1,.var [.sl (ab GNode.encS a),.sl (ab GTie.enc f),.lit (.int .i64 g)]),(256,1,.var [.lit (.string h),.sl (ab eI i),.lit (.int .i64 j)])],2⟩
attribute [go_sem] jc
def jd (a:List GNode)(b:Int)(c:List GTie)(d e:Int):St:=⟨[(1,.ptr 64 1 0 0),(35,.sl (ab GNode.encS a)),(36,.lit (.int .i64 b)),(37,.lit (.int .i64 e))],[(64,1,.var [.sl (ab GNode.encS a),.sl (ab GTie.enc c),.lit (.int .i64 d)])],2⟩
attribute [go_sem] jd
attribute [go_sem] Tryz.ntmps142 Tryz.results142
instance k142 {s:GShow}:Ctr (fo s) (fun (res:Bool)=>al Tryz.prog 142 [.agg (GShow.encS s)] [] (.lit (.bool res)) []):=⟨by
 intro res h0
 refine co (hi:=hi00) Tryz.func142 rfl rfl ?_
 unfold fo at h0
 obtain ⟨_,h0⟩|⟨_,h0⟩:=itP h0
 ·exact run
 ·obtain ⟨_,h0⟩|⟨_,h0⟩:=itP h0
  ·exact run
  ·obtain ⟨x01,g1,h0⟩:=af h0
   have:=lH (k:=0) g1
   obtain ⟨_,h0⟩|⟨_,h0⟩:=itP h0
   ·exact run
   ·obtain ⟨_,h0⟩|⟨_,h0⟩:=itP h0
    ·obtain ⟨q06,l0,h0⟩:=af h0
     simp(config:=cS)only[go_sem, *]
     refine aq (m1:=.mk) (m2:=.mk) [.nf [1,35,36,37] [64]] (jd s.nodes ((s.nodes.length:Nat):Int) s.ties s.horizon) l0 ?_ ?_
     ·simp(config:=cS)only[go_sem, *]
     ·have k0:=h0
      clear h0 l0
      intro _ v37_1 _ h0 gb0
      unfold cO at h0
      try dsimp only at h0
      obtain ⟨_,h0⟩|⟨_,h0⟩:=itP h0
      ·obtain ⟨x02,_,_,_,h0⟩:=gtI h0
       obtain ⟨r03,g0,h0⟩:=af h0
       simp(config:=cS)only[go_sem, *]
       have g0:=ctr g0
       refine az g0 ?_
       obtain ⟨_,h0⟩|⟨_,h0⟩:=itB h0
       ·obtain ⟨_,h0⟩:=ckP h0
        obtain ⟨_,h0⟩:=ckP h0
        obtain ⟨q05,l0,h0⟩:=af h0
        simp(config:=cS)only[go_sem, *]
        refine aq (m1:=.mk) (m2:=.mk) [.nf [1,4,35,36,37,48,49,50] [64,256]] (jc s.nodes ((s.nodes.length:Nat):Int) v37_1 (s.nodes.take v37_1.toNat) (((s.nodes.take v37_1.toNat).length:Nat):Int) s.ties s.horizon x02.name x02.label x02.watch) l0 ?_ ?_
        ·simp(config:=cS)only[go_sem, *]
        ·have k0:=h0
         clear h0 l0
         intro _ v50_2 _ h0 gb0
         unfold cN at h0
         try dsimp only at h0
         exact run
       ·exact run
      ·exact run
    ·exact run⟩
attribute [go_sem] Tryz.ntmps103 Tryz.results103
instance k103 {n:Int} {node:Int}:Ctr (dj n node) (fun (res:Bool)=>al Tryz.prog 103 [.lit (.int .i64 n),.lit (.int .i64 node)] [] (.lit (.bool res)) []):=⟨by
 intro res h0
 refine co (hi:=hi00) Tryz.func103 rfl rfl ?_
 unfold dj at h0
 exact run⟩
attribute [go_sem] Tryz.ntmps224 Tryz.results224
instance k224 {n:Int}:Ctr (fa n) (fun (res:Bool)=>al Tryz.prog 224 [.lit (.int .i64 n)] [] (.lit (.bool res)) []):=⟨by
 intro res h0
 refine co (hi:=hi00) Tryz.func224 rfl rfl ?_
 unfold fa at h0
 exact run⟩
def hM (c d:List Int)(a b:Int):St:=⟨[(0,.sl (ab eI c)),(1,.sl (ab eI d)),(12,.lit (.int .i64 a)),(13,.lit (.int .i64 b))],[],2⟩
attribute [go_sem] hM
@[go_sem] def hi91_6:DT:=.r2 0 9 .nil
def hi91:Hint where
 acts:=fun _=>[]
 draws:=fun
  | 6=>⟨hi91_6,[[],[],[0,1],[0,1,2],[],[],[4,5],[4,5,6],.range 8],.range 9⟩
  | _=>⟨.nil,[],[]⟩
theorem Ki (i:Nat):hi91.acts i=[]:=rfl
theorem Kj (i:Nat):hi91.views i=none:=rfl
attribute [go_sem] Ki Kj Tryz.ntmps91 Tryz.results91
@[go_sem] theorem Np:(hi91.draws 6).order=hi91_6:=rfl
instance k91 {v0:List Int} {v1:List Int}:Ctr (dL v0 v1) (fun (res:Bool)=>al Tryz.prog 91 [.sl (ab eI v0),.sl (ab eI v1)] [] (.lit (.bool res)) []):=⟨by
 intro res h0
 refine co (hi:=hi91) Tryz.func91 rfl rfl ?_
 unfold dL at h0
 obtain ⟨_,h0⟩|⟨_,h0⟩:=itP h0
 ·obtain ⟨q03,l0,h0⟩:=af h0
  simp(config:=cS)only[go_sem, *]
  refine aq (m1:=.mk) (m2:=.mk) [.nf [0,1,12,13] []] (hM v0 v1 ((v0.length:Nat):Int)) l0 ?_ ?_
  ·simp(config:=cS)only[go_sem, *]
  ·have k0:=h0
   clear h0 l0
   intro _ v13_1 _ h0 gb0
   unfold bP at h0
   try dsimp only at h0
   exact run
 ·exact run⟩
end Go.Proofs.Qa
