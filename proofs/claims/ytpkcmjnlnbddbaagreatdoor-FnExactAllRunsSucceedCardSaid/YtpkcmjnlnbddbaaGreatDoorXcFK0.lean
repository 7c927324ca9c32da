/- Functions. -/
import Derived.Test.YtpkcmjnlnbddbaaGreatDoorXcX
import Derived.Test.YtpkcmjnlnbddbaaGreatDoorXc37
set_option linter.all false
set_option maxRecDepth 100000
set_option maxHeartbeats 4000000
namespace Go.Proofs.Qc
open Go Tryz
theorem co {hi:Hint}{f:FuncId}{fn:Func}{c:Code}{args:List AV}{h0 h':Hp}{r:AV}(hf:Tryz.prog.funcs[f]?=some fn)(hn:(fn.name == "runtime.NumGoroutine")=false) (hb:fn.body=some c) (h:cm prog mdT T fn.ntmps hi c ⟨rj 0 args,h0,1⟩ (retK T [] fn.results.toList (h0.map (·.1)) (fun r1 h1=>r1=r∧h1=h'))) (hc:kR hi c=true:=by decide +kernel) (hlen:args.length≤fn.ntmps:=by simp):ak prog f args h0 r h':=aw (ra:=[]) (md:=mdT) hT hf hn hb hc hlen h
attribute[go_sem] ntmps53 results53 ntmps117 results117 ntmps51 results51 ntmps52 results52 ntmps9 results9 ntmps14 results14 ntmps127 results127 ntmps57 results57 ntmps128 results128 ntmps58 results58 ntmps12 results12 ntmps124 results124 ntmps274 results274 ntmps122 results122 ntmps275 results275 ntmps217 results217 ntmps218 results218 ntmps121 results121 ntmps219 results219 ntmps220 results220 ntmps221 results221 ntmps222 results222 ntmps69 results69 ntmps136 results136 ntmps94 results94 ntmps273 results273 ntmps255 results255 ntmps187 results187 ntmps149 results149 ntmps299 results299 ntmps278 results278 ntmps300 results300 ntmps119 results119 ntmps256 results256 ntmps279 results279 ntmps280 results280 ntmps325 results325 ntmps298 results298 ntmps272 results272 ntmps214 results214 ntmps120 results120 ntmps180 results180 ntmps181 results181 ntmps232 results232 ntmps254 results254 ntmps295 results295 ntmps233 results233 ntmps150 results150 ntmps139 results139 ntmps68 results68 ntmps199 results199 ntmps123 results123 ntmps125 results125 ntmps200 results200 ntmps56 results56 ntmps11 results11 ntmps19 results19 ntmps176 results176 ntmps172 results172 ntmps223 results223 ntmps142 results142 ntmps103 results103 ntmps224 results224
instance k53 {a:List Int} {left:Int}:Ctr (ng a left) (fun (res:Int)=>ak prog 53 [.sl (ab eI a),.lit (.int .i64 left)] [] (.lit (.int .i64 res)) []):=⟨by
 intro res h0
 refine co (hi:=hi00) func53 rfl rfl ?_
 unfold ng at h0
 exact run⟩
instance k117 {a:GNode} {left:Int}:Ctr (nh a left) (fun (res:Int)=>ak prog 117 [.agg (GNode.encS a),.lit (.int .i64 left)] [] (.lit (.int .i64 res)) []):=⟨by
 intro res h0
 refine co (hi:=hi00) func117 rfl rfl ?_
 unfold nh at h0
 exact run⟩
def rm (a:List GNode):(Int × Int)→St
 | (b,i)=>⟨[(0,.sl (ab GNode.encS a)),(1,.lit (.int .i64 b)),(5,.lit (.int .i64 i))],[],2⟩
attribute[go_sem] rm
instance k51 {a:List GNode} {left:Int}:Ctr (mg a left) (fun (res:Int)=>ak prog 51 [.sl (ab GNode.encS a),.lit (.int .i64 left)] [] (.lit (.int .i64 res)) []):=⟨by
 intro res h0
 refine co (hi:=hi00) func51 rfl rfl ?_
 unfold mg at h0
 obtain⟨_,h0⟩|⟨_,h0⟩:=itP h0
 ·exact run
 ·obtain⟨q03,l0,h0⟩:=ae h0
  simp(config:=cS)only[go_sem, *]
  refine ah (m1:=.mk) (m2:=.mk) [.nf [0,1,5] []] (rm a) l0 ?_ ?_
  ·simp(config:=cS)only[go_sem, *]
  ·have k0:=h0
   clear h0 l0
   intro _ s0 _ h0 gb0
   obtain⟨left_1,i_1⟩:=s0
   unfold jl at h0
   try dsimp only at h0
   exact run⟩
instance k52 {a:List GTie} {left:Int}:Ctr (ni a left) (fun (res:Int)=>ak prog 52 [.sl (ab GTie.enc a),.lit (.int .i64 left)] [] (.lit (.int .i64 res)) []):=⟨by
 intro res h0
 refine co (hi:=hi00) func52 rfl rfl ?_
 unfold ni at h0
 exact run⟩
instance k9 {a:GShow} {left:Int}:Ctr (nj a left) (fun (res:Int)=>ak prog 9 [.agg (GShow.encS a),.lit (.int .i64 left)] [] (.lit (.int .i64 res)) []):=⟨by
 intro res h0
 refine co (hi:=hi00) func9 rfl rfl ?_
 unfold nj at h0
 exact run⟩
def so (a:List Int):(Int × (List Int))→St
 | (i,b)=>⟨[(0,.sl (ab eI a)),(3,.ref 448 1 0 b.length),(4,.lit (.int .i64 i))],[(448,1,.row true (ab eI b))],2⟩
attribute[go_sem] so
instance k14 {a:List Int}:Ctr (nk a) (fun (res:List Int)=>ak prog 14 [.sl (ab eI a)] [] (.ref 20000 1 0 res.length) [(20000,1,.row true (ab eI res))]):=⟨by
 intro res h0
 refine aw (ra:=[.home 2]) (md:=mdT) hT (hi:=hi00) func14 rfl rfl (by decide +kernel) (by simp) ?_
 unfold nk at h0
 obtain⟨_,h0⟩:=ckP h0
 obtain⟨_,h0⟩:=ckP h0
 obtain⟨q03,l0,h0⟩:=ae h0
 simp(config:=cS)only[go_sem, *]
 refine ah (m1:=.mk) (m2:=.mk) [.nf [0,3,4] [448]] (so a) l0 ?_ ?_
 ·simp(config:=cS)only[go_sem, *]
 ·have k0:=h0
  clear h0 l0
  intro _ s0 _ h0 gb0
  obtain⟨i_1,out_1⟩:=s0
  unfold kd at h0
  try dsimp only at h0
  exact run⟩
instance k127 {a:GNode}:Ctr (nm a) (fun (res:GNode)=>ak prog 127 [.agg (GNode.encS a)] [] (.agg [.lit (.string res.name),.ref 20000 1 0 res.label.length,.lit (.int .i64 res.watch)]) [(20000,1,.row true (ab eI res.label))]):=⟨by
 intro res h0
 refine aw (ra:=[.homeCell 128 1]) (md:=mdT) hT (hi:=hi00) func127 rfl rfl (by decide +kernel) (by simp) ?_
 unfold nm at h0
 exact run⟩
def rn (a:List GNode):(Int × (List GNode))→St
 | (i,b)=>⟨[(0,.sl (ab GNode.encS a)),(3,.ref 448 1 0 b.length),(4,.lit (.int .i64 i))],[(448,1,.row true (ab GNode.encO b))],2⟩
attribute[go_sem] rn
instance k57 {a:List GNode}:Ctr (mh a) (fun (res:List GNode)=>ak prog 57 [.sl (ab GNode.encS a)] [] (.ref 20000 1 0 res.length) [(20000,1,.row true (ab GNode.encO res))]):=⟨by
 intro res h0
 refine aw (ra:=[.home 2]) (md:=mdT) hT (hi:=hi00) func57 rfl rfl (by decide +kernel) (by simp) ?_
 unfold mh at h0
 obtain⟨_,h0⟩:=ckP h0
 obtain⟨_,h0⟩:=ckP h0
 obtain⟨q04,l0,h0⟩:=ae h0
 simp(config:=cS)only[go_sem, *]
 refine ah (m1:=.mk) (m2:=.mk) [.nf [0,3,4] [448]] (rn a) l0 ?_ ?_
 ·simp(config:=cS)only[go_sem, *]
 ·have k0:=h0
  clear h0 l0
  intro _ s0 _ h0 gb0
  obtain⟨i_1,out_1⟩:=s0
  unfold jm at h0
  try dsimp only at h0
  exact run⟩
instance k128 {a:GTie}:Ctr (rU a) (fun (res:GTie)=>ak prog 128 [.agg (GTie.enc a)] [] (.agg (GTie.enc res)) []):=⟨by
 intro res h0
 refine co (hi:=hi00) func128 rfl rfl ?_
 unfold rU at h0
 exact run⟩
def sp (a:List GTie):(Int × (List GTie))→St
 | (i,b)=>⟨[(0,.sl (ab GTie.enc a)),(3,.ref 448 1 0 b.length),(4,.lit (.int .i64 i))],[(448,1,.row true (ab GTie.enc b))],2⟩
attribute[go_sem] sp
instance k58 {a:List GTie}:Ctr (nn a) (fun (res:List GTie)=>ak prog 58 [.sl (ab GTie.enc a)] [] (.ref 20000 1 0 res.length) [(20000,1,.row true (ab GTie.enc res))]):=⟨by
 intro res h0
 refine aw (ra:=[.home 2]) (md:=mdT) hT (hi:=hi00) func58 rfl rfl (by decide +kernel) (by simp) ?_
 unfold nn at h0
 obtain⟨_,h0⟩:=ckP h0
 obtain⟨_,h0⟩:=ckP h0
 obtain⟨q04,l0,h0⟩:=ae h0
 simp(config:=cS)only[go_sem, *]
 refine ah (m1:=.mk) (m2:=.mk) [.nf [0,3,4] [448]] (sp a) l0 ?_ ?_
 ·simp(config:=cS)only[go_sem, *]
 ·have k0:=h0
  clear h0 l0
  intro _ s0 _ h0 gb0
  obtain⟨i_1,out_1⟩:=s0
  unfold ke at h0
  try dsimp only at h0
  exact run⟩
instance k12 {a:GShow}:Ctr (jj a) (fun (res:GShow)=>ak prog 12 [.agg (GShow.encS a)] [] (.agg [.ref 20000 1 0 res.nodes.length,.ref 20001 1 0 res.ties.length,.lit (.int .i64 res.horizon)]) [(20000,1,.row true (ab GNode.encO res.nodes)),(20001,1,.row true (ab GTie.enc res.ties))]):=⟨by
 intro res h0
 refine aw (ra:=[.homeCell 128 0,.homeCell 128 1]) (md:=mdT) hT (hi:=hi00) func12 rfl rfl (by decide +kernel) (by simp) ?_
 unfold jj at h0
 exact run⟩
instance k124 {n:Int} {lo:Int} {hi:Int}:Ctr (aU n lo hi) (fun (res:Bool)=>ak prog 124 [.lit (.int .i64 n),.lit (.int .i64 lo),.lit (.int .i64 hi)] [] (.lit (.bool res)) []):=⟨by
 intro res h0
 refine co (hi:=hi00) func124 rfl rfl ?_
 unfold aU at h0
 exact run⟩
def sq (s:ByteArray)(i:Int):St:=⟨[(0,.lit (.string s)),(3,.lit (.int .i64 i))],[],2⟩
attribute[go_sem] sq
instance k274 {s:ByteArray}:Ctr (np s) (fun (res:Bool)=>ak prog 274 [.lit (.string s)] [] (.lit (.bool res)) []):=⟨by
 intro res h0
 refine co (hi:=hi00) func274 rfl rfl ?_
 unfold np at h0
 obtain⟨q03,l0,h0⟩:=ae h0
 simp(config:=cS)only[go_sem, *]
 refine ah (m1:=.mk) (m2:=.mk) [.nf [0,3] []] (sq s) l0 ?_ ?_
 ·simp(config:=cS)only[go_sem, *]
 ·have k0:=h0
  clear h0 l0
  intro _ i_1 _ h0 gb0
  unfold ij at h0
  try dsimp only at h0
  exact run⟩
instance k122 {n:Int}:Ctr (de n) (fun (res:Int)=>ak prog 122 [.lit (.int .i64 n)] [] (.lit (.int .i64 res)) []):=⟨by
 intro res h0
 refine co (hi:=hi00) func122 rfl rfl ?_
 unfold de at h0
 exact run⟩
def ro (l:List Int)(a b:Int):St:=⟨[(0,.sl (ab eI l)),(5,.sl (ab eI l)),(6,.lit (.int .i64 a)),(7,.lit (.int .i64 b))],[],2⟩
attribute[go_sem] ro
instance k275 {l:List Int}:Ctr (fg l) (fun (res:Bool)=>ak prog 275 [.sl (ab eI l)] [] (.lit (.bool res)) []):=⟨by
 intro res h0
 refine co (hi:=hi00) func275 rfl rfl ?_
 unfold fg at h0
 obtain⟨q06,l0,h0⟩:=ae h0
 simp(config:=cS)only[go_sem, *]
 refine ah (m1:=.mk) (m2:=.mk) [.nf [0,5,6,7] []] (ro l ((l.length:Nat):Int)) l0 ?_ ?_
 ·simp(config:=cS)only[go_sem, *]
 ·have k0:=h0
  clear h0 l0
  intro _ v7_1 _ h0 gb0
  unfold gj at h0
  try dsimp only at h0
  exact run⟩
instance k217 {n:GNode}:Ctr (nq n) (fun (res:Bool)=>ak prog 217 [.agg (GNode.encS n)] [] (.lit (.bool res)) []):=⟨by
 intro res h0
 refine co (hi:=hi00) func217 rfl rfl ?_
 unfold nq at h0
 exact run⟩
def px (a:ByteArray)(c:List GNode)(d b:Int):St:=⟨[(1,.lit (.string a)),(8,.sl (ab GNode.encS c)),(9,.lit (.int .i64 d)),(10,.lit (.int .i64 b))],[],2⟩
attribute[go_sem] px
instance k218 {s:GShow} {name:ByteArray}:Ctr (kf s name) (fun (res:Int)=>ak prog 218 [.agg (GShow.encS s),.lit (.string name)] [] (.lit (.int .i64 res)) []):=⟨by
 intro res h0
 refine co (hi:=hi00) func218 rfl rfl ?_
 unfold kf at h0
 obtain⟨q02,l0,h0⟩:=ae h0
 simp(config:=cS)only[go_sem, *]
 refine ah (m1:=.mk) (m2:=.mk) [.nf [1,8,9,10] []] (px name s.nodes ((s.nodes.length:Nat):Int)) l0 ?_ ?_
 ·simp(config:=cS)only[go_sem, *]
 ·have k0:=h0
  clear h0 l0
  intro _ v10_1 _ h0 gb0
  unfold eD at h0
  try dsimp only at h0
  exact run⟩
def pf (p:Int)(b:List GNode)(c a:Int):St:=⟨[(1,.lit (.int .i64 p)),(8,.sl (ab GNode.encS b)),(9,.lit (.int .i64 c)),(10,.lit (.int .i64 a))],[],2⟩
attribute[go_sem] pf
instance k121 {s:GShow} {p:Int}:Ctr (bg s p) (fun (res:Int)=>ak prog 121 [.agg (GShow.encS s),.lit (.int .i64 p)] [] (.lit (.int .i64 res)) []):=⟨by
 intro res h0
 refine co (hi:=hi00) func121 rfl rfl ?_
 unfold bg at h0
 obtain⟨q02,l0,h0⟩:=ae h0
 simp(config:=cS)only[go_sem, *]
 refine ah (m1:=.mk) (m2:=.mk) [.nf [1,8,9,10] []] (pf p s.nodes ((s.nodes.length:Nat):Int)) l0 ?_ ?_
 ·simp(config:=cS)only[go_sem, *]
 ·have k0:=h0
  clear h0 l0
  intro _ v10_1 _ h0 gb0
  unfold dV at h0
  try dsimp only at h0
  exact run⟩
def sr (n:Int)(a:List Int)(b c:Int):St:=⟨[(1,.lit (.int .i64 n)),(7,.sl (ab eI a)),(8,.lit (.int .i64 b)),(9,.lit (.int .i64 c))],[],2⟩
attribute[go_sem] sr
instance k219 {l:List Int} {n:Int}:Ctr (cD l n) (fun (res:Bool)=>ak prog 219 [.sl (ab eI l),.lit (.int .i64 n)] [] (.lit (.bool res)) []):=⟨by
 intro res h0
 refine co (hi:=hi00) func219 rfl rfl ?_
 unfold cD at h0
 obtain⟨q02,l0,h0⟩:=ae h0
 simp(config:=cS)only[go_sem, *]
 refine ah (m1:=.mk) (m2:=.mk) [.nf [1,7,8,9] []] (sr n l ((l.length:Nat):Int)) l0 ?_ ?_
 ·simp(config:=cS)only[go_sem, *]
 ·have k0:=h0
  clear h0 l0
  intro _ v9_1 _ h0 gb0
  unfold ik at h0
  try dsimp only at h0
  exact run⟩
def nQ (a b:List Int)(c d:Int):St:=⟨[(0,.sl (ab eI a)),(15,.sl (ab eI b)),(16,.lit (.int .i64 c)),(17,.lit (.int .i64 d))],[],2⟩
attribute[go_sem] nQ
instance k220 {a:List Int} {b:List Int}:Ctr (eE a b) (fun (res:Bool)=>ak prog 220 [.sl (ab eI a),.sl (ab eI b)] [] (.lit (.bool res)) []):=⟨by
 intro res h0
 refine co (hi:=hi00) func220 rfl rfl ?_
 unfold eE at h0
 obtain⟨r01,g0,h0⟩:=ae h0
 simp(config:=cS)only[go_sem, *]
 have g0:=ctr g0
 refine ag g0 ?_
 obtain⟨_,h0⟩|⟨_,h0⟩:=itB h0
 ·obtain⟨r02,g0,h0⟩:=ae h0
  simp(config:=cS)only[go_sem, *]
  have g0:=ctr g0
  refine ag g0 ?_
  obtain⟨_,h0⟩|⟨_,h0⟩:=itB h0
  ·obtain⟨q05,l0,h0⟩:=ae h0
   simp(config:=cS)only[go_sem, *]
   refine ah (m1:=.mk) (m2:=.mk) [.nf [0,15,16,17] []] (nQ a b ((b.length:Nat):Int)) l0 ?_ ?_
   ·simp(config:=cS)only[go_sem, *]
   ·have k0:=h0
    clear h0 l0
    intro _ v17_1 _ h0 gb0
    unfold df at h0
    try dsimp only at h0
    exact run
  ·exact run
 ·exact run⟩
def qr (a:List GNode)(b:Int)(c:List GTie)(d e:Int):St:=⟨[(1,.ptr 64 1 0 0),(33,.sl (ab GNode.encS a)),(34,.lit (.int .i64 b)),(35,.lit (.int .i64 e))],[(64,1,.var [.sl (ab GNode.encS a),.sl (ab GTie.enc c),.lit (.int .i64 d)])],2⟩
attribute[go_sem] qr
def qt (a:List GNode)(c d:Int)(b:List Int)(e:Int)(f:List GTie)(g:Int)(h:ByteArray)(i j:Int):St:=⟨[(1,.ptr 64 1 0 0),(6,.ptr 384 1 0 0),(66,.sl (ab GNode.encS a)),(67,.lit (.int .i64 c)),(68,.lit (.int .i64 d)),(73,.sl (ab eI b)),(74,.lit (.int .i64 e)),(75,.lit (.int .i64 j))],[(64,1,.var [.sl (ab GNode.encS a),.sl (ab GTie.enc f),.lit (.int .i64 g)]),(384,1,.var [.lit (.string h),.sl (ab eI b),.lit (.int .i64 i)])],2⟩
attribute[go_sem] qt
def qu (a:List GNode)(b:Int)(c:List GTie)(d e:Int):St:=⟨[(1,.ptr 64 1 0 0),(66,.sl (ab GNode.encS a)),(67,.lit (.int .i64 b)),(68,.lit (.int .i64 e))],[(64,1,.var [.sl (ab GNode.encS a),.sl (ab GTie.enc c),.lit (.int .i64 d)])],2⟩
attribute[go_sem] qu
@[go_sem] def hi140_16:DT:=.r2 0 35 .nil
@[go_sem] def hi140_15:DT:=.i1 0 (.i2 1 (.i0 2 [0] (.i2 3 (.i2 4 .nil))))
def Dc:Hint where
 acts:=fun _=>[]
 draws:=fun
  | 15=>⟨hi140_15,[[],[],[1],[0,1,2],[0,1,2,3]],.range 5⟩
  | 16=>⟨hi140_16,[[],[0],[0,1],[0,1,2],[0,1,2,3],[0,1,2],.range 6,.range 7,.range 8,[0,1,2],.range 10,.range 11,.range 12,.range 13,.range 14,.range 13,.range 16,.range 17,.range 18,.range 13,[0,1,2,3,4,5,6,7,8,9,10,11,12,19],.range 21,.range 22,.range 23,.range 24,.range 25,.range 24,[0,1,2,3,4,5,6,7,8,9,10,11,12,13,14,15,16,17,18,19,20,21,22,23,26],.range 24,[0,1,2,3,4,5,6,7,8,9,10,11,12,13,14,15,16,17,18,19,20,21,22,23,26,27,28],[0,1,2,3,4,5,6,7,8,9,10,11,12,13,14,15,16,17,18,19,20,21,22,23,26,27,28,29],[0,1,2,3,4,5,6,7,8,9,10,11,12,13,14,15,16,17,18,19,20,21,22,23,26,27,28,29,30],.range 32,.range 33,.range 34],.range 35⟩
  | _=>⟨.nil,[],[]⟩
theorem Sq (i:Nat):Dc.acts i=[]:=rfl
theorem Sr (i:Nat):Dc.views i=none:=rfl
attribute[go_sem] Sq Sr ntmps140 results140
@[go_sem] theorem VZ:(Dc.draws 15).order=hi140_15:=rfl
@[go_sem] theorem Wa:(Dc.draws 16).order=hi140_16:=rfl
instance k140 {s:GShow}:Ctr (kT s) (fun (res:Bool)=>ak prog 140 [.agg (GShow.encS s)] [] (.lit (.bool res)) []):=⟨by
 intro res h0
 refine co (hi:=Dc) func140 rfl rfl ?_
 unfold kT at h0
 obtain⟨r01,g0,h0⟩:=ae h0
 simp(config:=cS)only[go_sem, *]
 have g0:=ctr g0
 refine ag g0 ?_
 obtain⟨_,h0⟩|⟨_,h0⟩:=itB h0
 ·obtain⟨x02,g1,h0⟩:=ae h0
  have:=cU (k:=0) g1
  obtain⟨_,h0⟩|⟨_,h0⟩:=itP h0
  ·exact run
  ·obtain⟨_,h0⟩|⟨_,h0⟩:=itP h0
   ·obtain⟨q17,l0,h0⟩:=ae h0
    simp(config:=cS)only[go_sem, *]
    refine ah (m1:=.mk) (m2:=.mk) [.nf [1,33,34,35] [64]] (qr s.nodes ((s.nodes.length:Nat):Int) s.ties s.horizon) l0 ?_ ?_
    ·simp(config:=cS)only[go_sem, *]
    ·have k0:=h0
     clear h0 l0
     intro _ v35_1 _ h0 gb0
     unfold fh at h0
     try dsimp only at h0
     obtain⟨_,h0⟩|⟨_,h0⟩:=itP h0
     ·exact run
     ·cases h0
      obtain rfl:=(aI gb0).symm
      clear gb0
      have h0:=k0
      clear k0
      try dsimp only at h0
      obtain⟨q16,l0,h0⟩:=ae h0
      simp(config:=cS)only[go_sem, *]
      refine ah (m1:=.mk) (m2:=.mk) [.nf [1,66,67,68] [64]] (qu s.nodes ((s.nodes.length:Nat):Int) s.ties s.horizon) l0 ?_ ?_
      ·simp(config:=cS)only[go_sem, *]
      ·have k0:=h0
       clear h0 l0
       intro _ v68_2 _ h0 gb0
       unfold fj at h0
       try dsimp only at h0
       obtain⟨_,h0⟩|⟨_,h0⟩:=itP h0
       ·obtain⟨x07,_,_,_,h0⟩:=gtI h0
        obtain⟨q15,l0,h0⟩:=ae h0
        simp(config:=cS)only[go_sem, *]
        refine ah (m1:=.mk) (m2:=.mk) [.nf [1,6,66,67,68,73,74,75] [64,384]] (qt s.nodes ((s.nodes.length:Nat):Int) v68_2 x07.label ((x07.label.length:Nat):Int) s.ties s.horizon x07.name x07.watch) l0 ?_ ?_
        ·simp(config:=cS)only[go_sem, *]
        ·have k0:=h0
         clear h0 l0
         intro _ v75_3 _ h0 gb0
         unfold fi at h0
         try dsimp only at h0
         exact run
       ·exact run
   ·exact run
 ·exact run⟩
def rp (b a:List Int)(c d:Int):St:=⟨[(1,.sl (ab eI b)),(12,.sl (ab eI a)),(13,.lit (.int .i64 c)),(14,.lit (.int .i64 d))],[],2⟩
attribute[go_sem] rp
instance k221 {a:List Int} {b:List Int}:Ctr (fk a b) (fun (res:Bool)=>ak prog 221 [.sl (ab eI a),.sl (ab eI b)] [] (.lit (.bool res)) []):=⟨by
 intro res h0
 refine co (hi:=hi00) func221 rfl rfl ?_
 unfold fk at h0
 obtain⟨_,h0⟩|⟨_,h0⟩:=itP h0
 ·obtain⟨q03,l0,h0⟩:=ae h0
  simp(config:=cS)only[go_sem, *]
  refine ah (m1:=.mk) (m2:=.mk) [.nf [1,12,13,14] []] (rp b a ((a.length:Nat):Int)) l0 ?_ ?_
  ·simp(config:=cS)only[go_sem, *]
  ·have k0:=h0
   clear h0 l0
   intro _ v14_1 _ h0 gb0
   unfold gk at h0
   try dsimp only at h0
   exact run
 ·exact run⟩
def rq (a:Int)(c:List GTie)(d b:Int):St:=⟨[(1,.lit (.int .i64 a)),(8,.sl (ab GTie.enc c)),(9,.lit (.int .i64 d)),(10,.lit (.int .i64 b))],[],2⟩
attribute[go_sem] rq
instance k222 {s:GShow} {node:Int}:Ctr (jX s node) (fun (res:Int)=>ak prog 222 [.agg (GShow.encS s),.lit (.int .i64 node)] [] (.lit (.int .i64 res)) []):=⟨by
 intro res h0
 refine co (hi:=hi00) func222 rfl rfl ?_
 unfold jX at h0
 obtain⟨q02,l0,h0⟩:=ae h0
 simp(config:=cS)only[go_sem, *]
 refine ah (m1:=.mk) (m2:=.mk) [.nf [1,8,9,10] []] (rq node s.ties ((s.ties.length:Nat):Int)) l0 ?_ ?_
 ·simp(config:=cS)only[go_sem, *]
 ·have k0:=h0
  clear h0 l0
  intro _ v10_1 _ h0 gb0
  unfold gm at h0
  try dsimp only at h0
  exact run⟩
@[go_sem] def hi141_5:DT:=.r2 0 43 (.i2 44 (.i2 43 (.r2 45 4 .nil)))
def GT:Hint where
 acts:=fun _=>[]
 draws:=fun
  | 5=>⟨hi141_5,[[],[0],[0,1],[0,1,2],[0,1,2,3],.range 5,.range 6,.range 7,.range 8,.range 9,.range 10,.range 11,.range 12,.range 13,.range 14,.range 13,[0,1,2,3,4,5,6,7,8,9,10,11,12,15],.range 17,.range 18,.range 19,.range 20,.range 21,.range 22,.range 23,.range 24,.range 23,[0,1,2,3,4,5,6,7,8,9,10,11,12,13,14,15,16,17,18,19,20,21,22,25],.range 27,.range 28,.range 29,.range 23,[0,1,2,3,4,5,6,7,8,9,10,11,12,13,14,15,16,17,18,19,20,21,22,30],.range 23,[0,1,2,3,4,5,6,7,8,9,10,11,12,13,14,15,16,17,18,19,20,21,22,32],[0,1,2,3,4,5,6,7,8,9,10,11,12,13,14,15,16,17,18,19,20,21,22,30,31,32,33],[0,1,2,3,4,5,6,7,8,9,10,11,12,13,14,15,16,17,18,19,20,21,22,30,31,32,33,34],[0,1,2,3,4,5,6,7,8,9,10,11,12,13,14,15,16,17,18,19,20,21,22,30,31,32,33,34,35],.range 37,.range 38,.range 39,.range 40,.range 40,[0,1,2,3,4,5,6,7,8,9,10,11,12,13,14,15,16,17,18,19,20,21,22,23,24,25,26,27,28,29,30,31,32,33,34,35,36,37,38,39,41],.range 43,.range 40,.range 45,.range 46,.range 47,.range 48],.range 49⟩
  | _=>⟨.nil,[],[]⟩
theorem Ss (i:Nat):GT.acts i=[]:=rfl
theorem Su (i:Nat):GT.views i=none:=rfl
attribute[go_sem] Ss Su ntmps141 results141
@[go_sem] theorem WT:(GT.draws 5).order=hi141_5:=rfl
instance k141 {s:GShow} {i:Int}:Ctr (nr s i) (fun (res:Bool)=>ak prog 141 [.agg (GShow.encS s),.lit (.int .i64 i)] [] (.lit (.bool res)) []):=⟨by
 intro res h0
 refine co (hi:=GT) func141 rfl rfl ?_
 unfold nr at h0
 exact run⟩
def su (a:Int)(b:List GNode)(c:List GTie)(d e:Int):St:=⟨[(1,.ptr 64 1 0 0),(21,.lit (.int .i64 a)),(22,.lit (.int .i64 e))],[(64,1,.var [.sl (ab GNode.encS b),.sl (ab GTie.enc c),.lit (.int .i64 d)])],2⟩
attribute[go_sem] su
instance k69 {s:GShow}:Ctr (cE s) (fun (res:Bool)=>ak prog 69 [.agg (GShow.encS s)] [] (.lit (.bool res)) []):=⟨by
 intro res h0
 refine co (hi:=hi00) func69 rfl rfl ?_
 unfold cE at h0
 obtain⟨r01,g0,h0⟩:=ae h0
 simp(config:=cS)only[go_sem, *]
 have g0:=ctr g0
 refine ag g0 ?_
 obtain⟨_,h0⟩|⟨_,h0⟩:=itB h0
 ·obtain⟨_,h0⟩|⟨_,h0⟩:=itP h0
  ·exact run
  ·obtain⟨r02,g0,h0⟩:=ae h0
   simp(config:=cS)only[go_sem, *]
   have g0:=ctr g0
   refine ag g0 ?_
   obtain⟨_,h0⟩|⟨_,h0⟩:=itB h0
   ·obtain⟨q04,l0,h0⟩:=ae h0
    simp(config:=cS)only[go_sem, *]
    refine ah (m1:=.mk) (m2:=.mk) [.nf [1,21,22] [64]] (su ((s.ties.length:Nat):Int) s.nodes s.ties s.horizon) l0 ?_ ?_
    ·simp(config:=cS)only[go_sem, *]
    ·have k0:=h0
     clear h0 l0
     intro _ v22_1 _ h0 gb0
     unfold il at h0
     try dsimp only at h0
     exact run
   ·exact run
 ·exact run⟩
def rr (c:List GTie)(d:Int):(Int × (List Int))→St
 | (b,a)=>⟨[(3,.ref 384 1 0 a.length),(8,.sl (ab GTie.enc c)),(9,.lit (.int .i64 d)),(10,.lit (.int .i64 b))],[(384,1,.row true (ab eI a))],2⟩
attribute[go_sem] rr
instance k136 {s:GShow}:Ctr (fm s) (fun (res:List Int)=>ak prog 136 [.agg (GShow.encS s)] [] (.ref 20000 1 0 res.length) [(20000,1,.row true (ab eI res))]):=⟨by
 intro res h0
 refine aw (ra:=[.home 2]) (md:=mdT) hT (hi:=hi00) func136 rfl rfl (by decide +kernel) (by simp) ?_
 unfold fm at h0
 obtain⟨q02,l0,h0⟩:=ae h0
 simp(config:=cS)only[go_sem, *]
 refine ah (m1:=.mk) (m2:=.mk) [.nf [3,8,9,10] [384]] (rr s.ties ((s.ties.length:Nat):Int)) l0 ?_ ?_
 ·simp(config:=cS)only[go_sem, *]
 ·have k0:=h0
  clear h0 l0
  intro _ s0 _ h0 gb0
  obtain⟨v10_1,out_1⟩:=s0
  unfold jn at h0
  try dsimp only at h0
  exact run⟩
def nR (b:Int)(c:List GNode)(d:List GTie)(e:Int)(a:List Int):(Int × Int)→St
 | (n,f)=>⟨[(1,.ptr 64 1 0 0),(3,.lit (.int .i64 n)),(11,.ref 704 1 0 a.length),(12,.lit (.int .i64 b)),(13,.lit (.int .i64 f))],[(64,1,.var [.sl (ab GNode.encS c),.sl (ab GTie.enc d),.lit (.int .i64 e)]),(704,1,.row true (ab eI a))],2⟩
attribute[go_sem] nR
def nS (a:List GNode)(b:List GTie)(c:Int):(Int × Int)→St
 | (n,p)=>⟨[(1,.ptr 64 1 0 0),(3,.lit (.int .i64 n)),(6,.lit (.int .i64 p))],[(64,1,.var [.sl (ab GNode.encS a),.sl (ab GTie.enc b),.lit (.int .i64 c)])],2⟩
attribute[go_sem] nS
@[go_sem] def hi66_7:DT:=.r2 0 17 .nil
def hi66:Hint where
 acts:=fun _=>[]
 draws:=fun
  | 7=>⟨hi66_7,[[],[],[1],[],[1,2,3],[1,2,3,4],[1,2,3,4,5],[],[7],[],[7,8,9],[7,8,9,10],[7,8,9,10,11],[1,2,3,4,5,6,7,8,9,10,11,12],[1,2,3,4,5,6,7,8,9,10,11,12,13],.range 15,.range 16],.range 17⟩
  | _=>⟨.nil,[],[]⟩
theorem US (i:Nat):hi66.acts i=[]:=rfl
theorem UT (i:Nat):hi66.views i=none:=rfl
attribute[go_sem] US UT ntmps66 results66
@[go_sem] theorem XV:(hi66.draws 7).order=hi66_7:=rfl
instance k66 {s:GShow}:Ctr (bp s) (fun (res:Int)=>ak prog 66 [.agg (GShow.encS s)] [] (.lit (.int .i64 res)) []):=⟨by
 intro res h0
 refine co (hi:=hi66) func66 rfl rfl ?_
 unfold bp at h0
 obtain⟨r01,g0,h0⟩:=ae h0
 simp(config:=cS)only[go_sem, *]
 have g0:=ctr g0
 refine ag g0 ?_
 obtain⟨_,h0⟩|⟨_,h0⟩:=itB h0
 ·obtain⟨r02,g0,h0⟩:=ae h0
  simp(config:=cS)only[go_sem, *]
  have g0:=ctr g0
  refine ag g0 ?_
  obtain⟨q07,l0,h0⟩:=ae h0
  simp(config:=cS)only[go_sem, *]
  refine ah (m1:=.mk) (m2:=.mk) [.nf [1,3,11,12,13] [64,704]] (nR ((r02.length:Nat):Int) s.nodes s.ties s.horizon r02) l0 ?_ ?_
  ·simp(config:=cS)only[go_sem, *]
  ·have k0:=h0
   clear h0 l0
   intro _ s0 _ h0 gb0
   obtain⟨n_1,v13_1⟩:=s0
   unfold bW at h0
   try dsimp only at h0
   obtain⟨_,h0⟩|⟨_,h0⟩:=itP h0
   ·exact run
   ·cases h0
    obtain rfl:=(aI gb0).symm
    clear gb0
    have h0:=k0
    clear k0
    try dsimp only at h0
    obtain⟨q06,l0,h0⟩:=ae h0
    simp(config:=cS)only[go_sem, *]
    refine ah (m1:=.mk) (m2:=.mk) [.nf [1,3,6] [64]] (nS s.nodes s.ties s.horizon) l0 ?_ ?_
    ·simp(config:=cS)only[go_sem, *]
    ·have k0:=h0
     clear h0 l0
     intro _ s0 _ h0 gb0
     obtain⟨n_2,p_2⟩:=s0
     unfold cv at h0
     try dsimp only at h0
     exact run
 ·exact run⟩
def qv (c:Int)(d:List GNode)(e:List GTie)(f:Int)(b:List Int):(Int × Int × (List Int))→St
 | (n,g,a)=>⟨[(1,.lit (.int .i64 n)),(2,.ptr 128 1 0 0),(4,.ptr 256 1 0 0),(6,.ptr 384 1 0 0),(21,.ref 1344 1 0 b.length),(22,.lit (.int .i64 c)),(23,.lit (.int .i64 g))],[(128,1,.var [.sl (ab GNode.encS d),.sl (ab GTie.enc e),.lit (.int .i64 f)]),(256,1,.var [.lit (.slice none 0 0),.lit (.slice none 0 0)]),(384,1,.var [.ref 100024576 1 0 a.length,.lit (.slice none 0 0)]),(100024576,1,.row true (ab eI a)),(1344,1,.row true (ab eI b))],2⟩
attribute[go_sem] qv
def qw (c:List GNode)(d:List GTie)(e:Int)(a:List Int):(Int × Int × (List Int))→St
 | (n,p,b)=>⟨[(1,.lit (.int .i64 n)),(2,.ptr 128 1 0 0),(4,.ptr 256 1 0 0),(6,.ptr 384 1 0 0),(10,.lit (.int .i64 p))],[(128,1,.var [.sl (ab GNode.encS c),.sl (ab GTie.enc d),.lit (.int .i64 e)]),(256,1,.var [.lit (.slice none 0 0),.lit (.slice none 0 0)]),(384,1,.var [.ref 100024576 1 0 a.length,.ref 100024577 1 0 b.length]),(100024576,1,.row true (ab eI a)),(100024577,1,.row true (ab eI b))],2⟩
attribute[go_sem] qw
@[go_sem] def hi67_8:DT:=.i1 0 (.i1 1 (.r2 2 10 (.i0 12 [0,1] (.r2 13 3 .nil))))
@[go_sem] def hi67_7:DT:=.r2 0 15 .nil
def hi67:Hint where
 acts:=fun _=>[]
 draws:=fun
  | 7=>⟨hi67_7,[[],[0],[],[0,1,2],[0,1,2,3],.range 5,[],[6],[],[6,7,8],[6,7,8,9],[6,7,8,9,10],.range 12,.range 13,.range 14],.range 15⟩
  | 8=>⟨hi67_8,[[],[0],[],[2],[],[2,3,4],[2,3,4,5],[2,3,4,5,6],[],[],[8,9],[2,3,4,5,6,7,8,9,10],[2,3,4,5,6,7,8,9,10,11],.range 13,.range 14,.range 15],.range 16⟩
  | _=>⟨.nil,[],[]⟩
theorem UU (i:Nat):hi67.acts i=[]:=rfl
theorem UV (i:Nat):hi67.views i=none:=rfl
attribute[go_sem] UU UV ntmps67 results67
@[go_sem] theorem XW:(hi67.draws 7).order=hi67_7:=rfl
@[go_sem] theorem XX:(hi67.draws 8).order=hi67_8:=rfl
instance k67 {s:GShow} {n:Int}:Ctr (cL s n) (fun (res:GChoice × Bool)=>ak prog 67 [.agg (GShow.encS s),.lit (.int .i64 n)] [] (.tup [.agg [.ref 20000 1 0 res.1.lengths.length,.ref 20001 1 0 res.1.values.length],.lit (.bool res.2)]) [(20000,1,.row true (ab eI res.1.lengths)),(20001,1,.row true (ab eI res.1.values))]):=⟨by
 intro res h0
 refine aw (ra:=[.homeCell 256 0,.homeCell 256 1]) (md:=mdT) hT (hi:=hi67) func67 rfl rfl (by decide +kernel) (by simp) ?_
 unfold cL at h0
 obtain⟨r01,g0,h0⟩:=ae h0
 simp(config:=cS)only[go_sem, *]
 have g0:=ctr g0
 refine ag g0 ?_
 obtain⟨r02,g0,h0⟩:=ae h0
 simp(config:=cS)only[go_sem, *]
 have g0:=ctr g0
 refine ag g0 ?_
 obtain⟨_,h0⟩|⟨_,h0⟩:=itB h0
 ·obtain⟨r03,g0,h0⟩:=ae h0
  simp(config:=cS)only[go_sem, *]
  have g0:=ctr g0
  refine ag g0 ?_
  obtain⟨q08,l0,h0⟩:=ae h0
  simp(config:=cS)only[go_sem, *]
  refine ah (m1:=.mk) (m2:=.mk) [.homeCell 384 0,.nf [1,2,4,6,21,22,23] [128,256,384,100024576,1344]] (qv ((r03.length:Nat):Int) s.nodes s.ties s.horizon r03) l0 ?_ ?_
  ·simp(config:=cS)only[go_sem, *]
  ·have k0:=h0
   clear h0 l0
   intro _ s0 _ h0 gb0
   obtain⟨n_1,v23_1,h100024576_1⟩:=s0
   unfold dH at h0
   try dsimp only at h0
   obtain⟨_,h0⟩|⟨_,h0⟩:=itP h0
   ·exact run
   ·cases h0
    obtain rfl:=(aI gb0).symm
    clear gb0
    have h0:=k0
    clear k0
    try dsimp only at h0
    obtain⟨q07,l0,h0⟩:=ae h0
    simp(config:=cS)only[go_sem, *]
    refine ah (m1:=.mk) (m2:=.mk) [.homeCell 384 1,.nf [1,2,4,6,10] [128,256,384,100024576,100024577]] (qw s.nodes s.ties s.horizon h100024576_1) l0 ?_ ?_
    ·simp(config:=cS)only[go_sem, *]
    ·have k0:=h0
     clear h0 l0
     intro _ s0 _ h0 gb0
     obtain⟨n_2,p_2,h100024577_2⟩:=s0
     unfold cO at h0
     try dsimp only at h0
     exact run
 ·exact run⟩
def jM (d:List GNode)(e c:Int)(b:List GTie):(Int × (List GNode))→St
 | (f,a)=>⟨[(2,.ptr 128 1 0 0),(3,.ptr 192 1 0 0),(14,.sl (ab GNode.encS d)),(15,.lit (.int .i64 e)),(16,.lit (.int .i64 f))],[(128,1,.var [.lit (.slice none 0 0),.lit (.slice none 0 0),.lit (.int .i64 0)]),(192,1,.var [.ref 100012288 1 0 a.length,.ref 384 1 0 b.length,.lit (.int .i64 c)]),(100012288,1,.row true (ab GNode.encO a)),(384,1,.row true (ab GTie.enc b))],2⟩
attribute[go_sem] jM
@[go_sem] def hi212_5:DT:=.i1 0 (.i1 1 (.i1 2 (.i1 3 (.i1 5 (.i1 6 (.i1 8 (.i1 9 (.i0 4 [0,1,2,3,5,6,8,9] (.i0 7 [0,1,2,3,8,9] (.i2 10 (.i0 11 [0,1] (.r2 12 3 .nil))))))))))))
@[go_sem] def hi212_1:DT:=.i1 1 (.i1 2 (.i1 4 (.i1 5 (.fork (.i0 0 [1,2,4,5] (.fork (.i0 3 [4,5] (.i2 6 (.i0 7 [1,2,4,5] (.i2 8 .nil)))) (.i0 7 [1,2,4,5] (.i0 3 [4,5] (.i2 6 (.i2 8 .nil)))))) (.i0 7 [1,2,4,5] (.i0 0 [1,2,4,5] (.i0 3 [4,5] (.i2 6 (.i2 8 .nil)))))))))
def Dd:Hint where
 acts:=fun _=>[]
 draws:=fun
  | 1=>⟨hi212_1,[[],[],[1],[0,1,2],[],[4],.range 6,[],.range 8],.range 9⟩
  | 5=>⟨hi212_5,[[],[0],[],[2],[],[],[5],[4,5,6],[],[8],[2,3,4,5,6,7,8,9],[2,3,4,5,6,7,8,9,10],.range 12,.range 13,.range 14],.range 15⟩
  | _=>⟨.nil,[],[]⟩
theorem Sv (i:Nat):Dd.acts i=[]:=rfl
theorem Sw (i:Nat):Dd.views i=none:=rfl
attribute[go_sem] Sv Sw ntmps212 results212
@[go_sem] theorem WU:(Dd.draws 1).order=hi212_1:=rfl
@[go_sem] theorem WV:(Dd.draws 5).order=hi212_5:=rfl
instance k212 {s:GShow}:Ctr (jZ s) (fun (res:GShow)=>ak prog 212 [.agg (GShow.encS s)] [] (.agg [.ref 20000 1 0 res.nodes.length,.ref 20001 1 0 res.ties.length,.lit (.int .i64 res.horizon)]) [(20000,1,.row true (ab GNode.encO res.nodes)),(20001,1,.row true (ab GTie.enc res.ties))]):=⟨by
 intro res h0
 refine aw (ra:=[.homeCell 128 0,.homeCell 128 1]) (md:=mdT) hT (hi:=Dd) func212 rfl rfl (by decide +kernel) (by simp) ?_
 unfold jZ at h0
 try simp(config:=cS)only[go_sem, *]
 refine bq ?_ ?_
 ·try simp(config:=cS)only[go_sem, *]
  refine bq ?_ ?_
  ·obtain⟨_,h0⟩:=ckP h0
   obtain⟨_,h0⟩:=ckP h0
   obtain⟨q02,l0,h0⟩:=ae h0
   simp(config:=cS)only[go_sem, *]
   refine ah (m1:=.mk) (m2:=.mk) [.homeCell 192 0,.nf [2,3,14,15,16] [128,192,100012288,384]] (jM s.nodes ((s.nodes.length:Nat):Int) s.horizon s.ties) l0 ?_ ?_
   ·simp(config:=cS)only[go_sem, *]
   ·have k0:=h0
    clear h0 l0
    intro _ s0 _ h0 gb0
    obtain⟨v16_1,h100012288_1⟩:=s0
    unfold ep at h0
    try dsimp only at h0
    exact run
  ·obtain⟨_,h0⟩:=ckP h0
   obtain⟨_,h0⟩:=ckP h0
   obtain⟨q04,l0,h0⟩:=ae h0
   simp(config:=cS)only[go_sem, *]
   refine ah (m1:=.mk) (m2:=.mk) [.homeCell 192 0,.nf [2,3,14,15,16] [128,192,100012288,384]] (jM s.nodes ((s.nodes.length:Nat):Int) s.horizon s.ties) l0 ?_ ?_
   ·simp(config:=cS)only[go_sem, *]
   ·have k0:=h0
    clear h0 l0
    intro _ s0 _ h0 gb0
    obtain⟨v16_2,h100012288_2⟩:=s0
    unfold ep at h0
    try dsimp only at h0
    exact run
 ·obtain⟨_,h0⟩:=ckP h0
  obtain⟨_,h0⟩:=ckP h0
  obtain⟨q06,l0,h0⟩:=ae h0
  simp(config:=cS)only[go_sem, *]
  refine ah (m1:=.mk) (m2:=.mk) [.homeCell 192 0,.nf [2,3,14,15,16] [128,192,100012288,384]] (jM s.nodes ((s.nodes.length:Nat):Int) s.horizon s.ties) l0 ?_ ?_
  ·simp(config:=cS)only[go_sem, *]
  ·have k0:=h0
   clear h0 l0
   intro _ s0 _ h0 gb0
   obtain⟨v16_3,h100012288_3⟩:=s0
   unfold ep at h0
   try dsimp only at h0
   exact run⟩
def pg (c:Int)(b:List Int):(Int × (List Int))→St
 | (d,a)=>⟨[(2,.ptr 128 1 0 0),(3,.ptr 192 1 0 0),(14,.lit (.int .i64 c)),(15,.lit (.int .i64 d))],[(128,1,.var [.lit (.int .i64 0),.lit (.slice none 0 0),.lit (.slice none 0 0)]),(192,1,.var [.lit (.int .i64 0),.ref 100012289 1 0 a.length,.ref 640 1 0 b.length]),(100012289,1,.row true (ab eI a)),(640,1,.row true (ab eI b))],2⟩
attribute[go_sem] pg
instance k94 {s:GShow}:Ctr (gu s) (fun (res:GState)=>ak prog 94 [.agg (GShow.encS s)] [] (.agg [.lit (.int .i64 res.now),.ref 20000 1 0 res.times.length,.ref 20001 1 0 res.values.length]) [(20000,1,.row true (ab eI res.times)),(20001,1,.row true (ab eI res.values))]):=⟨by
 intro res h0
 refine aw (ra:=[.homeCell 128 1,.homeCell 128 2]) (md:=mdT) hT (hi:=hi00) func94 rfl rfl (by decide +kernel) (by simp) ?_
 unfold gu at h0
 obtain⟨r01,g0,h0⟩:=ae h0
 simp(config:=cS)only[go_sem, *]
 have g0:=ctr g0
 refine ag g0 ?_
 obtain⟨_,h0⟩|⟨_,h0⟩:=itB h0
 ·obtain⟨q02,l0,h0⟩:=ae h0
  simp(config:=cS)only[go_sem, *]
  refine ah (m1:=.mk) (m2:=.mk) [.homeCell 192 1,.nf [2,3,14,15] [128,192,100012289,640]] (pg ((s.nodes.length:Nat):Int) (List.replicate 3 0)) l0 ?_ ?_
  ·simp(config:=cS)only[go_sem, *]
  ·have k0:=h0
   clear h0 l0
   intro _ s0 _ h0 gb0
   obtain⟨v15_1,h100012289_1⟩:=s0
   unfold dY at h0
   try dsimp only at h0
   exact run
 ·exact run⟩
@[go_sem] def hi137_3:DT:=.i2 0 (.i1 2 (.i2 4 (.i0 1 [2] (.i2 3 (.r2 5 3 .nil)))))
def GU:Hint where
 acts:=fun _=>[]
 draws:=fun
  | 3=>⟨hi137_3,[[],[0],[],[0,1,2],[],.range 5,.range 6,.range 7],.range 8⟩
  | _=>⟨.nil,[],[]⟩
theorem Sx (i:Nat):GU.acts i=[]:=rfl
theorem Sy (i:Nat):GU.views i=none:=rfl
attribute[go_sem] Sx Sy ntmps137 results137
@[go_sem] theorem WW:(GU.draws 3).order=hi137_3:=rfl
instance k137 {s:GShow} {lazy:Bool}:Ctr (mm s lazy) (fun (res:GDesk × Bool)=>ak prog 137 [.agg (GShow.encS s),.lit (.bool lazy)] [] (.tup [.agg [.ref 20000 1 0 res.1.show_.nodes.length,.ref 20001 1 0 res.1.show_.ties.length,.lit (.int .i64 res.1.show_.horizon),.lit (.int .i64 res.1.state.now),.ref 20002 1 0 res.1.state.times.length,.ref 20003 1 0 res.1.state.values.length,.lit (.bool res.1.lazy),.ref 20004 1 0 res.1.log.length],.lit (.bool res.2)]) [(20000,1,.row true (ab GNode.encO res.1.show_.nodes)),(20001,1,.row true (ab GTie.enc res.1.show_.ties)),(20002,1,.row true (ab eI res.1.state.times)),(20003,1,.row true (ab eI res.1.state.values)),(20004,1,.row true (ab GEntry.encO res.1.log))]):=⟨by
 intro res h0
 refine aw (ra:=[.homeCell 256 0,.homeCell 256 1,.homeCell 256 4,.homeCell 256 5,.homeCell 256 7]) (md:=mdT) hT (hi:=GU) func137 rfl rfl (by decide +kernel) (by simp) ?_
 unfold mm at h0
 exact run⟩
def qx (d:Int)(e:List GNode)(f:List GTie)(g:Int)(b c a:List Int)(h:Int):St:=⟨[(2,.ptr 128 1 0 0),(3,.ptr 192 1 0 0),(27,.ref 896 1 0 a.length),(28,.lit (.int .i64 d)),(29,.lit (.int .i64 h))],[(128,1,.var [.sl (ab GNode.encS e),.sl (ab GTie.enc f),.lit (.int .i64 g)]),(192,1,.var [.sl (ab eI b),.sl (ab eI c)]),(896,1,.row true (ab eI a))],2⟩
attribute[go_sem] qx
def qy (a:List Int)(b:Int)(c:List GNode)(d:List GTie)(e f:Int):St:=⟨[(2,.ptr 128 1 0 0),(55,.sl (ab eI a)),(56,.lit (.int .i64 b)),(57,.lit (.int .i64 f))],[(128,1,.var [.sl (ab GNode.encS c),.sl (ab GTie.enc d),.lit (.int .i64 e)])],2⟩
attribute[go_sem] qy
@[go_sem] def hi118_9:DT:=.r2 0 19 .nil
def GV:Hint where
 acts:=fun _=>[]
 draws:=fun
  | 9=>⟨hi118_9,[[],[0],[],[0,1,2],[0,1,2,3],[],[5],[],[5,6,7],[5,6,7,8],[5,6,7,8,9],[],[11],[],[11,12,13],[11,12,13,14],[11,12,13,14,15],.range 17,.range 18],.range 19⟩
  | _=>⟨.nil,[],[]⟩
theorem Sz (i:Nat):GV.acts i=[]:=rfl
theorem SA (i:Nat):GV.views i=none:=rfl
attribute[go_sem] Sz SA ntmps118 results118
@[go_sem] theorem WX:(GV.draws 9).order=hi118_9:=rfl
instance k118 {s:GShow} {v1:GChoice}:Ctr (cK s v1) (fun (res:Bool)=>ak prog 118 [.agg (GShow.encS s),.agg [.sl (ab eI v1.lengths),.sl (ab eI v1.values)]] [] (.lit (.bool res)) []):=⟨by
 intro res h0
 refine co (hi:=GV) func118 rfl rfl ?_
 unfold cK at h0
 obtain⟨r01,g0,h0⟩:=ae h0
 simp(config:=cS)only[go_sem, *]
 have g0:=ctr g0
 refine ag g0 ?_
 obtain⟨_,h0⟩|⟨_,h0⟩:=itB h0
 ·obtain⟨r02,g0,h0⟩:=ae h0
  simp(config:=cS)only[go_sem, *]
  have g0:=ctr g0
  refine ag g0 ?_
  obtain⟨_,h0⟩|⟨_,h0⟩:=itP h0
  ·obtain⟨_,h0⟩|⟨_,h0⟩:=itP h0
   ·obtain⟨q11,l0,h0⟩:=ae h0
    simp(config:=cS)only[go_sem, *]
    refine ah (m1:=.mk) (m2:=.mk) [.nf [2,3,27,28,29] [128,192,896]] (qx ((r02.length:Nat):Int) s.nodes s.ties s.horizon v1.lengths v1.values r02) l0 ?_ ?_
    ·simp(config:=cS)only[go_sem, *]
    ·have k0:=h0
     clear h0 l0
     intro _ v29_1 _ h0 gb0
     unfold fo at h0
     try dsimp only at h0
     obtain⟨_,h0⟩|⟨_,h0⟩:=itP h0
     ·exact run
     ·cases h0
      obtain rfl:=(aI gb0).symm
      clear gb0
      have h0:=k0
      clear k0
      try dsimp only at h0
      obtain⟨q10,l0,h0⟩:=ae h0
      simp(config:=cS)only[go_sem, *]
      refine ah (m1:=.mk) (m2:=.mk) [.nf [2,55,56,57] [128]] (qy v1.values ((v1.values.length:Nat):Int) s.nodes s.ties s.horizon) l0 ?_ ?_
      ·simp(config:=cS)only[go_sem, *]
      ·have k0:=h0
       clear h0 l0
       intro _ v57_2 _ h0 gb0
       unfold fq at h0
       try dsimp only at h0
       exact run
   ·exact run
  ·exact run
 ·exact run⟩
@[go_sem] def hi258_1:DT:=.i1 0 (.i1 1 (.i1 3 (.i1 4 (.i1 7 (.i1 8 (.fork (.i0 2 [0,1,3,4,7,8] (.fork (.i0 5 [0,1,7,8] (.i0 6 [0,1,3,4,7,8] (.i0 9 [0,1] (.i2 10 (.i2 11 .nil))))) (.i0 6 [0,1,3,4,7,8] (.i0 5 [0,1,7,8] (.i0 9 [0,1] (.i2 10 (.i2 11 .nil))))))) (.i0 6 [0,1,3,4,7,8] (.i0 2 [0,1,3,4,7,8] (.i0 5 [0,1,7,8] (.i0 9 [0,1] (.i2 10 (.i2 11 .nil))))))))))))
def GW:Hint where
 acts:=fun _=>[]
 draws:=fun
  | 1=>⟨hi258_1,[[],[0],[],[],[3],[2,3,4],[],[],[7],[2,3,4,5,6,7,8],.range 10,.range 11],.range 12⟩
  | _=>⟨.nil,[],[]⟩
theorem SB (i:Nat):GW.acts i=[]:=rfl
theorem SC (i:Nat):GW.views i=none:=rfl
attribute[go_sem] SB SC ntmps258 results258
@[go_sem] theorem WY:(GW.draws 1).order=hi258_1:=rfl
instance k258 {v0:GState}:Ctr (dZ v0) (fun (res:GState)=>ak prog 258 [.agg (GState.encS v0)] [] (.agg [.lit (.int .i64 res.now),.ref 20000 1 0 res.times.length,.ref 20001 1 0 res.values.length]) [(20000,1,.row true (ab eI res.times)),(20001,1,.row true (ab eI res.values))]):=⟨by
 intro res h0
 refine aw (ra:=[.homeCell 128 1,.homeCell 128 2]) (md:=mdT) hT (hi:=GW) func258 rfl rfl (by decide +kernel) (by simp) ?_
 unfold dZ at h0
 try simp(config:=cS)only[go_sem, *]
 refine bq ?_ ?_
 ·try simp(config:=cS)only[go_sem, *]
  refine bq ?_ ?_
  ·exact run
  ·exact run
 ·exact run⟩
@[go_sem] def hi270_1:DT:=.i1 0 (.i1 1 (.i1 3 (.i1 4 (.i1 7 (.i1 8 (.i1 11 (.i1 12 (.fork (.i0 2 [0,1,3,4,7,8,11,12] (.fork (.i0 5 [0,1,7,8,11,12] (.fork (.i0 6 [0,1,3,4,7,8,11,12] (.fork (.i0 9 [0,1,11,12] (.i0 10 [0,1,3,4,7,8,11,12] (.i0 13 [0,1] (.i2 14 (.i2 15 .nil))))) (.i0 10 [0,1,3,4,7,8,11,12] (.i0 9 [0,1,11,12] (.i0 13 [0,1] (.i2 14 (.i2 15 .nil))))))) (.i0 10 [0,1,3,4,7,8,11,12] (.i0 6 [0,1,3,4,7,8,11,12] (.i0 9 [0,1,11,12] (.i0 13 [0,1] (.i2 14 (.i2 15 .nil)))))))) (.fork (.i0 6 [0,1,3,4,7,8,11,12] (.fork (.i0 5 [0,1,7,8,11,12] (.fork (.i0 9 [0,1,11,12] (.i0 10 [0,1,3,4,7,8,11,12] (.i0 13 [0,1] (.i2 14 (.i2 15 .nil))))) (.i0 10 [0,1,3,4,7,8,11,12] (.i0 9 [0,1,11,12] (.i0 13 [0,1] (.i2 14 (.i2 15 .nil))))))) (.i0 10 [0,1,3,4,7,8,11,12] (.i0 5 [0,1,7,8,11,12] (.i0 9 [0,1,11,12] (.i0 13 [0,1] (.i2 14 (.i2 15 .nil)))))))) (.i0 10 [0,1,3,4,7,8,11,12] (.fork (.i0 5 [0,1,7,8,11,12] (.i0 6 [0,1,3,4,7,8,11,12] (.i0 9 [0,1,11,12] (.i0 13 [0,1] (.i2 14 (.i2 15 .nil)))))) (.i0 6 [0,1,3,4,7,8,11,12] (.i0 5 [0,1,7,8,11,12] (.i0 9 [0,1,11,12] (.i0 13 [0,1] (.i2 14 (.i2 15 .nil))))))))))) (.fork (.i0 6 [0,1,3,4,7,8,11,12] (.fork (.i0 2 [0,1,3,4,7,8,11,12] (.fork (.i0 5 [0,1,7,8,11,12] (.fork (.i0 9 [0,1,11,12] (.i0 10 [0,1,3,4,7,8,11,12] (.i0 13 [0,1] (.i2 14 (.i2 15 .nil))))) (.i0 10 [0,1,3,4,7,8,11,12] (.i0 9 [0,1,11,12] (.i0 13 [0,1] (.i2 14 (.i2 15 .nil))))))) (.i0 10 [0,1,3,4,7,8,11,12] (.i0 5 [0,1,7,8,11,12] (.i0 9 [0,1,11,12] (.i0 13 [0,1] (.i2 14 (.i2 15 .nil)))))))) (.i0 10 [0,1,3,4,7,8,11,12] (.i0 2 [0,1,3,4,7,8,11,12] (.i0 5 [0,1,7,8,11,12] (.i0 9 [0,1,11,12] (.i0 13 [0,1] (.i2 14 (.i2 15 .nil))))))))) (.i0 10 [0,1,3,4,7,8,11,12] (.fork (.i0 2 [0,1,3,4,7,8,11,12] (.fork (.i0 5 [0,1,7,8,11,12] (.i0 6 [0,1,3,4,7,8,11,12] (.i0 9 [0,1,11,12] (.i0 13 [0,1] (.i2 14 (.i2 15 .nil)))))) (.i0 6 [0,1,3,4,7,8,11,12] (.i0 5 [0,1,7,8,11,12] (.i0 9 [0,1,11,12] (.i0 13 [0,1] (.i2 14 (.i2 15 .nil)))))))) (.i0 6 [0,1,3,4,7,8,11,12] (.i0 2 [0,1,3,4,7,8,11,12] (.i0 5 [0,1,7,8,11,12] (.i0 9 [0,1,11,12] (.i0 13 [0,1] (.i2 14 (.i2 15 .nil))))))))))))))))))
def GX:Hint where
 acts:=fun _=>[]
 draws:=fun
  | 1=>⟨hi270_1,[[],[0],[],[],[3],[2,3,4],[],[],[7],[2,3,4,5,6,7,8],[],[],[11],[2,3,4,5,6,7,8,9,10,11,12],.range 14,.range 15],.range 16⟩
  | _=>⟨.nil,[],[]⟩
theorem SD (i:Nat):GX.acts i=[]:=rfl
theorem SE (i:Nat):GX.views i=none:=rfl
attribute[go_sem] SD SE ntmps270 results270
@[go_sem] theorem WZ:(GX.draws 1).order=hi270_1:=rfl
instance k270 {e:GEntry}:Ctr (nZ e) (fun (res:GEntry)=>ak prog 270 [.agg (GEntry.encS e)] [] (.agg [.lit (.int .i64 res.now),.ref 20000 1 0 res.ties.length,.ref 20001 1 0 res.nodes.length,.ref 20002 1 0 res.values.length]) [(20000,1,.row true (ab eI res.ties)),(20001,1,.row true (ab eI res.nodes)),(20002,1,.row true (ab eI res.values))]):=⟨by
 intro res h0
 refine aw (ra:=[.homeCell 128 1,.homeCell 128 2,.homeCell 128 3]) (md:=mdT) hT (hi:=GX) func270 rfl rfl (by decide +kernel) (by simp) ?_
 unfold nZ at h0
 try simp(config:=cS)only[go_sem, *]
 refine bq ?_ ?_
 ·try simp(config:=cS)only[go_sem, *]
  refine bq ?_ ?_
  ·obtain⟨_,h0⟩:=ckP h0
   obtain⟨_,h0⟩:=ckP h0
   try simp(config:=cS)only[go_sem, *]
   refine bq ?_ ?_
   ·try simp(config:=cS)only[go_sem, *]
    refine bq ?_ ?_
    ·exact run
    ·exact run
   ·exact run
  ·try simp(config:=cS)only[go_sem, *]
   refine bq ?_ ?_
   ·try simp(config:=cS)only[go_sem, *]
    refine bq ?_ ?_
    ·obtain⟨_,h0⟩:=ckP h0
     obtain⟨_,h0⟩:=ckP h0
     try simp(config:=cS)only[go_sem, *]
     refine bq ?_ ?_
     ·exact run
     ·exact run
    ·exact run
   ·try simp(config:=cS)only[go_sem, *]
    refine bq ?_ ?_
    ·exact run
    ·exact run
 ·try simp(config:=cS)only[go_sem, *]
  refine bq ?_ ?_
  ·try simp(config:=cS)only[go_sem, *]
   refine bq ?_ ?_
   ·try simp(config:=cS)only[go_sem, *]
    refine bq ?_ ?_
    ·obtain⟨_,h0⟩:=ckP h0
     obtain⟨_,h0⟩:=ckP h0
     try simp(config:=cS)only[go_sem, *]
     refine bq ?_ ?_
     ·exact run
     ·exact run
    ·exact run
   ·exact run
  ·try simp(config:=cS)only[go_sem, *]
   refine bq ?_ ?_
   ·try simp(config:=cS)only[go_sem, *]
    refine bq ?_ ?_
    ·exact run
    ·exact run
   ·exact run⟩
def jN (i:List GEntry)(j f g:Int)(h:Bool)(b:List GNode)(c:List GTie)(d e:List Int):(Int × (List GEntry))→St
 | (k,a)=>⟨[(2,.ptr 128 1 0 0),(3,.ptr 192 1 0 0),(16,.sl (ab GEntry.encS i)),(17,.lit (.int .i64 j)),(18,.lit (.int .i64 k))],[(128,1,.var [.lit (.slice none 0 0),.lit (.slice none 0 0),.lit (.int .i64 0),.lit (.int .i64 0),.lit (.slice none 0 0),.lit (.slice none 0 0),.lit (.bool false),.lit (.slice none 0 0)]),(192,1,.var [.ref 512 1 0 b.length,.ref 513 1 0 c.length,.lit (.int .i64 f),.lit (.int .i64 g),.ref 704 1 0 d.length,.ref 705 1 0 e.length,.lit (.bool h),.ref 100012295 1 0 a.length]),(512,1,.row true (ab GNode.encO b)),(513,1,.row true (ab GTie.enc c)),(704,1,.row true (ab eI d)),(705,1,.row true (ab eI e)),(100012295,1,.row true (ab GEntry.encO a))],2⟩
attribute[go_sem] jN
@[go_sem] def hi213_5:DT:=.i1 0 (.i1 1 (.i2 2 (.i0 3 [0,1] (.i0 4 [0,1] (.r2 5 3 .nil)))))
@[go_sem] def hi213_1:DT:=.i1 0 (.i1 1 (.i1 3 (.i1 4 (.i1 6 (.i1 7 (.fork (.i0 2 [3,4,6,7] (.fork (.i0 5 [6,7] (.i2 8 (.i0 9 [0,1,3,4,6,7] (.i2 10 .nil)))) (.i0 9 [0,1,3,4,6,7] (.i0 5 [6,7] (.i2 8 (.i2 10 .nil)))))) (.i0 9 [0,1,3,4,6,7] (.i0 2 [3,4,6,7] (.i0 5 [6,7] (.i2 8 (.i2 10 .nil)))))))))))
def De:Hint where
 acts:=fun _=>[]
 draws:=fun
  | 1=>⟨hi213_1,[[],[0],[0,1],[],[3],.range 5,[],[6],.range 8,[],.range 10],.range 11⟩
  | 5=>⟨hi213_5,[[],[0],[],[2],[2,3],.range 5,.range 6,.range 7],.range 8⟩
  | _=>⟨.nil,[],[]⟩
theorem SF (i:Nat):De.acts i=[]:=rfl
theorem SG (i:Nat):De.views i=none:=rfl
attribute[go_sem] SF SG ntmps213 results213
@[go_sem] theorem Xa:(De.draws 1).order=hi213_1:=rfl
@[go_sem] theorem Xb:(De.draws 5).order=hi213_5:=rfl
instance k213 {d:GDesk}:Ctr (fC d) (fun (res:GDesk)=>ak prog 213 [.agg (GDesk.encS d)] [] (.agg [.ref 20000 1 0 res.show_.nodes.length,.ref 20001 1 0 res.show_.ties.length,.lit (.int .i64 res.show_.horizon),.lit (.int .i64 res.state.now),.ref 20002 1 0 res.state.times.length,.ref 20003 1 0 res.state.values.length,.lit (.bool res.lazy),.ref 20004 1 0 res.log.length]) [(20000,1,.row true (ab GNode.encO res.show_.nodes)),(20001,1,.row true (ab GTie.enc res.show_.ties)),(20002,1,.row true (ab eI res.state.times)),(20003,1,.row true (ab eI res.state.values)),(20004,1,.row true (ab GEntry.encO res.log))]):=⟨by
 intro res h0
 refine aw (ra:=[.homeCell 128 0,.homeCell 128 1,.homeCell 128 4,.homeCell 128 5,.homeCell 128 7]) (md:=mdT) hT (hi:=De) func213 rfl rfl (by decide +kernel) (by simp) ?_
 unfold fC at h0
 try simp(config:=cS)only[go_sem, *]
 refine bq ?_ ?_
 ·obtain⟨r01,g0,h0⟩:=ae h0
  simp(config:=cS)only[go_sem, *]
  have g0:=ctr g0
  refine ag g0 ?_
  try simp(config:=cS)only[go_sem, *]
  refine bq ?_ ?_
  ·obtain⟨r02,g0,h0⟩:=ae h0
   simp(config:=cS)only[go_sem, *]
   have g0:=ctr g0
   refine ag g0 ?_
   obtain⟨q05,l0,h0⟩:=ae h0
   simp(config:=cS)only[go_sem, *]
   refine ah (m1:=.mk) (m2:=.mk) [.homeCell 192 7,.nf [2,3,16,17,18] [128,192,512,513,704,705,100012295]] (jN d.log ((d.log.length:Nat):Int) r01.horizon r02.now d.lazy r01.nodes r01.ties r02.times r02.values) l0 ?_ ?_
   ·simp(config:=cS)only[go_sem, *]
   ·have k0:=h0
    clear h0 l0
    intro _ s0 _ h0 gb0
    obtain⟨v18_1,h100012295_1⟩:=s0
    unfold eu at h0
    try dsimp only at h0
    exact run
  ·obtain⟨r06,g0,h0⟩:=ae h0
   simp(config:=cS)only[go_sem, *]
   have g0:=ctr g0
   refine ag g0 ?_
   obtain⟨q09,l0,h0⟩:=ae h0
   simp(config:=cS)only[go_sem, *]
   refine ah (m1:=.mk) (m2:=.mk) [.homeCell 192 7,.nf [2,3,16,17,18] [128,192,512,513,704,705,100012295]] (jN d.log ((d.log.length:Nat):Int) r01.horizon r06.now d.lazy r01.nodes r01.ties r06.times r06.values) l0 ?_ ?_
   ·simp(config:=cS)only[go_sem, *]
   ·have k0:=h0
    clear h0 l0
    intro _ s0 _ h0 gb0
    obtain⟨v18_2,h100012295_2⟩:=s0
    unfold eu at h0
    try dsimp only at h0
    exact run
 ·obtain⟨r10,g0,h0⟩:=ae h0
  simp(config:=cS)only[go_sem, *]
  have g0:=ctr g0
  refine ag g0 ?_
  obtain⟨r11,g0,h0⟩:=ae h0
  simp(config:=cS)only[go_sem, *]
  have g0:=ctr g0
  refine ag g0 ?_
  obtain⟨q14,l0,h0⟩:=ae h0
  simp(config:=cS)only[go_sem, *]
  refine ah (m1:=.mk) (m2:=.mk) [.homeCell 192 7,.nf [2,3,16,17,18] [128,192,512,513,704,705,100012295]] (jN d.log ((d.log.length:Nat):Int) r10.horizon r11.now d.lazy r10.nodes r10.ties r11.times r11.values) l0 ?_ ?_
  ·simp(config:=cS)only[go_sem, *]
  ·have k0:=h0
   clear h0 l0
   intro _ s0 _ h0 gb0
   obtain⟨v18_3,h100012295_3⟩:=s0
   unfold eu at h0
   try dsimp only at h0
   exact run⟩
def qz (v:List Int)(a b:Int):St:=⟨[(0,.sl (ab eI v)),(5,.sl (ab eI v)),(6,.lit (.int .i64 a)),(7,.lit (.int .i64 b))],[],2⟩
attribute[go_sem] qz
instance k273 {v:List Int}:Ctr (lc v) (fun (res:Bool)=>ak prog 273 [.sl (ab eI v)] [] (.lit (.bool res)) []):=⟨by
 intro res h0
 refine co (hi:=hi00) func273 rfl rfl ?_
 unfold lc at h0
 obtain⟨q03,l0,h0⟩:=ae h0
 simp(config:=cS)only[go_sem, *]
 refine ah (m1:=.mk) (m2:=.mk) [.nf [0,5,6,7] []] (qz v ((v.length:Nat):Int)) l0 ?_ ?_
 ·simp(config:=cS)only[go_sem, *]
 ·have k0:=h0
  clear h0 l0
  intro _ v7_1 _ h0 gb0
  unfold fD at h0
  try dsimp only at h0
  exact run⟩
def rt (a:List Int)(d:Int)(e:List GNode)(f:List GTie)(g b:Int)(c:List Int)(h:Int):St:=⟨[(2,.ptr 128 1 0 0),(3,.ptr 192 1 0 0),(44,.sl (ab eI a)),(45,.lit (.int .i64 d)),(46,.lit (.int .i64 h))],[(128,1,.var [.sl (ab GNode.encS e),.sl (ab GTie.enc f),.lit (.int .i64 g)]),(192,1,.var [.lit (.int .i64 b),.sl (ab eI a),.sl (ab eI c)])],2⟩
attribute[go_sem] rt
def ru (d:List GNode)(e:List GTie)(f a:Int)(b c:List Int)(p:Int):St:=⟨[(2,.ptr 128 1 0 0),(3,.ptr 192 1 0 0),(7,.lit (.int .i64 p))],[(128,1,.var [.sl (ab GNode.encS d),.sl (ab GTie.enc e),.lit (.int .i64 f)]),(192,1,.var [.lit (.int .i64 a),.sl (ab eI b),.sl (ab eI c)])],2⟩
attribute[go_sem] ru
@[go_sem] def hi216_13:DT:=.r2 0 18 .nil
def GY:Hint where
 acts:=fun _=>[]
 draws:=fun
  | 13=>⟨hi216_13,[[],[0],[],[2],[0,1,2,3],.range 5,.range 6,[],[7],[7,8],[7,8,9],[7,8,9,10],[7,8,9],[7,8,9,10,11,12],[7,8,9,10,11,12,13],[7,8,9,10,11,12,13,14],[7,8,9,10,11,12,13,14,15],.range 17],.range 18⟩
  | _=>⟨.nil,[],[]⟩
theorem SH (i:Nat):GY.acts i=[]:=rfl
theorem SI (i:Nat):GY.views i=none:=rfl
attribute[go_sem] SH SI ntmps216 results216
@[go_sem] theorem Wb:(GY.draws 13).order=hi216_13:=rfl
instance k216 {s:GShow} {v1:GState}:Ctr (ea s v1) (fun (res:Bool)=>ak prog 216 [.agg (GShow.encS s),.agg (GState.encS v1)] [] (.lit (.bool res)) []):=⟨by
 intro res h0
 refine co (hi:=GY) func216 rfl rfl ?_
 unfold ea at h0
 obtain⟨r01,g0,h0⟩:=ae h0
 simp(config:=cS)only[go_sem, *]
 have g0:=ctr g0
 refine ag g0 ?_
 obtain⟨_,h0⟩|⟨_,h0⟩:=itB h0
 ·obtain⟨r02,g0,h0⟩:=ae h0
  simp(config:=cS)only[go_sem, *]
  have g0:=ctr g0
  refine ag g0 ?_
  obtain⟨_,h0⟩|⟨_,h0⟩:=itB h0
  ·obtain⟨_,h0⟩|⟨_,h0⟩:=itP h0
   ·obtain⟨x03,g1,h0⟩:=ae h0
    have:=cU (k:=0) g1
    obtain⟨_,h0⟩|⟨_,h0⟩:=itP h0
    ·obtain⟨r04,g0,h0⟩:=ae h0
     simp(config:=cS)only[go_sem, *]
     have g0:=ctr g0
     refine ag g0 ?_
     obtain⟨_,h0⟩|⟨_,h0⟩:=itB h0
     ·obtain⟨q11,l0,h0⟩:=ae h0
      simp(config:=cS)only[go_sem, *]
      refine ah (m1:=.mk) (m2:=.mk) [.nf [2,3,44,45,46] [128,192]] (rt v1.times ((v1.times.length:Nat):Int) s.nodes s.ties s.horizon v1.now v1.values) l0 ?_ ?_
      ·simp(config:=cS)only[go_sem, *]
      ·have k0:=h0
       clear h0 l0
       intro _ v46_1 _ h0 gb0
       unfold gv at h0
       try dsimp only at h0
       obtain⟨_,h0⟩|⟨_,h0⟩:=itP h0
       ·exact run
       ·cases h0
        obtain rfl:=(aI gb0).symm
        clear gb0
        have h0:=k0
        clear k0
        try dsimp only at h0
        obtain⟨q10,l0,h0⟩:=ae h0
        simp(config:=cS)only[go_sem, *]
        refine ah (m1:=.mk) (m2:=.mk) [.nf [2,3,7] [128,192]] (ru s.nodes s.ties s.horizon v1.now v1.times v1.values) l0 ?_ ?_
        ·simp(config:=cS)only[go_sem, *]
        ·have k0:=h0
         clear h0 l0
         intro _ p_2 _ h0 gb0
         unfold gw at h0
         try dsimp only at h0
         exact run
     ·exact run
    ·exact run
   ·exact run
  ·exact run
 ·exact run⟩
def pz (e:List GTie)(f b:Int)(c d:List Int):(Int × (List Int))→St
 | (g,a)=>⟨[(3,.ptr 192 1 0 0),(5,.ref 512 1 0 a.length),(10,.sl (ab GTie.enc e)),(11,.lit (.int .i64 f)),(12,.lit (.int .i64 g))],[(192,1,.var [.lit (.int .i64 b),.sl (ab eI c),.sl (ab eI d)]),(512,1,.row true (ab eI a))],2⟩
attribute[go_sem] pz
instance k255 {s:GShow} {v1:GState}:Ctr (ir s v1) (fun (res:List Int)=>ak prog 255 [.agg (GShow.encS s),.agg (GState.encS v1)] [] (.ref 20000 1 0 res.length) [(20000,1,.row true (ab eI res))]):=⟨by
 intro res h0
 refine aw (ra:=[.home 4]) (md:=mdT) hT (hi:=hi00) func255 rfl rfl (by decide +kernel) (by simp) ?_
 unfold ir at h0
 obtain⟨q04,l0,h0⟩:=ae h0
 simp(config:=cS)only[go_sem, *]
 refine ah (m1:=.mk) (m2:=.mk) [.nf [3,5,10,11,12] [192,512]] (pz s.ties ((s.ties.length:Nat):Int) v1.now v1.times v1.values) l0 ?_ ?_
 ·simp(config:=cS)only[go_sem, *]
 ·have k0:=h0
  clear h0 l0
  intro _ s0 _ h0 gb0
  obtain⟨v12_1,out_1⟩:=s0
  unfold gN at h0
  try dsimp only at h0
  exact run⟩
def ph (g:Int)(h:List GNode)(i:List GTie)(j d:Int)(e f b:List Int):(Int × (List Int) × (List Int))→St
 | (k,a,c)=>⟨[(2,.ptr 128 1 0 0),(3,.ptr 192 1 0 0),(6,.ref 704 1 0 a.length),(7,.ref 768 1 0 c.length),(15,.ref 960 1 0 b.length),(16,.lit (.int .i64 g)),(17,.lit (.int .i64 k))],[(128,1,.var [.sl (ab GNode.encS h),.sl (ab GTie.enc i),.lit (.int .i64 j)]),(192,1,.var [.lit (.int .i64 d),.sl (ab eI e),.sl (ab eI f)]),(704,1,.row true (ab eI a)),(768,1,.row true (ab eI c)),(960,1,.row true (ab eI b))],2⟩
attribute[go_sem] ph
@[go_sem] def hi183_6:DT:=.r2 0 14 .nil
def GZ:Hint where
 acts:=fun _=>[]
 draws:=fun
  | 6=>⟨hi183_6,[[],[0],[],[2],[],[4],[],[4,5,6],[4,5,6,7],[4,5,6,7,8],[2,3,4,5,6,7,8,9],[2,3,4,5,6,7,8,9,10],.range 12,.range 13],.range 14⟩
  | _=>⟨.nil,[],[]⟩
theorem SJ (i:Nat):GZ.acts i=[]:=rfl
theorem SK (i:Nat):GZ.views i=none:=rfl
attribute[go_sem] SJ SK ntmps183 results183
@[go_sem] theorem Xc:(GZ.draws 6).order=hi183_6:=rfl
instance k183 {s:GShow} {v1:GState}:Ctr (gx s v1) (fun (res:(List Int) × (List Int))=>ak prog 183 [.agg (GShow.encS s),.agg (GState.encS v1)] [] (.tup [.ref 20000 1 0 res.1.length,.ref 20001 1 0 res.2.length]) [(20000,1,.row true (ab eI res.1)),(20001,1,.row true (ab eI res.2))]):=⟨by
 intro res h0
 refine aw (ra:=[.home 4,.home 5]) (md:=mdT) hT (hi:=GZ) func183 rfl rfl (by decide +kernel) (by simp) ?_
 unfold gx at h0
 obtain⟨r01,g0,h0⟩:=ae h0
 simp(config:=cS)only[go_sem, *]
 have g0:=ctr g0
 refine ag g0 ?_
 obtain⟨q05,l0,h0⟩:=ae h0
 simp(config:=cS)only[go_sem, *]
 refine ah (m1:=.mk) (m2:=.mk) [.nf [2,3,6,7,15,16,17] [128,192,704,768,960]] (ph ((r01.length:Nat):Int) s.nodes s.ties s.horizon v1.now v1.times v1.values r01) l0 ?_ ?_
 ·simp(config:=cS)only[go_sem, *]
 ·have k0:=h0
  clear h0 l0
  intro _ s0 _ h0 gb0
  obtain⟨v17_1,must_1,may_1⟩:=s0
  unfold fX at h0
  try dsimp only at h0
  exact run⟩
def rv (n:Int)(d:List Int)(b:Int):(Int × (List Int))→St
 | (c,a)=>⟨[(1,.lit (.int .i64 n)),(5,.ref 512 1 0 a.length),(9,.sl (ab eI d)),(10,.lit (.int .i64 b)),(11,.lit (.int .i64 c))],[(512,1,.row true (ab eI a))],2⟩
attribute[go_sem] rv
instance k187 {l:List Int} {n:Int}:Ctr (fE l n) (fun (res:List Int)=>ak prog 187 [.sl (ab eI l),.lit (.int .i64 n)] [] (.ref 20000 1 0 res.length) [(20000,1,.row true (ab eI res))]):=⟨by
 intro res h0
 refine aw (ra:=[.home 4]) (md:=mdT) hT (hi:=hi00) func187 rfl rfl (by decide +kernel) (by simp) ?_
 unfold fE at h0
 obtain⟨q02,l0,h0⟩:=ae h0
 simp(config:=cS)only[go_sem, *]
 refine ah (m1:=.mk) (m2:=.mk) [.nf [1,5,9,10,11] [512]] (rv n l ((l.length:Nat):Int)) l0 ?_ ?_
 ·simp(config:=cS)only[go_sem, *]
 ·have k0:=h0
  clear h0 l0
  intro _ s0 _ h0 gb0
  obtain⟨v11_1,out_1⟩:=s0
  unfold jz at h0
  try dsimp only at h0
  exact run⟩
def qA (a b:List Int):(Int × Int × (List Int))→St
 | (i,k,c)=>⟨[(0,.sl (ab eI a)),(1,.sl (ab eI b)),(5,.ref 512 1 0 c.length),(6,.lit (.int .i64 i)),(7,.lit (.int .i64 k))],[(512,1,.row true (ab eI c))],2⟩
attribute[go_sem] qA
@[go_sem] def hi186_5:DT:=.r2 0 21 .nil
def Ha:Hint where
 acts:=fun _=>[]
 draws:=fun
  | 5=>⟨hi186_5,[[],[],[1],[0,1,2],[0,1,2,3],.range 5,.range 5,[0,1,2,3,4,6],.range 8,.range 9,.range 10,.range 10,.range 12,.range 13,.range 10,.range 10,[0,1,2,3,4,5,6,7,8,9,14,15],[0,1,2,3,4,5,6,7,8,9,14,15,16],.range 18,.range 19,.range 20],.range 21⟩
  | _=>⟨.nil,[],[]⟩
theorem SL (i:Nat):Ha.acts i=[]:=rfl
theorem SM (i:Nat):Ha.views i=none:=rfl
attribute[go_sem] SL SM ntmps186 results186
@[go_sem] theorem Xd:(Ha.draws 5).order=hi186_5:=rfl
instance k186 {a:List Int} {b:List Int}:Ctr (fY a b) (fun (res:List Int)=>ak prog 186 [.sl (ab eI a),.sl (ab eI b)] [] (.ref 20000 1 0 res.length) [(20000,1,.row true (ab eI res))]):=⟨by
 intro res h0
 refine aw (ra:=[.home 4]) (md:=mdT) hT (hi:=Ha) func186 rfl rfl (by decide +kernel) (by simp) ?_
 unfold fY at h0
 obtain⟨q06,l0,h0⟩:=ae h0
 simp(config:=cS)only[go_sem, *]
 refine ah (m1:=.mk) (m2:=.mk) [.nf [0,1,5,6,7] [512]] (qA a b) l0 ?_ ?_
 ·simp(config:=cS)only[go_sem, *]
 ·have k0:=h0
  clear h0 l0
  intro _ s0 _ h0 gb0
  obtain⟨i_1,k_1,out_1⟩:=s0
  unfold iP at h0
  try dsimp only at h0
  exact run⟩
def pA (a b:List Int):(Int × (List (List Int)))→St
 | (n,c)=>⟨[(5,.ref 1472 1 0 a.length),(6,.ref 1473 1 0 b.length),(7,.ref 1664 1 0 c.length),(8,.lit (.int .i64 n))],[(1472,1,.row true (ab eI a)),(1473,1,.row true (ab eI b)),(1664,1,.row true (ab (eLO eI) c))],2⟩
attribute[go_sem] pA
instance k149 {s:GShow} {v1:GState}:Ctr (kk s v1) (fun (res:List (List Int))=>ak prog 149 [.agg (GShow.encS s),.agg (GState.encS v1)] [] (.ref 20000 1 0 res.length) [(20000,1,.row true (ab (eLO eI) res))]):=⟨by
 intro res h0
 refine aw (ra:=[.home 4]) (md:=mdT) hT (hi:=hi00) func149 rfl rfl (by decide +kernel) (by simp) ?_
 unfold kk at h0
 obtain⟨r01,g0,h0⟩:=ae h0
 simp(config:=cS)only[go_sem, *]
 have g0:=ctr g0
 refine ag g0 ?_
 obtain⟨_,h0⟩|⟨_,h0⟩:=itB h0
 ·obtain⟨_,h0⟩|⟨_,h0⟩:=itP h0
  ·exact run
  ·obtain⟨r02,g0,h0⟩:=ae h0
   simp(config:=cS)only[go_sem, *]
   have g0:=ctr g0
   refine ag g0 ?_
   obtain⟨q05,l0,h0⟩:=ae h0
   simp(config:=cS)only[go_sem, *]
   refine ah (m1:=.mk) (m2:=.mk) [.nf [5,6,7,8] [1472,1473,1664]] (pA r02.1 r02.2) l0 ?_ ?_
   ·simp(config:=cS)only[go_sem, *]
   ·have k0:=h0
    clear h0 l0
    intro _ s0 _ h0 gb0
    obtain⟨n_1,out_1⟩:=s0
    unfold gO at h0
    try dsimp only at h0
    exact run
 ·exact run⟩
def tk (a:List Int)(b:List (List Int))(c d:Int):St:=⟨[(1,.sl (ab eI a)),(7,.sl (ab (eLS eI) b)),(8,.lit (.int .i64 c)),(9,.lit (.int .i64 d))],[],2⟩
attribute[go_sem] tk
instance k299 {l:List (List Int)} {set:List Int}:Ctr (mn l set) (fun (res:Bool)=>ak prog 299 [.sl (ab (eLS eI) l),.sl (ab eI set)] [] (.lit (.bool res)) []):=⟨by
 intro res h0
 refine co (hi:=hi00) func299 rfl rfl ?_
 unfold mn at h0
 obtain⟨q03,l0,h0⟩:=ae h0
 simp(config:=cS)only[go_sem, *]
 refine ah (m1:=.mk) (m2:=.mk) [.nf [1,7,8,9] []] (tk set l ((l.length:Nat):Int)) l0 ?_ ?_
 ·simp(config:=cS)only[go_sem, *]
 ·have k0:=h0
  clear h0 l0
  intro _ v9_1 _ h0 gb0
  unfold je at h0
  try dsimp only at h0
  exact run⟩
def sv (g:List Int)(h:Int)(i:List GNode)(j:List GTie)(k d:Int)(e f:List Int)(c:Int)(a:List Int):(Int × (List Int))→St
 | (l,b)=>⟨[(3,.ptr 192 1 0 0),(4,.ptr 256 1 0 0),(6,.ptr 384 1 0 0),(7,.ptr 448 1 0 0),(12,.sl (ab eI g)),(13,.lit (.int .i64 h)),(14,.lit (.int .i64 l))],[(192,1,.var [.sl (ab GNode.encS i),.sl (ab GTie.enc j),.lit (.int .i64 k)]),(256,1,.var [.lit (.int .i64 d),.sl (ab eI e),.sl (ab eI f)]),(384,1,.var [.lit (.int .i64 0),.lit (.slice none 0 0),.lit (.slice none 0 0)]),(448,1,.var [.lit (.int .i64 c),.ref 704 1 0 b.length,.ref 705 1 0 a.length]),(704,1,.row true (ab eI b)),(705,1,.row true (ab eI a))],2⟩
attribute[go_sem] sv
@[go_sem] def hi185_5:DT:=.r2 0 12 .nil
def Hb:Hint where
 acts:=fun _=>[]
 draws:=fun
  | 5=>⟨hi185_5,[[],[0],[],[2],[],[2,3,4],[2,3,4,5],[2,3,4,5,6],[],[8],.range 10,.range 11],.range 12⟩
  | _=>⟨.nil,[],[]⟩
theorem SN (i:Nat):Hb.acts i=[]:=rfl
theorem SO (i:Nat):Hb.views i=none:=rfl
attribute[go_sem] SN SO ntmps185 results185
@[go_sem] theorem Xe:(Hb.draws 5).order=hi185_5:=rfl
instance k185 {s:GShow} {v1:GState} {ties:List Int}:Ctr (kL s v1 ties) (fun (res:GState)=>ak prog 185 [.agg (GShow.encS s),.agg (GState.encS v1),.sl (ab eI ties)] [] (.agg [.lit (.int .i64 res.now),.ref 20000 1 0 res.times.length,.ref 20001 1 0 res.values.length]) [(20000,1,.row true (ab eI res.times)),(20001,1,.row true (ab eI res.values))]):=⟨by
 intro res h0
 refine aw (ra:=[.homeCell 384 1,.homeCell 384 2]) (md:=mdT) hT (hi:=Hb) func185 rfl rfl (by decide +kernel) (by simp) ?_
 unfold kL at h0
 obtain⟨r01,g0,h0⟩:=ae h0
 simp(config:=cS)only[go_sem, *]
 have g0:=ctr g0
 refine ag g0 ?_
 obtain⟨q05,l0,h0⟩:=ae h0
 simp(config:=cS)only[go_sem, *]
 refine ah (m1:=.mk) (m2:=.mk) [.nf [3,4,6,7,12,13,14] [192,256,384,448,704,705]] (sv ties ((ties.length:Nat):Int) s.nodes s.ties s.horizon v1.now v1.times v1.values r01.now r01.values) l0 ?_ ?_
 ·simp(config:=cS)only[go_sem, *]
 ·have k0:=h0
  clear h0 l0
  intro _ s0 _ h0 gb0
  obtain⟨v14_1,h704_1⟩:=s0
  unfold kl at h0
  try dsimp only at h0
  exact run⟩
instance k278 {s:GShow} {v1:GState} {ties:List Int}:Ctr (dl s v1 ties) (fun (res:GState × Bool)=>ak prog 278 [.agg (GShow.encS s),.agg (GState.encS v1),.sl (ab eI ties)] [] (.tup [.agg [.lit (.int .i64 res.1.now),.ref 20000 1 0 res.1.times.length,.ref 20001 1 0 res.1.values.length],.lit (.bool res.2)]) [(20000,1,.row true (ab eI res.1.times)),(20001,1,.row true (ab eI res.1.values))]):=⟨by
 intro res h0
 refine aw (ra:=[.homeCell 384 1,.homeCell 384 2]) (md:=mdT) hT (hi:=hi00) func278 rfl rfl (by decide +kernel) (by simp) ?_
 unfold dl at h0
 exact run⟩
instance k300 {s:GShow} {v1:GState}:Ctr (lf s v1) (fun (res:Bool)=>ak prog 300 [.agg (GShow.encS s),.agg (GState.encS v1)] [] (.lit (.bool res)) []):=⟨by
 intro res h0
 refine co (hi:=hi00) func300 rfl rfl ?_
 unfold lf at h0
 exact run⟩
def qB (v d:List Int)(a:Int):(Int × Int)→St
 | (b,c)=>⟨[(1,.sl (ab eI v)),(5,.lit (.int .i64 b)),(9,.sl (ab eI d)),(10,.lit (.int .i64 a)),(11,.lit (.int .i64 c))],[],2⟩
attribute[go_sem] qB
instance k119 {l:List Int} {v:List Int}:Ctr (bI l v) (fun (res:Int)=>ak prog 119 [.sl (ab eI l),.sl (ab eI v)] [] (.lit (.int .i64 res)) []):=⟨by
 intro res h0
 refine co (hi:=hi00) func119 rfl rfl ?_
 unfold bI at h0
 obtain⟨q04,l0,h0⟩:=ae h0
 simp(config:=cS)only[go_sem, *]
 refine ah (m1:=.mk) (m2:=.mk) [.nf [1,5,9,10,11] []] (qB v l ((l.length:Nat):Int)) l0 ?_ ?_
 ·simp(config:=cS)only[go_sem, *]
 ·have k0:=h0
  clear h0 l0
  intro _ s0 _ h0 gb0
  obtain⟨out_1,v11_1⟩:=s0
  unfold iK at h0
  try dsimp only at h0
  exact run⟩
def pi (a:List GNode)(f:Int)(g:List GTie)(h c:Int)(d e:List Int):(Int × (List Int))→St
 | (i,b)=>⟨[(2,.ptr 128 1 0 0),(3,.ptr 192 1 0 0),(5,.ref 512 1 0 b.length),(10,.sl (ab GNode.encS a)),(11,.lit (.int .i64 f)),(12,.lit (.int .i64 i))],[(128,1,.var [.sl (ab GNode.encS a),.sl (ab GTie.enc g),.lit (.int .i64 h)]),(192,1,.var [.lit (.int .i64 c),.sl (ab eI d),.sl (ab eI e)]),(512,1,.row true (ab eI b))],2⟩
attribute[go_sem] pi
instance k256 {s:GShow} {v1:GState}:Ctr (gy s v1) (fun (res:List Int)=>ak prog 256 [.agg (GShow.encS s),.agg (GState.encS v1)] [] (.ref 20000 1 0 res.length) [(20000,1,.row true (ab eI res))]):=⟨by
 intro res h0
 refine aw (ra:=[.home 4]) (md:=mdT) hT (hi:=hi00) func256 rfl rfl (by decide +kernel) (by simp) ?_
 unfold gy at h0
 obtain⟨q05,l0,h0⟩:=ae h0
 simp(config:=cS)only[go_sem, *]
 refine ah (m1:=.mk) (m2:=.mk) [.nf [2,3,5,10,11,12] [128,192,512]] (pi s.nodes ((s.nodes.length:Nat):Int) s.ties s.horizon v1.now v1.times v1.values) l0 ?_ ?_
 ·simp(config:=cS)only[go_sem, *]
 ·have k0:=h0
  clear h0 l0
  intro _ s0 _ h0 gb0
  obtain⟨v12_1,out_1⟩:=s0
  unfold fZ at h0
  try dsimp only at h0
  exact run⟩
def om (l:List Int):(Int × (List (List Int)))→St
 | (n,a)=>⟨[(5,.ref 896 1 0 l.length),(6,.ref 960 1 0 a.length),(7,.lit (.int .i64 n))],[(896,1,.row true (ab eI l)),(960,1,.row true (ab (eLO eI) a))],2⟩
attribute[go_sem] om
instance k279 {s:GShow} {v1:GState}:Ctr (fG s v1) (fun (res:List (List Int))=>ak prog 279 [.agg (GShow.encS s),.agg (GState.encS v1)] [] (.ref 20000 1 0 res.length) [(20000,1,.row true (ab (eLO eI) res))]):=⟨by
 intro res h0
 refine aw (ra:=[.home 4]) (md:=mdT) hT (hi:=hi00) func279 rfl rfl (by decide +kernel) (by simp) ?_
 unfold fG at h0
 obtain⟨r01,g0,h0⟩:=ae h0
 simp(config:=cS)only[go_sem, *]
 have g0:=ctr g0
 refine ag g0 ?_
 obtain⟨_,h0⟩|⟨_,h0⟩:=itB h0
 ·obtain⟨r02,g0,h0⟩:=ae h0
  simp(config:=cS)only[go_sem, *]
  have g0:=ctr g0
  refine ag g0 ?_
  obtain⟨_,h0⟩:=ckN h0
  obtain⟨q04,l0,h0⟩:=ae h0
  simp(config:=cS)only[go_sem, *]
  refine ah (m1:=.mk) (m2:=.mk) [.nf [5,6,7] [896,960]] (om r02) l0 ?_ ?_
  ·simp(config:=cS)only[go_sem, *]
  ·have k0:=h0
   clear h0 l0
   intro _ s0 _ h0 gb0
   obtain⟨n_1,out_1⟩:=s0
   unfold fF at h0
   try dsimp only at h0
   exact run
 ·exact run⟩
def pB (a:List Int)(h:Int)(i:List GNode)(j:List GTie)(k e:Int)(f g:List Int)(d:Int)(b:List Int):(Int × (List Int))→St
 | (l,c)=>⟨[(2,.sl (ab eI a)),(3,.ptr 192 1 0 0),(4,.ptr 256 1 0 0),(6,.ptr 384 1 0 0),(8,.ptr 512 1 0 0),(15,.sl (ab eI a)),(16,.lit (.int .i64 h)),(17,.lit (.int .i64 l))],[(192,1,.var [.sl (ab GNode.encS i),.sl (ab GTie.enc j),.lit (.int .i64 k)]),(256,1,.var [.lit (.int .i64 e),.sl (ab eI f),.sl (ab eI g)]),(384,1,.var [.lit (.int .i64 0),.lit (.slice none 0 0),.lit (.slice none 0 0)]),(512,1,.var [.lit (.int .i64 d),.ref 896 1 0 c.length,.ref 897 1 0 b.length]),(896,1,.row true (ab eI c)),(897,1,.row true (ab eI b))],2⟩
attribute[go_sem] pB
def pC (d:List Int)(f:List GNode)(g:List GTie)(h e:Int)(b c:List Int):(Int × (List Int))→St
 | (p,a)=>⟨[(2,.sl (ab eI d)),(3,.ptr 192 1 0 0),(6,.ptr 384 1 0 0),(8,.ptr 512 1 0 0),(11,.ref 1792 1 0 a.length),(12,.lit (.int .i64 p))],[(192,1,.var [.sl (ab GNode.encS f),.sl (ab GTie.enc g),.lit (.int .i64 h)]),(384,1,.var [.lit (.int .i64 0),.lit (.slice none 0 0),.lit (.slice none 0 0)]),(512,1,.var [.lit (.int .i64 e),.ref 896 1 0 b.length,.ref 897 1 0 c.length]),(896,1,.row true (ab eI b)),(897,1,.row true (ab eI c)),(1792,1,.row true (ab eI a))],2⟩
attribute[go_sem] pC
instance k280 {s:GShow} {v1:GState} {nodes:List Int}:Ctr (eZ s v1 nodes) (fun (res:GState × (List Int))=>ak prog 280 [.agg (GShow.encS s),.agg (GState.encS v1),.sl (ab eI nodes)] [] (.tup [.agg [.lit (.int .i64 res.1.now),.ref 20000 1 0 res.1.times.length,.ref 20001 1 0 res.1.values.length],.ref 20002 1 0 res.2.length]) [(20000,1,.row true (ab eI res.1.times)),(20001,1,.row true (ab eI res.1.values)),(20002,1,.row true (ab eI res.2))]):=⟨by
 intro res h0
 refine aw (ra:=[.homeCell 384 1,.homeCell 384 2,.home 7]) (md:=mdT) hT (hi:=hi00) func280 rfl rfl (by decide +kernel) (by simp) ?_
 unfold eZ at h0
 obtain⟨r01,g0,h0⟩:=ae h0
 simp(config:=cS)only[go_sem, *]
 have g0:=ctr g0
 refine ag g0 ?_
 obtain⟨q07,l0,h0⟩:=ae h0
 simp(config:=cS)only[go_sem, *]
 refine ah (m1:=.mk) (m2:=.mk) [.nf [2,3,4,6,8,15,16,17] [192,256,384,512,896,897]] (pB nodes ((nodes.length:Nat):Int) s.nodes s.ties s.horizon v1.now v1.times v1.values r01.now r01.values) l0 ?_ ?_
 ·simp(config:=cS)only[go_sem, *]
 ·have k0:=h0
  clear h0 l0
  intro _ s0 _ h0 gb0
  obtain⟨v17_1,h896_1⟩:=s0
  unfold gP at h0
  try dsimp only at h0
  obtain⟨_,h0⟩|⟨_,h0⟩:=itP h0
  ·exact run
  ·cases h0
   obtain rfl:=(aI gb0).symm
   clear gb0
   have h0:=k0
   clear k0
   try dsimp only at h0
   obtain⟨q06,l0,h0⟩:=ae h0
   simp(config:=cS)only[go_sem, *]
   refine ah (m1:=.mk) (m2:=.mk) [.nf [2,3,6,8,11,12] [192,384,512,896,897,1792]] (pC nodes s.nodes s.ties s.horizon r01.now h896_1 r01.values) l0 ?_ ?_
   ·simp(config:=cS)only[go_sem, *]
   ·have k0:=h0
    clear h0 l0
    intro _ s0 _ h0 gb0
    obtain⟨p_2,props_2⟩:=s0
    unfold gQ at h0
    try dsimp only at h0
    exact run⟩
instance k325 {s:GShow} {v1:GState} {nodes:List Int}:Ctr (jP s v1 nodes) (fun (res:GState × (List Int) × Bool)=>ak prog 325 [.agg (GShow.encS s),.agg (GState.encS v1),.sl (ab eI nodes)] [] (.tup [.agg [.lit (.int .i64 res.1.now),.ref 20000 1 0 res.1.times.length,.ref 20001 1 0 res.1.values.length],.ref 20002 1 0 res.2.1.length,.lit (.bool res.2.2)]) [(20000,1,.row true (ab eI res.1.times)),(20001,1,.row true (ab eI res.1.values)),(20002,1,.row true (ab eI res.2.1))]):=⟨by
 intro res h0
 refine aw (ra:=[.homeCell 384 1,.homeCell 384 2,.home 7]) (md:=mdT) hT (hi:=hi00) func325 rfl rfl (by decide +kernel) (by simp) ?_
 unfold jP at h0
 exact run⟩
def pD (a e:List Int)(f d:Int)(b:List Int):(Int × (List Int))→St
 | (g,c)=>⟨[(2,.sl (ab eI a)),(6,.ptr 384 1 0 0),(7,.ptr 448 1 0 0),(12,.sl (ab eI e)),(13,.lit (.int .i64 f)),(14,.lit (.int .i64 g))],[(384,1,.var [.lit (.int .i64 0),.lit (.slice none 0 0),.lit (.slice none 0 0)]),(448,1,.var [.lit (.int .i64 d),.ref 704 1 0 b.length,.ref 705 1 0 c.length]),(704,1,.row true (ab eI b)),(705,1,.row true (ab eI c))],2⟩
attribute[go_sem] pD
@[go_sem] def hi281_5:DT:=.r2 0 10 .nil
def Hc:Hint where
 acts:=fun _=>[]
 draws:=fun
  | 5=>⟨hi281_5,[[],[0],[],[2],[],[],[4,5],[4,5,6],.range 8,.range 9],.range 10⟩
  | _=>⟨.nil,[],[]⟩
theorem SP (i:Nat):Hc.acts i=[]:=rfl
theorem SQ (i:Nat):Hc.views i=none:=rfl
attribute[go_sem] SP SQ ntmps281 results281
@[go_sem] theorem Xf:(Hc.draws 5).order=hi281_5:=rfl
instance k281 {v0:GState} {props:List Int} {values:List Int}:Ctr (fa v0 props values) (fun (res:GState)=>ak prog 281 [.agg (GState.encS v0),.sl (ab eI props),.sl (ab eI values)] [] (.agg [.lit (.int .i64 res.now),.ref 20000 1 0 res.times.length,.ref 20001 1 0 res.values.length]) [(20000,1,.row true (ab eI res.times)),(20001,1,.row true (ab eI res.values))]):=⟨by
 intro res h0
 refine aw (ra:=[.homeCell 384 1,.homeCell 384 2]) (md:=mdT) hT (hi:=Hc) func281 rfl rfl (by decide +kernel) (by simp) ?_
 unfold fa at h0
 obtain⟨r01,g0,h0⟩:=ae h0
 simp(config:=cS)only[go_sem, *]
 have g0:=ctr g0
 refine ag g0 ?_
 obtain⟨q05,l0,h0⟩:=ae h0
 simp(config:=cS)only[go_sem, *]
 refine ah (m1:=.mk) (m2:=.mk) [.nf [2,6,7,12,13,14] [384,448,704,705]] (pD values props ((props.length:Nat):Int) r01.now r01.times) l0 ?_ ?_
 ·simp(config:=cS)only[go_sem, *]
 ·have k0:=h0
  clear h0 l0
  intro _ s0 _ h0 gb0
  obtain⟨v14_1,h705_1⟩:=s0
  unfold gR at h0
  try dsimp only at h0
  exact run⟩
def qC (e f:Int)(g h i:List Int)(j:Int)(b c d:List Int):(Int × (List Int))→St
 | (k,a)=>⟨[(5,.ptr 320 1 0 0),(6,.ptr 384 1 0 0),(10,.ptr 640 1 0 0),(11,.ref 2946 1 0 d.length),(13,.ref 3904 1 0 a.length),(62,.ref 2946 1 0 d.length),(63,.lit (.int .i64 e)),(64,.lit (.int .i64 k))],[(320,1,.var [.lit (.int .i64 f),.sl (ab eI g),.sl (ab eI h),.sl (ab eI i)]),(384,1,.var [.lit (.int .i64 0),.lit (.slice none 0 0),.lit (.slice none 0 0)]),(640,1,.var [.lit (.int .i64 j),.ref 2944 1 0 b.length,.ref 2945 1 0 c.length]),(2944,1,.row true (ab eI b)),(2945,1,.row true (ab eI c)),(2946,1,.row true (ab eI d)),(3904,1,.row true (ab eI a))],2⟩
attribute[go_sem] qC
instance k298 {s:GShow} {v1:GState} {e:GEntry}:Ctr (lg s v1 e) (fun (res:GState × Bool)=>ak prog 298 [.agg (GShow.encS s),.agg (GState.encS v1),.agg (GEntry.encS e)] [] (.tup [.agg [.lit (.int .i64 res.1.now),.ref 20000 1 0 res.1.times.length,.ref 20001 1 0 res.1.values.length],.lit (.bool res.2)]) [(20000,1,.row true (ab eI res.1.times)),(20001,1,.row true (ab eI res.1.values))]):=⟨by
 intro res h0
 refine aw (ra:=[.homeCell 384 1,.homeCell 384 2]) (md:=mdT) hT (hi:=hi00) func298 rfl rfl (by decide +kernel) (by simp) ?_
 unfold lg at h0
 obtain⟨r01,g0,h0⟩:=ae h0
 simp(config:=cS)only[go_sem, *]
 have g0:=ctr g0
 refine ag g0 ?_
 obtain⟨_,h0⟩|⟨_,h0⟩:=itB h0
 ·obtain⟨_,h0⟩|⟨_,h0⟩:=itP h0
  ·obtain⟨r02,g0,h0⟩:=ae h0
   simp(config:=cS)only[go_sem, *]
   have g0:=ctr g0
   refine ag g0 ?_
   obtain⟨_,h0⟩|⟨_,h0⟩:=itB h0
   ·obtain⟨r03,g0,h0⟩:=ae h0
    simp(config:=cS)only[go_sem, *]
    have g0:=ctr g0
    refine ag g0 ?_
    obtain⟨_,h0⟩|⟨_,h0⟩:=itB h0
    ·obtain⟨_,h0⟩|⟨_,h0⟩:=itP h0
     ·obtain⟨q07,l0,h0⟩:=ae h0
      simp(config:=cS)only[go_sem, *]
      refine ah (m1:=.mk) (m2:=.mk) [.nf [5,6,10,11,13,62,63,64] [320,384,640,2944,2945,2946,3904]] (qC ((r03.2.1.length:Nat):Int) e.now e.ties e.nodes e.values r03.1.now r03.1.times r03.1.values r03.2.1) l0 ?_ ?_
      ·simp(config:=cS)only[go_sem, *]
      ·have k0:=h0
       clear h0 l0
       intro _ s0 _ h0 gb0
       obtain⟨v64_1,values_1⟩:=s0
       unfold fH at h0
       try dsimp only at h0
       exact run
     ·exact run
    ·exact run
   ·exact run
  ·exact run
 ·exact run⟩
def pE (d:List GEntry)(e:Int)(f:List GNode)(g:List GTie)(h:Int):(Int × Int × (List Int) × (List Int))→St
 | (i,c,a,b)=>⟨[(2,.ptr 128 1 0 0),(4,.ptr 256 1 0 0),(6,.ptr 384 1 0 0),(13,.sl (ab GEntry.encS d)),(14,.lit (.int .i64 e)),(15,.lit (.int .i64 i))],[(128,1,.var [.sl (ab GNode.encS f),.sl (ab GTie.enc g),.lit (.int .i64 h)]),(256,1,.var [.lit (.int .i64 0),.lit (.slice none 0 0),.lit (.slice none 0 0)]),(384,1,.var [.lit (.int .i64 c),.ref 768 1 0 a.length,.ref 769 1 0 b.length]),(768,1,.row true (ab eI a)),(769,1,.row true (ab eI b))],2⟩
attribute[go_sem] pE
@[go_sem] def hi271_10:DT:=.i1 0 (.i2 1 (.i0 2 [0] (.i2 3 (.i2 4 .nil))))
def Hd:Hint where
 acts:=fun _=>[]
 draws:=fun
  | 10=>⟨hi271_10,[[],[],[1],[0,1,2],[0,1,2,3]],.range 5⟩
  | _=>⟨.nil,[],[]⟩
theorem SR (i:Nat):Hd.acts i=[]:=rfl
theorem SS (i:Nat):Hd.views i=none:=rfl
attribute[go_sem] SR SS ntmps271 results271
@[go_sem] theorem Wc:(Hd.draws 10).order=hi271_10:=rfl
instance k271 {s:GShow} {log:List GEntry}:Ctr (km s log) (fun (res:GState × Bool)=>ak prog 271 [.agg (GShow.encS s),.sl (ab GEntry.encS log)] [] (.tup [.agg [.lit (.int .i64 res.1.now),.ref 20000 1 0 res.1.times.length,.ref 20001 1 0 res.1.values.length],.lit (.bool res.2)]) [(20000,1,.row true (ab eI res.1.times)),(20001,1,.row true (ab eI res.1.values))]):=⟨by
 intro res h0
 refine aw (ra:=[.homeCell 256 1,.homeCell 256 2]) (md:=mdT) hT (hi:=Hd) func271 rfl rfl (by decide +kernel) (by simp) ?_
 unfold km at h0
 obtain⟨r01,g0,h0⟩:=ae h0
 simp(config:=cS)only[go_sem, *]
 have g0:=ctr g0
 refine ag g0 ?_
 obtain⟨q05,l0,h0⟩:=ae h0
 simp(config:=cS)only[go_sem, *]
 refine ah (m1:=.mk) (m2:=.mk) [.nfp [2,4,6,13,14,15] [(128,128),(256,256),(384,384),(1472,768),(768,768),(1473,769),(769,769)] []] (pE log ((log.length:Nat):Int) s.nodes s.ties s.horizon) l0 ?_ ?_
 ·simp(config:=cS)only[go_sem, *]
 ·have k0:=h0
  clear h0 l0
  intro _ s0 _ h0 gb0
  obtain⟨v15_1,v6_0_1,h768_1,h769_1⟩:=s0
  unfold gS at h0
  try dsimp only at h0
  exact run⟩
instance k272 {a:GState} {b:GState}:Ctr (jA a b) (fun (res:Bool)=>ak prog 272 [.agg (GState.encS a),.agg (GState.encS b)] [] (.lit (.bool res)) []):=⟨by
 intro res h0
 refine co (hi:=hi00) func272 rfl rfl ?_
 unfold jA at h0
 exact run⟩
instance k214 {d:GDesk}:Ctr (kM d) (fun (res:Bool)=>ak prog 214 [.agg (GDesk.encS d)] [] (.lit (.bool res)) []):=⟨by
 intro res h0
 refine co (hi:=hi00) func214 rfl rfl ?_
 unfold kM at h0
 exact run⟩
def pF (d e:Int)(b c a:List Int)(f:Int):St:=⟨[(2,.lit (.int .i64 d)),(4,.ptr 256 1 0 0),(10,.ref 640 1 0 a.length),(11,.lit (.int .i64 e)),(12,.lit (.int .i64 f))],[(256,1,.var [.sl (ab eI b),.sl (ab eI c)]),(640,1,.row true (ab eI a))],2⟩
attribute[go_sem] pF
instance k120 {s:GShow} {v1:GChoice} {tie:Int}:Ctr (im s v1 tie) (fun (res:Int)=>ak prog 120 [.agg (GShow.encS s),.agg [.sl (ab eI v1.lengths),.sl (ab eI v1.values)],.lit (.int .i64 tie)] [] (.lit (.int .i64 res)) []):=⟨by
 intro res h0
 refine co (hi:=hi00) func120 rfl rfl ?_
 unfold im at h0
 obtain⟨r01,g0,h0⟩:=ae h0
 simp(config:=cS)only[go_sem, *]
 have g0:=ctr g0
 refine ag g0 ?_
 obtain⟨q04,l0,h0⟩:=ae h0
 simp(config:=cS)only[go_sem, *]
 refine ah (m1:=.mk) (m2:=.mk) [.nf [2,4,10,11,12] [256,640]] (pF tie ((r01.length:Nat):Int) v1.lengths v1.values r01) l0 ?_ ?_
 ·simp(config:=cS)only[go_sem, *]
 ·have k0:=h0
  clear h0 l0
  intro _ v12_1 _ h0 gb0
  unfold eF at h0
  try dsimp only at h0
  exact run⟩
def pG (h:Int)(i:List GNode)(j:List GTie)(k c:Int)(d e f g a:List Int):(Int × (List Int))→St
 | (l,b)=>⟨[(3,.ptr 192 1 0 0),(4,.ptr 256 1 0 0),(5,.ptr 320 1 0 0),(7,.ref 640 1 0 b.length),(13,.ref 832 1 0 a.length),(14,.lit (.int .i64 h)),(15,.lit (.int .i64 l))],[(192,1,.var [.sl (ab GNode.encS i),.sl (ab GTie.enc j),.lit (.int .i64 k)]),(256,1,.var [.lit (.int .i64 c),.sl (ab eI d),.sl (ab eI e)]),(320,1,.var [.sl (ab eI f),.sl (ab eI g)]),(640,1,.row true (ab eI b)),(832,1,.row true (ab eI a))],2⟩
attribute[go_sem] pG
@[go_sem] def hi215_5:DT:=.i1 0 (.i1 1 (.i1 2 (.i1 3 (.i1 4 (.i1 5 (.i2 6 (.i1 7 (.i1 8 (.i1 9 (.i1 10 (.i1 11 (.r2 12 4 (.i0 16 [0,1,2,3,4,5,7,8,9,10,11] (.i2 17 .nil))))))))))))))
def He:Hint where
 acts:=fun _=>[]
 draws:=fun
  | 5=>⟨hi215_5,[[],[0],[],[2],[],[4],[],[4,5,6],[4,5,6,7],[4,5,6,7,8],[2,3,4,5,6,7,8,9],[2,3,4,5,6,7,8,9,10],.range 12,[],[],[],[13,14,15],.range 17],.range 18⟩
  | _=>⟨.nil,[],[]⟩
theorem ST (i:Nat):He.acts i=[]:=rfl
theorem SU (i:Nat):He.views i=none:=rfl
attribute[go_sem] ST SU ntmps215 results215
@[go_sem] theorem Xg:(He.draws 5).order=hi215_5:=rfl
instance k215 {s:GShow} {v1:GState} {v2:GChoice}:Ctr (ko s v1 v2) (fun (res:List Int)=>ak prog 215 [.agg (GShow.encS s),.agg (GState.encS v1),.agg [.sl (ab eI v2.lengths),.sl (ab eI v2.values)]] [] (.ref 20000 1 0 res.length) [(20000,1,.row true (ab eI res))]):=⟨by
 intro res h0
 refine aw (ra:=[.home 6]) (md:=mdT) hT (hi:=He) func215 rfl rfl (by decide +kernel) (by simp) ?_
 unfold ko at h0
 obtain⟨r01,g0,h0⟩:=ae h0
 simp(config:=cS)only[go_sem, *]
 have g0:=ctr g0
 refine ag g0 ?_
 obtain⟨q06,l0,h0⟩:=ae h0
 simp(config:=cS)only[go_sem, *]
 refine ah (m1:=.mk) (m2:=.mk) [.nf [3,4,5,7,13,14,15] [192,256,320,640,832]] (pG ((r01.length:Nat):Int) s.nodes s.ties s.horizon v1.now v1.times v1.values v2.lengths v2.values r01) l0 ?_ ?_
 ·simp(config:=cS)only[go_sem, *]
 ·have k0:=h0
  clear h0 l0
  intro _ s0 _ h0 gb0
  obtain⟨v15_1,out_1⟩:=s0
  unfold gT at h0
  try dsimp only at h0
  exact run⟩
@[go_sem] def hi253_10:DT:=.r2 0 21 .nil
@[go_sem] def hi253_8:DT:=.r2 0 21 .nil
def Df:Hint where
 acts:=fun _=>[]
 draws:=fun
  | 8=>⟨hi253_8,[[],[0],[],[2],[0,1,2,3],.range 5,.range 6,[],[7],.range 9,.range 10,.range 11,.range 12,.range 13,.range 12,.range 15,.range 12,[0,1,2,3,4,5,6,7,8,9,10,11,16],.range 18,.range 19,.range 20],.range 21⟩
  | 10=>⟨hi253_10,[[],[0],[],[2],[0,1,2,3],.range 5,.range 6,[],[7],.range 9,.range 10,.range 11,.range 12,.range 12,[0,1,2,3,4,5,6,7,8,9,10,11,13],.range 15,.range 12,[0,1,2,3,4,5,6,7,8,9,10,11,16],.range 18,.range 19,.range 20],.range 21⟩
  | _=>⟨.nil,[],[]⟩
theorem SV (i:Nat):Df.acts i=[]:=rfl
theorem SW (i:Nat):Df.views i=none:=rfl
attribute[go_sem] SV SW ntmps253 results253
@[go_sem] theorem Xh:(Df.draws 8).order=hi253_8:=rfl
@[go_sem] theorem Wd:(Df.draws 10).order=hi253_10:=rfl
instance k253 {s:GShow} {v1:GState} {t:GTie}:Ctr (mq s v1 t) (fun (res:Bool)=>ak prog 253 [.agg (GShow.encS s),.agg (GState.encS v1),.agg (GTie.enc t)] [] (.lit (.bool res)) []):=⟨by
 intro res h0
 refine co (hi:=Df) func253 rfl rfl ?_
 unfold mq at h0
 exact run⟩
def pH (a:List GTie)(e:Int)(f:List GNode)(g b:Int)(c d:List Int)(h:Int):St:=⟨[(2,.ptr 128 1 0 0),(3,.ptr 192 1 0 0),(10,.sl (ab GTie.enc a)),(11,.lit (.int .i64 e)),(12,.lit (.int .i64 h))],[(128,1,.var [.sl (ab GNode.encS f),.sl (ab GTie.enc a),.lit (.int .i64 g)]),(192,1,.var [.lit (.int .i64 b),.sl (ab eI c),.sl (ab eI d)])],2⟩
attribute[go_sem] pH
def pI (a:List GNode)(e:Int)(f:List GTie)(g b:Int)(c d:List Int)(h:Int):St:=⟨[(2,.ptr 128 1 0 0),(3,.ptr 192 1 0 0),(22,.sl (ab GNode.encS a)),(23,.lit (.int .i64 e)),(24,.lit (.int .i64 h))],[(128,1,.var [.sl (ab GNode.encS a),.sl (ab GTie.enc f),.lit (.int .i64 g)]),(192,1,.var [.lit (.int .i64 b),.sl (ab eI c),.sl (ab eI d)])],2⟩
attribute[go_sem] pI
instance k180 {s:GShow} {v1:GState}:Ctr (fb s v1) (fun (res:Bool)=>ak prog 180 [.agg (GShow.encS s),.agg (GState.encS v1)] [] (.lit (.bool res)) []):=⟨by
 intro res h0
 refine co (hi:=hi00) func180 rfl rfl ?_
 unfold fb at h0
 obtain⟨q07,l0,h0⟩:=ae h0
 simp(config:=cS)only[go_sem, *]
 refine ah (m1:=.mk) (m2:=.mk) [.nf [2,3,10,11,12] [128,192]] (pH s.ties ((s.ties.length:Nat):Int) s.nodes s.horizon v1.now v1.times v1.values) l0 ?_ ?_
 ·simp(config:=cS)only[go_sem, *]
 ·have k0:=h0
  clear h0 l0
  intro _ v12_1 _ h0 gb0
  unfold eG at h0
  try dsimp only at h0
  obtain⟨_,h0⟩|⟨_,h0⟩:=itP h0
  ·exact run
  ·cases h0
   obtain rfl:=(aI gb0).symm
   clear gb0
   have h0:=k0
   clear k0
   try dsimp only at h0
   obtain⟨q06,l0,h0⟩:=ae h0
   simp(config:=cS)only[go_sem, *]
   refine ah (m1:=.mk) (m2:=.mk) [.nf [2,3,22,23,24] [128,192]] (pI s.nodes ((s.nodes.length:Nat):Int) s.ties s.horizon v1.now v1.times v1.values) l0 ?_ ?_
   ·simp(config:=cS)only[go_sem, *]
   ·have k0:=h0
    clear h0 l0
    intro _ v24_2 _ h0 gb0
    unfold ca at h0
    try dsimp only at h0
    exact run⟩
def rx (e:List GNode)(f a:Int)(b c:List Int)(d:Int):St:=⟨[(3,.ptr 192 1 0 0),(8,.sl (ab GNode.encS e)),(9,.lit (.int .i64 f)),(10,.lit (.int .i64 d))],[(192,1,.var [.lit (.int .i64 a),.sl (ab eI b),.sl (ab eI c)])],2⟩
attribute[go_sem] rx
instance k181 {s:GShow} {v1:GState}:Ctr (iu s v1) (fun (res:Bool)=>ak prog 181 [.agg (GShow.encS s),.agg (GState.encS v1)] [] (.lit (.bool res)) []):=⟨by
 intro res h0
 refine co (hi:=hi00) func181 rfl rfl ?_
 unfold iu at h0
 obtain⟨q04,l0,h0⟩:=ae h0
 simp(config:=cS)only[go_sem, *]
 refine ah (m1:=.mk) (m2:=.mk) [.nf [3,8,9,10] [192]] (rx s.nodes ((s.nodes.length:Nat):Int) v1.now v1.times v1.values) l0 ?_ ?_
 ·simp(config:=cS)only[go_sem, *]
 ·have k0:=h0
  clear h0 l0
  intro _ v10_1 _ h0 gb0
  unfold gz at h0
  try dsimp only at h0
  exact run⟩
def qD (a b:List Int)(c:Int)(d:List GNode)(e:List GTie)(f g:Int)(h i:List Int)(j:Bool)(k:List GEntry)(l:Int):St:=⟨[(1,.sl (ab eI a)),(3,.ptr 192 1 0 0),(6,.ptr 384 1 0 0),(21,.sl (ab eI b)),(22,.lit (.int .i64 c)),(23,.lit (.int .i64 l))],[(192,1,.var [.sl (ab GNode.encS d),.sl (ab GTie.enc e),.lit (.int .i64 f),.lit (.int .i64 g),.sl (ab eI h),.sl (ab eI i),.lit (.bool j),.sl (ab GEntry.encS k)]),(384,1,.var [.lit (.int .i64 0),.lit (.slice none 0 0),.lit (.slice none 0 0)])],2⟩
attribute[go_sem] qD
instance k232 {d:GDesk} {ties:List Int} {values:List Int}:Ctr (li d ties values) (fun (res:GState × Int)=>ak prog 232 [.agg (GDesk.encS d),.sl (ab eI ties),.sl (ab eI values)] [] (.tup [.agg [.lit (.int .i64 res.1.now),.ref 20000 1 0 res.1.times.length,.ref 20001 1 0 res.1.values.length],.lit (.int .i64 res.2)]) [(20000,1,.row true (ab eI res.1.times)),(20001,1,.row true (ab eI res.1.values))]):=⟨by
 intro res h0
 refine aw (ra:=[.homeCell 384 1,.homeCell 384 2]) (md:=mdT) hT (hi:=hi00) func232 rfl rfl (by decide +kernel) (by simp) ?_
 unfold li at h0
 obtain⟨r01,g0,h0⟩:=ae h0
 simp(config:=cS)only[go_sem, *]
 have g0:=ctr g0
 refine ag g0 ?_
 obtain⟨_,h0⟩|⟨_,h0⟩:=itB h0
 ·obtain⟨_,h0⟩|⟨_,h0⟩:=itP h0
  ·obtain⟨q06,l0,h0⟩:=ae h0
   simp(config:=cS)only[go_sem, *]
   refine ah (m1:=.mk) (m2:=.mk) [.nf [1,3,6,21,22,23] [192,384]] (qD ties values ((values.length:Nat):Int) d.show_.nodes d.show_.ties d.show_.horizon d.state.now d.state.times d.state.values d.lazy d.log) l0 ?_ ?_
   ·simp(config:=cS)only[go_sem, *]
   ·have k0:=h0
    clear h0 l0
    intro _ v23_1 _ h0 gb0
    unfold fI at h0
    try dsimp only at h0
    exact run
  ·exact run
 ·exact run⟩
def pJ (c:List GNode)(h:Int)(i:List GTie)(j e:Int)(f g:List Int):(Int × (List Int) × (List Int) × (List Bool))→St
 | (k,d,a,b)=>⟨[(2,.ptr 128 1 0 0),(3,.ptr 192 1 0 0),(7,.ref 832 1 0 d.length),(8,.ref 896 1 0 a.length),(9,.ref 960 1 0 b.length),(17,.sl (ab GNode.encS c)),(18,.lit (.int .i64 h)),(19,.lit (.int .i64 k))],[(128,1,.var [.sl (ab GNode.encS c),.sl (ab GTie.enc i),.lit (.int .i64 j)]),(192,1,.var [.lit (.int .i64 e),.sl (ab eI f),.sl (ab eI g)]),(832,1,.row true (ab eI d)),(896,1,.row true (ab eI a)),(960,1,.row true (ab eB b))],2⟩
attribute[go_sem] pJ
instance k254 {s:GShow} {v1:GState}:Ctr (kq s v1) (fun (res:(List Int) × (List Int) × (List Bool))=>ak prog 254 [.agg (GShow.encS s),.agg (GState.encS v1)] [] (.tup [.ref 20000 1 0 res.1.length,.ref 20001 1 0 res.2.1.length,.ref 20002 1 0 res.2.2.length]) [(20000,1,.row true (ab eI res.1)),(20001,1,.row true (ab eI res.2.1)),(20002,1,.row true (ab eB res.2.2))]):=⟨by
 intro res h0
 refine aw (ra:=[.home 4,.home 5,.home 6]) (md:=mdT) hT (hi:=hi00) func254 rfl rfl (by decide +kernel) (by simp) ?_
 unfold kq at h0
 obtain⟨q04,l0,h0⟩:=ae h0
 simp(config:=cS)only[go_sem, *]
 refine ah (m1:=.mk) (m2:=.mk) [.nf [2,3,7,8,9,17,18,19] [128,192,832,896,960]] (pJ s.nodes ((s.nodes.length:Nat):Int) s.ties s.horizon v1.now v1.times v1.values) l0 ?_ ?_
 ·simp(config:=cS)only[go_sem, *]
 ·have k0:=h0
  clear h0 l0
  intro _ s0 _ h0 gb0
  obtain⟨v19_1,low_1,high_1,sure_1⟩:=s0
  unfold gU at h0
  try dsimp only at h0
  exact run⟩
def oo (c:Int)(d:List GTie)(f:Int)(g:List GNode)(h:Int)(a:List Bool):(Int × (List Int) × (List Int))→St
 | (i,e,b)=>⟨[(2,.ptr 128 1 0 0),(5,.ref 960 1 0 e.length),(6,.ref 961 1 0 b.length),(7,.ref 962 1 0 a.length),(8,.lit (.int .i64 c)),(27,.sl (ab GTie.enc d)),(28,.lit (.int .i64 f)),(29,.lit (.int .i64 i))],[(128,1,.var [.sl (ab GNode.encS g),.sl (ab GTie.enc d),.lit (.int .i64 h)]),(960,1,.row true (ab eI e)),(961,1,.row true (ab eI b)),(962,1,.row true (ab eB a))],2⟩
attribute[go_sem] oo
def oq (e:List GNode)(f:List GTie)(g:Int)(a:List Bool):(Int × (List Int) × (List Int))→St
 | (c,d,b)=>⟨[(2,.ptr 128 1 0 0),(5,.ref 960 1 0 d.length),(6,.ref 961 1 0 b.length),(7,.ref 962 1 0 a.length),(8,.lit (.int .i64 c))],[(128,1,.var [.sl (ab GNode.encS e),.sl (ab GTie.enc f),.lit (.int .i64 g)]),(960,1,.row true (ab eI d)),(961,1,.row true (ab eI b)),(962,1,.row true (ab eB a))],2⟩
attribute[go_sem] oq
def ot (d:Int)(c a:List Int)(b:List Bool)(e:Int):St:=⟨[(5,.ref 960 1 0 c.length),(6,.ref 961 1 0 a.length),(7,.ref 962 1 0 b.length),(121,.lit (.int .i64 d)),(122,.lit (.int .i64 e))],[(960,1,.row true (ab eI c)),(961,1,.row true (ab eI a)),(962,1,.row true (ab eB b))],2⟩
attribute[go_sem] ot
@[go_sem] def hi182_17:DT:=.r2 0 15 .nil
@[go_sem] def hi182_12:DT:=.r2 0 19 .nil
@[go_sem] def hi182_11:DT:=.r2 0 19 .nil
@[go_sem] def hi182_10:DT:=.r2 0 19 .nil
@[go_sem] def hi182_9:DT:=.r2 0 19 .nil
def uY:Hint where
 acts:=fun _=>[]
 draws:=fun
  | 9=>⟨hi182_9,[[],[],[1],[],[],[4],[3,4,5],[3,4,5,6],[],[],[9],[8,9,10],[8,9,10,11],[],[13],[8,9,10,11,12,13,14],[3,4,5,6,7,8,9,10,11,12,13,14,15],.range 17,.range 18],.range 19⟩
  | 10=>⟨hi182_10,[[],[],[1],[],[],[4],[3,4,5],[3,4,5,6],[],[],[9],[8,9,10],[8,9,10,11],[],[13],[8,9,10,11,12,13,14],[3,4,5,6,7,8,9,10,11,12,13,14,15],.range 17,.range 18],.range 19⟩
  | 11=>⟨hi182_11,[[],[],[1],[],[],[4],[3,4,5],[3,4,5,6],[],[],[9],[8,9,10],[8,9,10,11],[],[13],[8,9,10,11,12,13,14],[3,4,5,6,7,8,9,10,11,12,13,14,15],.range 17,.range 18],.range 19⟩
  | 12=>⟨hi182_12,[[],[],[1],[],[],[4],[3,4,5],[3,4,5,6],[],[],[9],[8,9,10],[8,9,10,11],[],[13],[8,9,10,11,12,13,14],[3,4,5,6,7,8,9,10,11,12,13,14,15],.range 17,.range 18],.range 19⟩
  | 17=>⟨hi182_17,[[],[],[0,1],[0,1,2],[0,1,2,3],.range 5,.range 5,.range 7,.range 8,.range 5,.range 5,[0,1,2,3,4,9,10],[0,1,2,3,4,9,10,11],.range 13,.range 14],.range 15⟩
  | _=>⟨.nil,[],[]⟩
theorem SX (i:Nat):uY.acts i=[]:=rfl
theorem SY (i:Nat):uY.views i=none:=rfl
attribute[go_sem] SX SY ntmps182 results182
@[go_sem] theorem Xi:(uY.draws 9).order=hi182_9:=rfl
@[go_sem] theorem We:(uY.draws 10).order=hi182_10:=rfl
@[go_sem] theorem Wf:(uY.draws 11).order=hi182_11:=rfl
@[go_sem] theorem Wg:(uY.draws 12).order=hi182_12:=rfl
@[go_sem] theorem Wh:(uY.draws 17).order=hi182_17:=rfl
instance k182 {s:GShow} {v1:GState}:Ctr (iQ s v1) (fun (res:Bool)=>ak prog 182 [.agg (GShow.encS s),.agg (GState.encS v1)] [] (.lit (.bool res)) []):=⟨by
 intro res h0
 refine co (hi:=uY) func182 rfl rfl ?_
 unfold iQ at h0
 obtain⟨r01,g0,h0⟩:=ae h0
 simp(config:=cS)only[go_sem, *]
 have g0:=ctr g0
 refine ag g0 ?_
 obtain⟨q18,l0,h0⟩:=ae h0
 simp(config:=cS)only[go_sem, *]
 refine ah (m1:=.mk) (m2:=.mk) [.nf [2,5,6,7,8] [128,960,961,962]] (oq s.nodes s.ties s.horizon r01.2.2) l0 ?_ ?_
 ·simp(config:=cS)only[go_sem, *]
 ·have k0:=h0
  clear h0 l0
  intro _ s0 _ h0 gb0
  obtain⟨round_1,low_1,high_1⟩:=s0
  unfold fK at h0
  try dsimp only at h0
  obtain⟨_,h0⟩|⟨_,h0⟩:=itP h0
  ·obtain⟨q13,l0,h0⟩:=ae h0
   simp(config:=cS)only[go_sem, *]
   refine ah (m1:=.mk) (m2:=.mk) [.nf [2,5,6,7,8,27,28,29] [128,960,961,962]] (oo round_1 s.ties ((s.ties.length:Nat):Int) s.nodes s.horizon r01.2.2) l0 ?_ ?_
   ·simp(config:=cS)only[go_sem, *]
   ·have k0:=h0
    clear h0 l0
    intro _ s0 _ h0 gb0
    obtain⟨v29_2,low_2,high_2⟩:=s0
    unfold fJ at h0
    try dsimp only at h0
    exact run
  ·cases h0
   obtain rfl:=(aI gb0).symm
   clear gb0
   have h0:=k0
   clear k0
   try dsimp only at h0
   obtain⟨q17,l0,h0⟩:=ae h0
   simp(config:=cS)only[go_sem, *]
   refine ah (m1:=.mk) (m2:=.mk) [.nf [5,6,7,121,122] [960,961,962]] (ot ((low_1.length:Nat):Int) low_1 high_1 r01.2.2) l0 ?_ ?_
   ·simp(config:=cS)only[go_sem, *]
   ·have k0:=h0
    clear h0 l0
    intro _ v122_3 _ h0 gb0
    unfold fL at h0
    try dsimp only at h0
    exact run⟩
def mL (a:List Int)(b c:Int):St:=⟨[(0,.sl (ab eI a)),(9,.sl (ab eI a)),(10,.lit (.int .i64 b)),(11,.lit (.int .i64 c))],[],2⟩
attribute[go_sem] mL
def mM (a:List Int)(n c:Int)(b:List (List Int)):(Int × (List Int))→St
 | (d,l)=>⟨[(0,.sl (ab eI a)),(5,.ref 2112 1 0 b.length),(6,.lit (.int .i64 n)),(7,.ref 2688 1 0 l.length),(44,.lit (.int .i64 c)),(45,.lit (.int .i64 d))],[(2112,1,.row true (ab (eLO eI) b)),(2688,1,.row true (ab eI l))],2⟩
attribute[go_sem] mM
def mN (a:List Int):(Int × (List (List Int)))→St
 | (n,b)=>⟨[(0,.sl (ab eI a)),(5,.ref 2112 1 0 b.length),(6,.lit (.int .i64 n))],[(2112,1,.row true (ab (eLO eI) b))],2⟩
attribute[go_sem] mN
instance k295 {props:List Int}:Ctr (fM props) (fun (res:List (List Int))=>ak prog 295 [.sl (ab eI props)] [] (.ref 20000 1 0 res.length) [(20000,1,.row true (ab (eLO eI) res))]):=⟨by
 intro res h0
 refine aw (ra:=[.home 2]) (md:=mdT) hT (hi:=hi00) func295 rfl rfl (by decide +kernel) (by simp) ?_
 unfold fM at h0
 obtain⟨q06,l0,h0⟩:=ae h0
 simp(config:=cS)only[go_sem, *]
 refine ah (m1:=.mk) (m2:=.mk) [.nf [0,9,10,11] []] (mL props ((props.length:Nat):Int)) l0 ?_ ?_
 ·simp(config:=cS)only[go_sem, *]
 ·have k0:=h0
  clear h0 l0
  intro _ v11_1 _ h0 gb0
  unfold dI at h0
  try dsimp only at h0
  obtain⟨_,h0⟩|⟨_,h0⟩:=itP h0
  ·exact run
  ·cases h0
   obtain rfl:=(aI gb0).symm
   clear gb0
   have h0:=k0
   clear k0
   try dsimp only at h0
   obtain⟨q05,l0,h0⟩:=ae h0
   simp(config:=cS)only[go_sem, *]
   refine ah (m1:=.mk) (m2:=.mk) [.nf [0,5,6] [2112]] (mN props) l0 ?_ ?_
   ·simp(config:=cS)only[go_sem, *]
   ·have k0:=h0
    clear h0 l0
    intro _ s0 _ h0 gb0
    obtain⟨n_2,out_2⟩:=s0
    unfold dK at h0
    try dsimp only at h0
    obtain⟨_,h0⟩:=ckN h0
    obtain⟨_,h0⟩|⟨_,h0⟩:=itP h0
    ·obtain⟨q04,l0,h0⟩:=ae h0
     simp(config:=cS)only[go_sem, *]
     refine ah (m1:=.mk) (m2:=.mk) [.nf [0,5,6,7,44,45] [2112,2688]] (mM props n_2 ((props.length:Nat):Int) out_2) l0 ?_ ?_
     ·simp(config:=cS)only[go_sem, *]
     ·have k0:=h0
      clear h0 l0
      intro _ s0 _ h0 gb0
      obtain⟨v45_3,l_3⟩:=s0
      unfold dJ at h0
      try dsimp only at h0
      exact run
    ·exact run⟩
def ry (e:Int)(f:List GNode)(g:List GTie)(h i:Int)(b c a:List Int)(d:List (List Int))(j:Int):St:=⟨[(3,.ptr 192 1 0 0),(7,.ptr 448 1 0 0),(8,.ref 962 1 0 a.length),(19,.ref 1216 1 0 d.length),(20,.lit (.int .i64 e)),(21,.lit (.int .i64 j))],[(192,1,.var [.sl (ab GNode.encS f),.sl (ab GTie.enc g),.lit (.int .i64 h)]),(448,1,.var [.lit (.int .i64 i),.ref 960 1 0 b.length,.ref 961 1 0 c.length]),(960,1,.row true (ab eI b)),(961,1,.row true (ab eI c)),(962,1,.row true (ab eI a)),(1216,1,.tree (ab (eLS eI) d))],2⟩
attribute[go_sem] ry
@[go_sem] def hi257_5:DT:=.i1 0 (.r2 1 3 (.i0 4 [0] (.i2 5 (.i2 6 .nil))))
def Hf:Hint where
 acts:=fun _=>[]
 draws:=fun
  | 5=>⟨hi257_5,[[],[],[],[],[1,2,3],.range 5,.range 6],.range 7⟩
  | _=>⟨.nil,[],[]⟩
@[go_sem] theorem XY (i:Nat):Hf.acts i=[]:=rfl
theorem SZ (i:Nat):Hf.views i=none:=rfl
attribute[go_sem] SZ ntmps257 results257
@[go_sem] theorem Xj:(Hf.draws 5).order=hi257_5:=rfl
theorem uu {rec:GShow→GState→Option Bool}(hrec:∀ {s:GShow} {v1:GState} {res:Bool},rec s v1=some res→ak prog 93 [.agg (GShow.encS s),.agg (GState.encS v1)] [] (.lit (.bool res)) []){s:GShow}{v1:GState}{nodes:List Int}{res:Bool}(h:iv rec s v1 nodes=some res):ak prog 257 [.agg (GShow.encS s),.agg (GState.encS v1),.sl (ab eI nodes)] [] (.lit (.bool res)) []:=by
 refine co (hi:=Hf) func257 rfl rfl ?_
 unfold iv at h
 obtain⟨r01,g1,h⟩:=ae h
 simp(config:=cS)only[go_sem]
 have g1:=ctr g1
 refine ag g1 ?_
 obtain⟨r02,g2,h⟩:=ae h
 simp(config:=cS)only[go_sem]
 have g2:=ctr g2
 refine ag g2 ?_
 obtain⟨q06,l3,h⟩:=ae h
 simp(config:=cS)only[go_sem]
 refine ah (m1:=.mk) (m2:=.mk) [.freeze [1216],.nf [3,7,8,19,20,21] [192,448,960,961,962,1216]] (ry ((r02.length:Nat):Int) s.nodes s.ties s.horizon r01.1.now r01.1.times r01.1.values r01.2 r02) l3 ?_ ?_
 ·simp(config:=cS)only[go_sem]
 ·intro nb4 v21_1 bb4 b4 gb4
  unfold jB at b4
  try dsimp only at b4
  obtain⟨h5,b4⟩|⟨h5,b4⟩:=aZ b4
  ·obtain⟨x03,g6,b4⟩:=ae b4
   obtain⟨h7,h8,h9⟩:=eA g6
   obtain⟨r04,g10,b4⟩:=ae b4
   simp(config:=cS)only[go_sem,eqT h5,h7,h8,h9]
   have g10:=ctr g10
   refine ag g10 ?_
   obtain⟨r05,g11,b4⟩:=ae b4
   simp(config:=cS)only[go_sem,eqT h5,h7,h8,h9]
   refine ag (hrec g11) ?_
   obtain⟨h12,b4⟩|⟨h12,b4⟩:=aZ b4
   ·cases b4
    simp(config:=cS)only[go_sem,eqT h5,h7,h8,h9,eZt h12]
    refine ig gb4 ?_
    simp(config:=cS)only[go_sem,eqT h5,h7,h8,h9,eZt h12]
   ·cases b4
    obtain rfl:=(aI gb4).symm
    try dsimp only at h
    cases h
    simp(config:=cS)only[go_sem,eqT h5,h7,h8,h9,eZf h12]
  ·cases b4
   obtain rfl:=(aI gb4).symm
   try dsimp only at h
   cases h
   simp(config:=cS)only[go_sem,eqF h5]
def sw (d:List GNode)(e:List GTie)(f a:Int)(b c l:List Int)(n:Int):St:=⟨[(2,.ptr 128 1 0 0),(3,.ptr 192 1 0 0),(5,.ref 576 1 0 l.length),(6,.lit (.int .i64 n))],[(128,1,.var [.sl (ab GNode.encS d),.sl (ab GTie.enc e),.lit (.int .i64 f)]),(192,1,.var [.lit (.int .i64 a),.sl (ab eI b),.sl (ab eI c)]),(576,1,.row true (ab eI l))],2⟩
attribute[go_sem] sw
@[go_sem] def hi184_5:DT:=.i1 0 (.i1 1 (.i2 2 (.i2 3 (.i0 4 [0,1] (.i2 5 .nil)))))
def Hg:Hint where
 acts:=fun _=>[]
 draws:=fun
  | 5=>⟨hi184_5,[[],[],[],[],[2,3],.range 5],.range 6⟩
  | _=>⟨.nil,[],[]⟩
theorem Ta (i:Nat):Hg.acts i=[]:=rfl
theorem Tb (i:Nat):Hg.views i=none:=rfl
attribute[go_sem] Ta Tb ntmps184 results184
@[go_sem] theorem Xk:(Hg.draws 5).order=hi184_5:=rfl
theorem Dg {rec:GShow→GState→Option Bool}(hrec:∀ {s:GShow} {v1:GState} {res:Bool},rec s v1=some res→ak prog 93 [.agg (GShow.encS s),.agg (GState.encS v1)] [] (.lit (.bool res)) []){s:GShow}{v1:GState}{res:Bool}(h:lj rec s v1=some res):ak prog 184 [.agg (GShow.encS s),.agg (GState.encS v1)] [] (.lit (.bool res)) []:=by
 refine co (hi:=Hg) func184 rfl rfl ?_
 unfold lj at h
 obtain⟨r01,g1,h⟩:=ae h
 simp(config:=cS)only[go_sem]
 have g1:=ctr g1
 refine ag g1 ?_
 obtain⟨h2,h⟩:=ie h
 obtain⟨q04,l3,h⟩:=ae h
 simp(config:=cS)only[go_sem,eqF h2]
 refine ah (m1:=.mk) (m2:=.mk) [.nf [2,3,5,6] [128,192,576]] (sw s.nodes s.ties s.horizon v1.now v1.times v1.values r01) l3 ?_ ?_
 ·simp(config:=cS)only[go_sem,eqF h2]
 ·intro nb4 n_1 bb4 b4 gb4
  unfold iw at b4
  try dsimp only at b4
  obtain⟨h5,b4⟩|⟨h5,b4⟩:=aZ b4
  ·obtain⟨r02,g6,b4⟩:=ae b4
   simp(config:=cS)only[go_sem,eqF h2,eqT h5]
   have g6:=ctr g6
   refine ag g6 ?_
   obtain⟨r03,g7,b4⟩:=ae b4
   simp(config:=cS)only[go_sem,eqF h2,eqT h5]
   refine ag (uu @hrec g7) ?_
   obtain⟨h8,b4⟩|⟨h8,b4⟩:=aZ b4
   ·cases b4
    obtain rfl:=(aI gb4).symm
    try dsimp only at h
    cases h
    simp(config:=cS)only[go_sem,eqF h2,eqT h5,eZt h8]
   ·cases b4
    simp(config:=cS)only[go_sem,eqF h2,eqT h5,eZf h8]
    refine ig gb4 ?_
    simp(config:=cS)only[go_sem,eqF h2,eqT h5,eZf h8]
  ·cases b4
   obtain rfl:=(aI gb4).symm
   try dsimp only at h
   cases h
   simp(config:=cS)only[go_sem,eqF h2,eqF h5]
def sx (f:List GNode)(g:List GTie)(h c:Int)(d e a b:List Int)(n:Int):St:=⟨[(2,.ptr 128 1 0 0),(3,.ptr 192 1 0 0),(5,.ref 1280 1 0 a.length),(6,.ref 1281 1 0 b.length),(7,.lit (.int .i64 n))],[(128,1,.var [.sl (ab GNode.encS f),.sl (ab GTie.enc g),.lit (.int .i64 h)]),(192,1,.var [.lit (.int .i64 c),.sl (ab eI d),.sl (ab eI e)]),(1280,1,.row true (ab eI a)),(1281,1,.row true (ab eI b))],2⟩
attribute[go_sem] sx
@[go_sem] def hi93_11:DT:=.i1 0 (.i1 1 (.i1 2 (.r2 3 3 (.i0 6 [0,1,2] (.i0 7 [0,1,2] (.i0 8 [0] (.i2 9 (.i2 10 .nil))))))))
def hi93:Hint where
 acts:=fun _=>[]
 draws:=fun
  | 11=>⟨hi93_11,[[],[],[],[],[],[],[4,5],[3,4,5,6],[1,2,3,4,5,6,7],.range 9,.range 10],.range 11⟩
  | _=>⟨.nil,[],[]⟩
theorem UW (i:Nat):hi93.acts i=[]:=rfl
theorem UX (i:Nat):hi93.views i=none:=rfl
attribute[go_sem] UW UX ntmps93 results93
@[go_sem] theorem Xl:(hi93.draws 11).order=hi93_11:=rfl
theorem Dh {rec:GShow→GState→Option Bool}(hrec:∀ {s:GShow} {v1:GState} {res:Bool},rec s v1=some res→ak prog 93 [.agg (GShow.encS s),.agg (GState.encS v1)] [] (.lit (.bool res)) []){s:GShow}{v1:GState}{res:Bool}(h:ll rec s v1=some res):ak prog 93 [.agg (GShow.encS s),.agg (GState.encS v1)] [] (.lit (.bool res)) []:=by
 refine co (hi:=hi93) func93 rfl rfl ?_
 unfold ll at h
 obtain⟨r01,g1,h⟩:=ae h
 simp(config:=cS)only[go_sem]
 have g1:=ctr g1
 refine ag g1 ?_
 obtain⟨h2,h⟩|⟨h2,h⟩:=aZ h
 ·cases h
  simp(config:=cS)only[go_sem,eZt h2]
 ·obtain⟨r02,g3,h⟩:=ae h
  simp(config:=cS)only[go_sem,eZf h2]
  have g3:=ctr g3
  refine ag g3 ?_
  obtain⟨h4,h⟩|⟨h4,h⟩:=aZ h
  ·cases h
   simp(config:=cS)only[go_sem,eZf h2,eZt h4]
  ·obtain⟨r03,g5,h⟩:=ae h
   simp(config:=cS)only[go_sem,eZf h2,eZf h4]
   have g5:=ctr g5
   refine ag g5 ?_
   obtain⟨h6,h⟩|⟨h6,h⟩:=aZ h
   ·cases h
    simp(config:=cS)only[go_sem,eZf h2,eZf h4,eZt h6]
   ·obtain⟨r04,g7,h⟩:=ae h
    simp(config:=cS)only[go_sem,eZf h2,eZf h4,eZf h6]
    have g7:=ctr g7
    refine ag g7 ?_
    obtain⟨q09,l8,h⟩:=ae h
    simp(config:=cS)only[go_sem,eZf h2,eZf h4,eZf h6]
    refine ah (m1:=.mk) (m2:=.mk) [.nf [2,3,5,6,7] [128,192,1280,1281]] (sx s.nodes s.ties s.horizon v1.now v1.times v1.values r04.1 r04.2) l8 ?_ ?_
    ·simp(config:=cS)only[go_sem,eZf h2,eZf h4,eZf h6]
    ·intro nb9 n_1 bb9 b9 gb9
     unfold ix at b9
     try dsimp only at b9
     obtain⟨h10,b9⟩:=ie b9
     obtain⟨h11,b9⟩|⟨h11,b9⟩:=aZ b9
     ·obtain⟨r05,g12,b9⟩:=ae b9
      simp(config:=cS)only[go_sem,eZf h2,eZf h4,eZf h6,eqF h10,eqT h11]
      have g12:=ctr g12
      refine ag g12 ?_
      obtain⟨r06,g13,b9⟩:=ae b9
      simp(config:=cS)only[go_sem,eZf h2,eZf h4,eZf h6,eqF h10,eqT h11]
      have g13:=ctr g13
      refine ag g13 ?_
      obtain⟨r07,g14,b9⟩:=ae b9
      simp(config:=cS)only[go_sem,eZf h2,eZf h4,eZf h6,eqF h10,eqT h11]
      have g14:=ctr g14
      refine ag g14 ?_
      obtain⟨r08,g15,b9⟩:=ae b9
      simp(config:=cS)only[go_sem,eZf h2,eZf h4,eZf h6,eqF h10,eqT h11]
      refine ag (Dg @hrec g15) ?_
      obtain⟨h16,b9⟩|⟨h16,b9⟩:=aZ b9
      ·cases b9
       simp(config:=cS)only[go_sem,eZf h2,eZf h4,eZf h6,eqF h10,eqT h11,eZt h16]
       refine ig gb9 ?_
       simp(config:=cS)only[go_sem,eZf h2,eZf h4,eZf h6,eqF h10,eqT h11,eZt h16]
      ·cases b9
       obtain rfl:=(aI gb9).symm
       try dsimp only at h
       cases h
       simp(config:=cS)only[go_sem,eZf h2,eZf h4,eZf h6,eqF h10,eqT h11,eZf h16]
     ·cases b9
      obtain rfl:=(aI gb9).symm
      try dsimp only at h
      cases h
      simp(config:=cS)only[go_sem,eZf h2,eZf h4,eZf h6,eqF h10,eqF h11]
theorem xQ (fu:Nat):∀ {s:GShow} {v1:GState} {res:Bool},lm fu s v1=some res→ak prog 93 [.agg (GShow.encS s),.agg (GState.encS v1)] [] (.lit (.bool res)) []:=by
 induction fu with
 | zero=>intro _ _ _ h;cases h
 | succ fu ih=>intro _ _ _ h;exact Dh (@ih) h
theorem Gd {s:GShow}{v1:GState}{res:Bool}(h:m_spec_l15Win s v1=some res):ak prog 93 [.agg (GShow.encS s),.agg (GState.encS v1)] [] (.lit (.bool res)) []:=xQ 40 h
theorem vL {s:GShow}{v1:GState}{nodes:List Int}{res:Bool}(h:oS s v1 nodes=some res):ak prog 257 [.agg (GShow.encS s),.agg (GState.encS v1),.sl (ab eI nodes)] [] (.lit (.bool res)) []:=uu (@Gd) h
def pK (a b:Int)(c:List GNode)(d:List GTie)(e f:Int)(g h:List Int)(i:Bool)(j:List GEntry)(k:Int)(m n:List Int)(l:List (List Int))(o:Int):St:=⟨[(2,.lit (.int .i64 a)),(3,.ptr 192 1 0 0),(4,.ptr 256 1 0 0),(8,.ref 896 1 0 l.length),(16,.lit (.int .i64 b)),(17,.lit (.int .i64 o))],[(192,1,.var [.sl (ab GNode.encS c),.sl (ab GTie.enc d),.lit (.int .i64 e),.lit (.int .i64 f),.sl (ab eI g),.sl (ab eI h),.lit (.bool i),.sl (ab GEntry.encS j)]),(256,1,.var [.lit (.int .i64 k),.sl (ab eI m),.sl (ab eI n)]),(896,1,.tree (ab (eLS eI) l))],2⟩
attribute[go_sem] pK
instance k233 {d:GDesk} {y:GState} {without:Int}:Ctr (kr d y without) (fun (res:(List Int) × Bool)=>ak prog 233 [.agg (GDesk.encS d),.agg (GState.encS y),.lit (.int .i64 without)] [] (.tup [.ref 20000 1 0 res.1.length,.lit (.bool res.2)]) [(20000,1,.row true (ab eI res.1))]):=⟨by
 intro res h0
 refine aw (ra:=[.home 6]) (md:=mdT) hT (hi:=hi00) func233 rfl rfl (by decide +kernel) (by simp) ?_
 unfold kr at h0
 obtain⟨r01,g0,h0⟩:=ae h0
 simp(config:=cS)only[go_sem, *]
 have g0:=ctr g0
 refine ag g0 ?_
 obtain⟨q08,l0,h0⟩:=ae h0
 simp(config:=cS)only[go_sem, *]
 refine ah (m1:=.mk) (m2:=.mk) [.freeze [896],.nf [2,3,4,8,16,17] [192,256,896]] (pK without ((r01.length:Nat):Int) d.show_.nodes d.show_.ties d.show_.horizon d.state.now d.state.times d.state.values d.lazy d.log y.now y.times y.values r01) l0 ?_ ?_
 ·simp(config:=cS)only[go_sem, *]
 ·have k0:=h0
  clear h0 l0
  intro _ v17_1 _ h0 gb0
  unfold eH at h0
  try dsimp only at h0
  obtain⟨_,h0⟩|⟨_,h0⟩:=itP h0
  ·obtain⟨x02,_,_,_,h0⟩:=gtI h0
   obtain⟨_,h0⟩|⟨_,h0⟩:=itB h0
   ·obtain⟨x03,_,_,_,h0⟩:=gtI h0
    obtain⟨r04,g0,h0⟩:=ae h0
    simp(config:=cS)only[go_sem, *]
    have g0:=ctr g0
    refine ag g0 ?_
    obtain⟨_,h0⟩|⟨_,h0⟩:=itB h0
    ·exact run
    ·obtain⟨r05,g0,h0⟩:=ae h0
     simp(config:=cS)only[go_sem, *]
     refine ag (vL g0) ?_
     exact run
   ·obtain⟨r06,g0,h0⟩:=ae h0
    simp(config:=cS)only[go_sem, *]
    have g0:=ctr g0
    refine ag g0 ?_
    obtain⟨_,h0⟩|⟨_,h0⟩:=itB h0
    ·exact run
    ·obtain⟨r07,g0,h0⟩:=ae h0
     simp(config:=cS)only[go_sem, *]
     refine ag (vL g0) ?_
     exact run
  ·exact run⟩
def pL (o j h:List Int)(p q:Int)(r s:List Int)(k m:Int)(n:Bool)(t:Int)(a:List GNode)(b:List GTie)(c d:List Int)(e:List GEntry)(f g i:List Int):(Int × (List Int) × (List Int))→St
 | (u,v,l)=>⟨[(1,.sl (ab eI o)),(3,.sl (ab eI j)),(4,.sl (ab eI h)),(7,.ptr 448 1 0 0),(10,.ptr 640 1 0 0),(11,.ptr 704 1 0 0),(12,.ptr 768 1 0 0),(13,.ref 1602 1 0 i.length),(14,.ref 1792 1 0 v.length),(15,.ref 1856 1 0 l.length),(30,.ref 1602 1 0 i.length),(31,.lit (.int .i64 p)),(32,.lit (.int .i64 u))],[(448,1,.var [.lit (.int .i64 q),.sl (ab eI r),.sl (ab eI s)]),(640,1,.var [.lit (.slice none 0 0),.lit (.slice none 0 0),.lit (.int .i64 0),.lit (.int .i64 0),.lit (.slice none 0 0),.lit (.slice none 0 0),.lit (.bool false),.lit (.slice none 0 0)]),(704,1,.var [.ref 1216 1 0 a.length,.ref 1217 1 0 b.length,.lit (.int .i64 k),.lit (.int .i64 m),.ref 1218 1 0 c.length,.ref 1219 1 0 d.length,.lit (.bool n),.ref 1220 1 0 e.length]),(1216,1,.row true (ab GNode.encO a)),(1217,1,.row true (ab GTie.enc b)),(1218,1,.row true (ab eI c)),(1219,1,.row true (ab eI d)),(1220,1,.row true (ab GEntry.encO e)),(768,1,.var [.lit (.int .i64 t),.ref 1600 1 0 f.length,.ref 1601 1 0 g.length]),(1600,1,.row true (ab eI f)),(1601,1,.row true (ab eI g)),(1602,1,.row true (ab eI i)),(1792,1,.row true (ab eI v)),(1856,1,.row true (ab eI l))],2⟩
attribute[go_sem] pL
@[go_sem] def hi234_11:DT:=.i1 0 (.i1 1 (.i1 2 (.i1 3 (.i2 5 (.i2 8 (.i2 10 (.fork (.i0 4 [0,1,2,3] (.fork (.i0 6 [0,1,2,3] (.i0 7 [0,1,2,3] (.i0 9 [0,1,2,3] (.i2 11 (.i0 12 [0,1] (.i2 13 (.i2 14 (.i2 15 .nil)))))))) (.i0 7 [0,1,2,3] (.i0 6 [0,1,2,3] (.i0 9 [0,1,2,3] (.i2 11 (.i0 12 [0,1] (.i2 13 (.i2 14 (.i2 15 .nil)))))))))) (.i0 7 [0,1,2,3] (.i0 4 [0,1,2,3] (.i0 6 [0,1,2,3] (.i0 9 [0,1,2,3] (.i2 11 (.i0 12 [0,1] (.i2 13 (.i2 14 (.i2 15 .nil))))))))))))))))
def Hi:Hint where
 acts:=fun _=>[]
 draws:=fun
  | 11=>⟨hi234_11,[[],[0],[],[2],[],[],[4,5],[],[],[4,5,6,7,8],[],[2,3,4,5,6,7,8,9,10],[2,3,4,5,6,7,8,9,10,11],.range 13,.range 14,.range 15],.range 16⟩
  | _=>⟨.nil,[],[]⟩
theorem Tc (i:Nat):Hi.acts i=[]:=rfl
theorem Td (i:Nat):Hi.views i=none:=rfl
attribute[go_sem] Tc Td ntmps234 results234
@[go_sem] theorem Wi:(Hi.draws 11).order=hi234_11:=rfl
instance k234 {d:GDesk} {ties:List Int} {y:GState} {nodes:List Int} {values:List Int}:Ctr (ku d ties y nodes values) (fun (res:GDesk)=>ak prog 234 [.agg (GDesk.encS d),.sl (ab eI ties),.agg (GState.encS y),.sl (ab eI nodes),.sl (ab eI values)] [] (.agg [.ref 20000 1 0 res.show_.nodes.length,.ref 20001 1 0 res.show_.ties.length,.lit (.int .i64 res.show_.horizon),.lit (.int .i64 res.state.now),.ref 20002 1 0 res.state.times.length,.ref 20003 1 0 res.state.values.length,.lit (.bool res.lazy),.ref 20004 1 0 res.log.length]) [(20000,1,.row true (ab GNode.encO res.show_.nodes)),(20001,1,.row true (ab GTie.enc res.show_.ties)),(20002,1,.row true (ab eI res.state.times)),(20003,1,.row true (ab eI res.state.values)),(20004,1,.row true (ab GEntry.encO res.log))]):=⟨by
 intro res h0
 refine aw (ra:=[.homeCell 640 0,.homeCell 640 1,.homeCell 640 4,.homeCell 640 5,.homeCell 640 7]) (md:=mdT) hT (hi:=Hi) func234 rfl rfl (by decide +kernel) (by simp) ?_
 unfold ku at h0
 obtain⟨r01,g0,h0⟩:=ae h0
 simp(config:=cS)only[go_sem, *]
 have g0:=ctr g0
 refine ag g0 ?_
 obtain⟨r02,g0,h0⟩:=ae h0
 simp(config:=cS)only[go_sem, *]
 have g0:=ctr g0
 refine ag g0 ?_
 obtain⟨q08,l0,h0⟩:=ae h0
 simp(config:=cS)only[go_sem, *]
 refine ah (m1:=.mk) (m2:=.mk) [.nf [1,3,4,7,10,11,12,13,14,15,30,31,32] [448,640,704,1216,1217,1218,1219,1220,768,1600,1601,1602,1792,1856]] (pL ties nodes values ((r02.2.length:Nat):Int) y.now y.times y.values r01.show_.horizon r01.state.now r01.lazy r02.1.now r01.show_.nodes r01.show_.ties r01.state.times r01.state.values r01.log r02.1.times r02.1.values r02.2) l0 ?_ ?_
 ·simp(config:=cS)only[go_sem, *]
 ·have k0:=h0
  clear h0 l0
  intro _ s0 _ h0 gb0
  obtain⟨v32_1,v_1,l_1⟩:=s0
  unfold gV at h0
  try dsimp only at h0
  obtain⟨_,h0⟩|⟨_,h0⟩:=itP h0
  ·exact run
  ·cases h0
   obtain rfl:=(aI gb0).symm
   clear gb0
   have h0:=k0
   clear k0
   try dsimp only at h0
   try simp(config:=cS)only[go_sem, *]
   refine bq ?_ ?_
   ·try simp(config:=cS)only[go_sem, *]
    refine bq ?_ ?_
    ·exact run
    ·exact run
   ·exact run⟩
instance k150 {d:GDesk} {ties:List Int} {values:List Int}:Ctr (ln d ties values) (fun (res:GDesk × (List Int) × Int)=>ak prog 150 [.agg (GDesk.encS d),.sl (ab eI ties),.sl (ab eI values)] [] (.tup [.agg [.ref 20000 1 0 res.1.show_.nodes.length,.ref 20001 1 0 res.1.show_.ties.length,.lit (.int .i64 res.1.show_.horizon),.lit (.int .i64 res.1.state.now),.ref 20002 1 0 res.1.state.times.length,.ref 20003 1 0 res.1.state.values.length,.lit (.bool res.1.lazy),.ref 20004 1 0 res.1.log.length],.ref 20005 1 0 res.2.1.length,.lit (.int .i64 res.2.2)]) [(20000,1,.row true (ab GNode.encO res.1.show_.nodes)),(20001,1,.row true (ab GTie.enc res.1.show_.ties)),(20002,1,.row true (ab eI res.1.state.times)),(20003,1,.row true (ab eI res.1.state.values)),(20004,1,.row true (ab GEntry.encO res.1.log)),(20005,1,.row true (ab eI res.2.1))]):=⟨by
 intro res h0
 refine aw (ra:=[.homeCell 384 0,.homeCell 384 1,.homeCell 384 4,.homeCell 384 5,.homeCell 384 7,.home 7]) (md:=mdT) hT (hi:=hi00) func150 rfl rfl (by decide +kernel) (by simp) ?_
 unfold ln at h0
 exact run⟩
def rz (i j:List Int):(Int × Int × Bool × (List GNode) × (List GTie) × (List Int) × (List Int) × (List GEntry))→St
 | (f,g,h,a,b,c,d,e)=>⟨[(3,.ptr 192 1 0 0),(4,.ptr 256 1 0 0),(6,.ptr 384 1 0 0)],[(192,1,.var [.sl (ab eI i),.sl (ab eI j)]),(256,1,.var [.lit (.slice none 0 0),.lit (.slice none 0 0),.lit (.int .i64 0),.lit (.int .i64 0),.lit (.slice none 0 0),.lit (.slice none 0 0),.lit (.bool false),.lit (.slice none 0 0)]),(384,1,.var [.ref 704 1 0 a.length,.ref 705 1 0 b.length,.lit (.int .i64 f),.lit (.int .i64 g),.ref 706 1 0 c.length,.ref 707 1 0 d.length,.lit (.bool h),.ref 708 1 0 e.length]),(704,1,.row true (ab GNode.encO a)),(705,1,.row true (ab GTie.enc b)),(706,1,.row true (ab eI c)),(707,1,.row true (ab eI d)),(708,1,.row true (ab GEntry.encO e))],2⟩
attribute[go_sem] rz
@[go_sem] def hi138_4:DT:=.i1 0 (.i1 1 (.i1 2 (.i1 3 (.i1 4 (.i1 5 (.i1 7 (.i1 8 (.fork (.i0 6 [0,7,8] (.fork (.i2 9 (.i2 10 (.i2 11 (.i2 12 (.i2 13 (.i0 14 [0,1,2,3,4,5,7,8] (.i2 15 (.i2 16 (.i2 17 .nil))))))))) (.i0 14 [0,1,2,3,4,5,7,8] (.i2 9 (.i2 10 (.i2 11 (.i2 12 (.i2 13 (.i2 15 (.i2 16 (.i2 17 .nil))))))))))) (.i0 14 [0,1,2,3,4,5,7,8] (.i0 6 [0,7,8] (.i2 9 (.i2 10 (.i2 11 (.i2 12 (.i2 13 (.i2 15 (.i2 16 (.i2 17 .nil))))))))))))))))))
def Hj:Hint where
 acts:=fun _=>[]
 draws:=fun
  | 4=>⟨hi138_4,[[],[],[1],[],[3],[],[1,2,3,4,5],[],[7],.range 9,.range 10,.range 11,.range 11,.range 11,[],[0,1,2,3,4,5,6,7,8,9,10,11,14],[0,1,2,3,4,5,6,7,8,9,10,11,12,14,15],.range 17],[0,1,2,3,4,5,6,7,8,9,10,11,14,16,12,13,15,17]⟩
  | _=>⟨.nil,[],[]⟩
theorem Te (i:Nat):Hj.acts i=[]:=rfl
theorem Tf (i:Nat):Hj.views i=none:=rfl
attribute[go_sem] Te Tf ntmps138 results138
@[go_sem] theorem Xm:(Hj.draws 4).order=hi138_4:=rfl
instance k138 {d:GDesk} {v1:GChoice}:Ctr (mr d v1) (fun (res:GDesk × Int)=>ak prog 138 [.agg (GDesk.encS d),.agg [.sl (ab eI v1.lengths),.sl (ab eI v1.values)]] [] (.tup [.agg [.ref 20000 1 0 res.1.show_.nodes.length,.ref 20001 1 0 res.1.show_.ties.length,.lit (.int .i64 res.1.show_.horizon),.lit (.int .i64 res.1.state.now),.ref 20002 1 0 res.1.state.times.length,.ref 20003 1 0 res.1.state.values.length,.lit (.bool res.1.lazy),.ref 20004 1 0 res.1.log.length],.lit (.int .i64 res.2)]) [(20000,1,.row true (ab GNode.encO res.1.show_.nodes)),(20001,1,.row true (ab GTie.enc res.1.show_.ties)),(20002,1,.row true (ab eI res.1.state.times)),(20003,1,.row true (ab eI res.1.state.values)),(20004,1,.row true (ab GEntry.encO res.1.log))]):=⟨by
 intro res h0
 refine aw (ra:=[.homeCell 256 0,.homeCell 256 1,.homeCell 256 4,.homeCell 256 5,.homeCell 256 7]) (md:=mdT) hT (hi:=Hj) func138 rfl rfl (by decide +kernel) (by simp) ?_
 unfold mr at h0
 obtain⟨r01,g0,h0⟩:=ae h0
 simp(config:=cS)only[go_sem, *]
 have g0:=ctr g0
 refine ag g0 ?_
 obtain⟨r02,g0,h0⟩:=ae h0
 simp(config:=cS)only[go_sem, *]
 have g0:=ctr g0
 refine ag g0 ?_
 obtain⟨_,h0⟩|⟨_,h0⟩:=itB h0
 ·obtain⟨r03,g0,h0⟩:=ae h0
  simp(config:=cS)only[go_sem, *]
  have g0:=ctr g0
  refine ag g0 ?_
  obtain⟨_,h0⟩|⟨_,h0⟩:=itB h0
  ·obtain⟨q09,l0,h0⟩:=ae h0
   simp(config:=cS)only[go_sem, *]
   refine ah (m1:=.mk) (m2:=.mk) [.nfp [3,4,6] [(192,192),(256,256),(384,384),(2112,704),(704,704),(2113,705),(705,705),(2114,706),(706,706),(2115,707),(707,707),(2116,708),(708,708)] []] (rz v1.lengths v1.values) l0 ?_ ?_
   ·simp(config:=cS)only[go_sem, *]
   ·have k0:=h0
    clear h0 l0
    intro _ s0 _ h0 gb0
    obtain⟨out_2_1,out_3_1,out_6_1,h704_1,h705_1,h706_1,h707_1,h708_1⟩:=s0
    unfold lU at h0
    try dsimp only at h0
    try simp(config:=cS)only[go_sem, *]
    refine bq ?_ ?_
    ·obtain⟨r04,g0,h0⟩:=ae h0
     simp(config:=cS)only[go_sem, *]
     have g0:=ctr g0
     refine ag g0 ?_
     try simp(config:=cS)only[go_sem, *]
     refine bq ?_ ?_
     ·exact run
     ·exact run
    ·exact run
  ·exact run
 ·exact run⟩
instance k139 {s:GShow} {v1:GState}:Ctr (nE s v1) (fun (res:Bool)=>ak prog 139 [.agg (GShow.encS s),.agg (GState.encS v1)] [] (.lit (.bool res)) []):=⟨by
 intro res h0
 refine co (hi:=hi00) func139 rfl rfl ?_
 unfold nE at h0
 exact run⟩
instance k68 {s:GShow} {v1:GChoice} {lazy:Bool}:Ctr (ms s v1 lazy) (fun (res:(List Int) × Bool)=>ak prog 68 [.agg (GShow.encS s),.agg [.sl (ab eI v1.lengths),.sl (ab eI v1.values)],.lit (.bool lazy)] [] (.tup [.ref 20000 1 0 res.1.length,.lit (.bool res.2)]) [(20000,1,.row true (ab eI res.1))]):=⟨by
 intro res h0
 refine aw (ra:=[.home 6]) (md:=mdT) hT (hi:=hi00) func68 rfl rfl (by decide +kernel) (by simp) ?_
 unfold ms at h0
 exact run⟩
instance k199 {i:ay}:Ctr (gn i) (fun (res:Bool)=>ak prog 199 [.agg [.lit (.int .i64 i.low),.lit (.int .i64 i.high)]] [] (.lit (.bool res)) []):=⟨by
 intro res h0
 refine co (hi:=hi00) func199 rfl rfl ?_
 unfold gn at h0
 exact run⟩
def qE (a:List GLink)(b c d:Int):St:=⟨[(1,.ptr 64 1 0 0),(16,.sl (ab GLink.enc a)),(17,.lit (.int .i64 b)),(18,.lit (.int .i64 d))],[(64,1,.var [.lit (.int .i64 c),.sl (ab GLink.enc a)])],2⟩
attribute[go_sem] qE
instance k123 {s:al}:Ctr (iY s) (fun (res:Bool)=>ak prog 123 [.agg [.lit (.int .i64 s.events),.sl (ab GLink.enc s.links)]] [] (.lit (.bool res)) []):=⟨by
 intro res h0
 refine co (hi:=hi00) func123 rfl rfl ?_
 unfold iY at h0
 obtain⟨r01,g0,h0⟩:=ae h0
 simp(config:=cS)only[go_sem, *]
 have g0:=ctr g0
 refine ag g0 ?_
 obtain⟨_,h0⟩|⟨_,h0⟩:=itB h0
 ·obtain⟨_,h0⟩|⟨_,h0⟩:=itP h0
  ·exact run
  ·obtain⟨q06,l0,h0⟩:=ae h0
   simp(config:=cS)only[go_sem, *]
   refine ah (m1:=.mk) (m2:=.mk) [.nf [1,16,17,18] [64]] (qE s.links ((s.links.length:Nat):Int) s.events) l0 ?_ ?_
   ·simp(config:=cS)only[go_sem, *]
   ·have k0:=h0
    clear h0 l0
    intro _ v18_1 _ h0 gb0
    unfold fv at h0
    try dsimp only at h0
    exact run
 ·exact run⟩
def ou (c:List GNode)(d:Int)(g:List GTie)(h:Int)(e f:List Int):(Int × (List Bool) × (List GLink))→St
 | (i,b,a)=>⟨[(2,.ptr 128 1 0 0),(3,.ptr 192 1 0 0),(4,.ptr 256 1 0 0),(6,.ptr 384 1 0 0),(7,.ref 1728 1 0 b.length),(29,.sl (ab GNode.encS c)),(30,.lit (.int .i64 d)),(31,.lit (.int .i64 i))],[(128,1,.var [.sl (ab GNode.encS c),.sl (ab GTie.enc g),.lit (.int .i64 h)]),(192,1,.var [.sl (ab eI e),.sl (ab eI f)]),(256,1,.var [.lit (.int .i64 0),.lit (.slice none 0 0)]),(384,1,.var [.lit (.int .i64 d),.ref 100024577 1 0 a.length]),(100024577,1,.row true (ab GLink.enc a)),(1728,1,.row true (ab eB b))],2⟩
attribute[go_sem] ou
def ov (d:List GTie)(g:Int)(h:List GNode)(i:Int)(e f:List Int)(c:Int)(b:List Bool):(Int × (List GLink))→St
 | (j,a)=>⟨[(2,.ptr 128 1 0 0),(3,.ptr 192 1 0 0),(4,.ptr 256 1 0 0),(6,.ptr 384 1 0 0),(7,.ref 1728 1 0 b.length),(61,.sl (ab GTie.enc d)),(62,.lit (.int .i64 g)),(63,.lit (.int .i64 j))],[(128,1,.var [.sl (ab GNode.encS h),.sl (ab GTie.enc d),.lit (.int .i64 i)]),(192,1,.var [.sl (ab eI e),.sl (ab eI f)]),(256,1,.var [.lit (.int .i64 0),.lit (.slice none 0 0)]),(384,1,.var [.lit (.int .i64 c),.ref 100024577 1 0 a.length]),(100024577,1,.row true (ab GLink.enc a)),(1728,1,.row true (ab eB b))],2⟩
attribute[go_sem] ov
def ow (c:Int)(e:List GNode)(f:List GTie)(g:Int)(b:List Bool):(Int × (List GLink))→St
 | (d,a)=>⟨[(2,.ptr 128 1 0 0),(4,.ptr 256 1 0 0),(6,.ptr 384 1 0 0),(7,.ref 1728 1 0 b.length),(114,.lit (.int .i64 c)),(115,.lit (.int .i64 d))],[(128,1,.var [.sl (ab GNode.encS e),.sl (ab GTie.enc f),.lit (.int .i64 g)]),(256,1,.var [.lit (.int .i64 0),.lit (.slice none 0 0)]),(384,1,.var [.lit (.int .i64 c),.ref 100024577 1 0 a.length]),(100024577,1,.row true (ab GLink.enc a)),(1728,1,.row true (ab eB b))],2⟩
attribute[go_sem] ow
def oz (i:Int)(c:List GNode)(d:Int)(e:List Int)(f:Int)(h:List GTie)(j:Int)(b:List Bool):(Int × (List GLink))→St
 | (g,a)=>⟨[(2,.ptr 128 1 0 0),(4,.ptr 256 1 0 0),(6,.ptr 384 1 0 0),(7,.ref 1728 1 0 b.length),(14,.lit (.int .i64 i)),(132,.sl (ab GNode.encS c)),(133,.lit (.int .i64 d)),(134,.lit (.int .i64 i)),(140,.sl (ab eI e)),(141,.lit (.int .i64 f)),(142,.lit (.int .i64 g))],[(128,1,.var [.sl (ab GNode.encS c),.sl (ab GTie.enc h),.lit (.int .i64 j)]),(256,1,.var [.lit (.int .i64 0),.lit (.slice none 0 0)]),(384,1,.var [.lit (.int .i64 d),.ref 100024577 1 0 a.length]),(100024577,1,.row true (ab GLink.enc a)),(1728,1,.row true (ab eB b))],2⟩
attribute[go_sem] oz
def oA (c:List GNode)(d:Int)(f:List GTie)(g:Int)(b:List Bool):(Int × (List GLink))→St
 | (e,a)=>⟨[(2,.ptr 128 1 0 0),(4,.ptr 256 1 0 0),(6,.ptr 384 1 0 0),(7,.ref 1728 1 0 b.length),(132,.sl (ab GNode.encS c)),(133,.lit (.int .i64 d)),(134,.lit (.int .i64 e))],[(128,1,.var [.sl (ab GNode.encS c),.sl (ab GTie.enc f),.lit (.int .i64 g)]),(256,1,.var [.lit (.int .i64 0),.lit (.slice none 0 0)]),(384,1,.var [.lit (.int .i64 d),.ref 100024577 1 0 a.length]),(100024577,1,.row true (ab GLink.enc a)),(1728,1,.row true (ab eB b))],2⟩
attribute[go_sem] oA
@[go_sem] def hi54_35:DT:=.i1 0 (.i1 1 (.i1 2 (.i2 3 (.i2 6 (.i2 7 (.i0 4 [0,1,2] (.i0 5 [0,1] (.i2 8 (.i0 9 [0,1] (.r2 10 3 .nil))))))))))
def hi54:Hint where
 acts:=fun _=>[]
 draws:=fun
  | 35=>⟨hi54_35,[[],[0],[],[],[3],[2,3,4],[],[],[2,3,4,5,6,7],[2,3,4,5,6,7,8],.range 10,.range 11,.range 12],.range 13⟩
  | _=>⟨.nil,[],[]⟩
theorem UY (i:Nat):hi54.acts i=[]:=rfl
theorem UZ (i:Nat):hi54.views i=none:=rfl
attribute[go_sem] UY UZ ntmps54 results54
@[go_sem] theorem Xn:(hi54.draws 35).order=hi54_35:=rfl
instance k54 {s:GShow} {v1:GChoice}:Ctr (iL s v1) (fun (res:al × Bool)=>ak prog 54 [.agg (GShow.encS s),.agg [.sl (ab eI v1.lengths),.sl (ab eI v1.values)]] [] (.tup [.agg [.lit (.int .i64 res.1.events),.ref 20000 1 0 res.1.links.length],.lit (.bool res.2)]) [(20000,1,.row true (ab GLink.enc res.1.links))]):=⟨by
 intro res h0
 refine aw (ra:=[.homeCell 256 1]) (md:=mdT) hT (hi:=hi54) func54 rfl rfl (by decide +kernel) (by simp) ?_
 unfold iL at h0
 obtain⟨r01,g0,h0⟩:=ae h0
 simp(config:=cS)only[go_sem, *]
 have g0:=ctr g0
 refine ag g0 ?_
 obtain⟨_,h0⟩|⟨_,h0⟩:=itB h0
 ·obtain⟨q20,l0,h0⟩:=ae h0
  simp(config:=cS)only[go_sem, *]
  refine ah (m1:=.mk) (m2:=.mk) [.homeCell 384 1,.nf [2,3,4,6,7,29,30,31] [128,192,256,384,100024577,1728]] (ou s.nodes ((s.nodes.length:Nat):Int) s.ties s.horizon v1.lengths v1.values) l0 ?_ ?_
  ·simp(config:=cS)only[go_sem, *]
  ·have k0:=h0
   clear h0 l0
   intro _ s0 _ h0 gb0
   obtain⟨v31_1,happens_1,h100024577_1⟩:=s0
   unfold du at h0
   try dsimp only at h0
   obtain⟨_,h0⟩|⟨_,h0⟩:=itP h0
   ·obtain⟨x02,_,_,_,h0⟩:=gtI h0
    obtain⟨r03,g0,h0⟩:=ae h0
    simp(config:=cS)only[go_sem, *]
    have g0:=ctr g0
    refine ag g0 ?_
    obtain⟨_,h0⟩:=ckP h0
    obtain⟨_,h0⟩:=ckP h0
    obtain⟨x04,a1,a2,a3,h0⟩:=gtI h0
    try simp only[List.length_append,List.length_cons,List.length_nil,Nat.zero_add,Nat.reduceAdd]at a1
    try simp only[List.length_append,List.length_cons,List.length_nil,Nat.zero_add,Nat.reduceAdd]at a2
    try simp only[List.length_append,List.length_cons,List.length_nil,Nat.zero_add,Nat.reduceAdd]at a3
    exact run
   ·cases h0
    obtain rfl:=(aI gb0).symm
    clear gb0
    have h0:=k0
    clear k0
    try dsimp only at h0
    obtain⟨q19,l0,h0⟩:=ae h0
    simp(config:=cS)only[go_sem, *]
    refine ah (m1:=.mk) (m2:=.mk) [.nf [2,3,4,6,7,61,62,63] [128,192,256,384,100024577,1728]] (ov s.ties ((s.ties.length:Nat):Int) s.nodes s.horizon v1.lengths v1.values ((s.nodes.length:Nat):Int) happens_1) l0 ?_ ?_
    ·simp(config:=cS)only[go_sem, *]
    ·have k0:=h0
     clear h0 l0
     intro _ s0 _ h0 gb0
     obtain⟨v63_2,h100024577_2⟩:=s0
     unfold dv at h0
     try dsimp only at h0
     obtain⟨_,h0⟩|⟨_,h0⟩:=itP h0
     ·exact run
     ·cases h0
      obtain rfl:=(aI gb0).symm
      clear gb0
      have h0:=k0
      clear k0
      try dsimp only at h0
      obtain⟨q18,l0,h0⟩:=ae h0
      simp(config:=cS)only[go_sem, *]
      refine ah (m1:=.mk) (m2:=.mk) [.nf [2,4,6,7,114,115] [128,256,384,100024577,1728]] (ow ((s.nodes.length:Nat):Int) s.nodes s.ties s.horizon happens_1) l0 ?_ ?_
      ·simp(config:=cS)only[go_sem, *]
      ·have k0:=h0
       clear h0 l0
       intro _ s0 _ h0 gb0
       obtain⟨v115_3,h100024577_3⟩:=s0
       unfold dw at h0
       try dsimp only at h0
       obtain⟨_,h0⟩|⟨_,h0⟩:=itP h0
       ·exact run
       ·cases h0
        obtain rfl:=(aI gb0).symm
        clear gb0
        have h0:=k0
        clear k0
        try dsimp only at h0
        obtain⟨q17,l0,h0⟩:=ae h0
        simp(config:=cS)only[go_sem, *]
        refine ah (m1:=.mk) (m2:=.mk) [.nf [2,4,6,7,132,133,134] [128,256,384,100024577,1728]] (oA s.nodes ((s.nodes.length:Nat):Int) s.ties s.horizon happens_1) l0 ?_ ?_
        ·simp(config:=cS)only[go_sem, *]
        ·have k0:=h0
         clear h0 l0
         intro _ s0 _ h0 gb0
         obtain⟨v134_4,h100024577_4⟩:=s0
         unfold dy at h0
         try dsimp only at h0
         obtain⟨_,h0⟩|⟨_,h0⟩:=itP h0
         ·obtain⟨x10,_,_,_,h0⟩:=gtI h0
          obtain⟨q15,l0,h0⟩:=ae h0
          simp(config:=cS)only[go_sem, *]
          refine ah (m1:=.mk) (m2:=.mk) [.nf [2,4,6,7,14,132,133,134,140,141,142] [128,256,384,100024577,1728]] (oz v134_4 s.nodes ((s.nodes.length:Nat):Int) x10.label ((x10.label.length:Nat):Int) s.ties s.horizon happens_1) l0 ?_ ?_
          ·simp(config:=cS)only[go_sem, *]
          ·have k0:=h0
           clear h0 l0
           intro _ s0 _ h0 gb0
           obtain⟨v142_5,h100024577_5⟩:=s0
           unfold dx at h0
           try dsimp only at h0
           exact run
         ·exact run
 ·exact run⟩
@[go_sem] def hi55_1:DT:=.r2 0 24 .nil
def hi55:Hint where
 acts:=fun _=>[]
 draws:=fun
  | 1=>⟨hi55_1,[[],[],[0,1],[0,1,2],[0,1,2,3],[0,1,2,3],[0,1,2,3,5],[0,1,2,3,5,6],[0,1,2,3,5,6,7],.range 9,.range 10,.range 11,.range 12,.range 13,.range 12,.range 15,.range 16,.range 17,.range 12,[0,1,2,3,4,5,6,7,8,9,10,11,18],.range 20,.range 21,.range 22,.range 23],.range 24⟩
  | _=>⟨.nil,[],[]⟩
theorem Va (i:Nat):hi55.acts i=[]:=rfl
theorem Vb (i:Nat):hi55.views i=none:=rfl
attribute[go_sem] Va Vb ntmps55 results55
@[go_sem] theorem XZ:(hi55.draws 1).order=hi55_1:=rfl
instance k55 {s:GShow} {v1:GChoice} {node:Int}:Ctr (kg s v1 node) (fun (res:Bool)=>ak prog 55 [.agg (GShow.encS s),.agg [.sl (ab eI v1.lengths),.sl (ab eI v1.values)],.lit (.int .i64 node)] [] (.lit (.bool res)) []):=⟨by
 intro res h0
 refine co (hi:=hi55) func55 rfl rfl ?_
 unfold kg at h0
 exact run⟩
def qF (a:List Int)(b c:Int):St:=⟨[(17,.sl (ab eI a)),(18,.lit (.int .i64 b)),(19,.lit (.int .i64 c))],[],2⟩
attribute[go_sem] qF
instance k125 {s:al} {times:List Int}:Ctr (iZ s times) (fun (res:Bool)=>ak prog 125 [.agg [.lit (.int .i64 s.events),.sl (ab GLink.enc s.links)],.sl (ab eI times)] [] (.lit (.bool res)) []):=⟨by
 intro res h0
 refine co (hi:=hi00) func125 rfl rfl ?_
 unfold iZ at h0
 obtain⟨r01,g0,h0⟩:=ae h0
 simp(config:=cS)only[go_sem, *]
 have g0:=ctr g0
 refine ag g0 ?_
 obtain⟨_,h0⟩|⟨_,h0⟩:=itB h0
 ·obtain⟨_,h0⟩|⟨_,h0⟩:=itP h0
  ·obtain⟨q04,l0,h0⟩:=ae h0
   simp(config:=cS)only[go_sem, *]
   refine ah (m1:=.mk) (m2:=.mk) [.nf [17,18,19] []] (qF times ((times.length:Nat):Int)) l0 ?_ ?_
   ·simp(config:=cS)only[go_sem, *]
   ·have k0:=h0
    clear h0 l0
    intro _ v19_1 _ h0 gb0
    unfold fw at h0
    try dsimp only at h0
    exact run
  ·exact run
 ·exact run⟩
instance k200 {i:ay} {n:Int}:Ctr (kU i n) (fun (res:Bool)=>ak prog 200 [.agg [.lit (.int .i64 i.low),.lit (.int .i64 i.high)],.lit (.int .i64 n)] [] (.lit (.bool res)) []):=⟨by
 intro res h0
 refine co (hi:=hi00) func200 rfl rfl ?_
 unfold kU at h0
 exact run⟩
def pj (a:List Int)(b:List GLink)(c d:Int):St:=⟨[(1,.sl (ab eI a)),(12,.sl (ab GLink.enc b)),(13,.lit (.int .i64 c)),(14,.lit (.int .i64 d))],[],2⟩
attribute[go_sem] pj
@[go_sem] def hi126_6:DT:=.r2 0 15 .nil
def Hk:Hint where
 acts:=fun _=>[]
 draws:=fun
  | 6=>⟨hi126_6,[[],[0],[],[],[3],[2,3,4],[2,3,4,5],[],[],[8],[7,8,9],[7,8,9,10],[2,3,4,5,6,7,8,9,10,11],.range 13,.range 14],.range 15⟩
  | _=>⟨.nil,[],[]⟩
theorem Tg (i:Nat):Hk.acts i=[]:=rfl
theorem Th (i:Nat):Hk.views i=none:=rfl
attribute[go_sem] Tg Th ntmps126 results126
@[go_sem] theorem Xo:(Hk.draws 6).order=hi126_6:=rfl
instance k126 {s:al} {times:List Int}:Ctr (jo s times) (fun (res:Int)=>ak prog 126 [.agg [.lit (.int .i64 s.events),.sl (ab GLink.enc s.links)],.sl (ab eI times)] [] (.lit (.int .i64 res)) []):=⟨by
 intro res h0
 refine co (hi:=Hk) func126 rfl rfl ?_
 unfold jo at h0
 obtain⟨r01,g0,h0⟩:=ae h0
 simp(config:=cS)only[go_sem, *]
 have g0:=ctr g0
 refine ag g0 ?_
 obtain⟨_,h0⟩|⟨_,h0⟩:=itB h0
 ·obtain⟨q06,l0,h0⟩:=ae h0
  simp(config:=cS)only[go_sem, *]
  refine ah (m1:=.mk) (m2:=.mk) [.nf [1,12,13,14] []] (pj times s.links ((s.links.length:Nat):Int)) l0 ?_ ?_
  ·simp(config:=cS)only[go_sem, *]
  ·have k0:=h0
   clear h0 l0
   intro _ v14_1 _ h0 gb0
   unfold dW at h0
   try dsimp only at h0
   exact run
 ·exact run⟩
instance k56 {s:al} {times:List Int}:Ctr (jp s times) (fun (res:Bool)=>ak prog 56 [.agg [.lit (.int .i64 s.events),.sl (ab GLink.enc s.links)],.sl (ab eI times)] [] (.lit (.bool res)) []):=⟨by
 intro res h0
 refine co (hi:=hi00) func56 rfl rfl ?_
 unfold jp at h0
 obtain⟨r01,g0,h0⟩:=ae h0
 simp(config:=cS)only[go_sem, *]
 have g0:=ctr g0
 refine ag g0 ?_
 obtain⟨_,h0⟩|⟨_,h0⟩:=itB h0
 ·obtain⟨x02,g1,h0⟩:=ae h0
  have:=cU (k:=0) g1
  exact run
 ·exact run⟩
def qG (e:List Int)(f:Int)(g:List GNode)(h:List GTie)(i:Int)(c d:List Int)(j:Int)(a:List GLink):(Int × (List Int))→St
 | (k,b)=>⟨[(3,.ptr 192 1 0 0),(4,.ptr 256 1 0 0),(7,.ptr 448 1 0 0),(9,.ref 1792 1 0 b.length),(29,.sl (ab eI e)),(30,.lit (.int .i64 f)),(31,.lit (.int .i64 k))],[(192,1,.var [.sl (ab GNode.encS g),.sl (ab GTie.enc h),.lit (.int .i64 i)]),(256,1,.var [.sl (ab eI c),.sl (ab eI d)]),(448,1,.var [.lit (.int .i64 j),.ref 960 1 0 a.length]),(960,1,.row true (ab GLink.enc a)),(1792,1,.row true (ab eI b))],2⟩
attribute[go_sem] qG
instance k11 {s:GShow} {v1:GChoice} {times:List Int}:Ctr (kV s v1 times) (fun (res:Bool)=>ak prog 11 [.agg (GShow.encS s),.agg [.sl (ab eI v1.lengths),.sl (ab eI v1.values)],.sl (ab eI times)] [] (.lit (.bool res)) []):=⟨by
 intro res h0
 refine co (hi:=hi00) func11 rfl rfl ?_
 unfold kV at h0
 obtain⟨r01,g0,h0⟩:=ae h0
 simp(config:=cS)only[go_sem, *]
 have g0:=ctr g0
 refine ag g0 ?_
 obtain⟨_,h0⟩|⟨_,h0⟩:=itB h0
 ·obtain⟨_,h0⟩|⟨_,h0⟩:=itP h0
  ·obtain⟨q05,l0,h0⟩:=ae h0
   simp(config:=cS)only[go_sem, *]
   refine ah (m1:=.mk) (m2:=.mk) [.nf [3,4,7,9,29,30,31] [192,256,448,960,1792]] (qG times ((times.length:Nat):Int) s.nodes s.ties s.horizon v1.lengths v1.values r01.1.events r01.1.links) l0 ?_ ?_
   ·simp(config:=cS)only[go_sem, *]
   ·have k0:=h0
    clear h0 l0
    intro _ s0 _ h0 gb0
    obtain⟨v31_1,full_1⟩:=s0
    unfold dD at h0
    try dsimp only at h0
    exact run
  ·exact run
 ·exact run⟩
def mO (a:Bool)(b:List GNode)(c:List GTie)(d n:Int):St:=⟨[(1,.lit (.bool a)),(2,.ptr 128 1 0 0),(5,.lit (.int .i64 n))],[(128,1,.var [.sl (ab GNode.encS b),.sl (ab GTie.enc c),.lit (.int .i64 d)])],2⟩
attribute[go_sem] mO
instance k19 {s:GShow} {lazy:Bool}:Ctr (fN s lazy) (fun (res:Bool)=>ak prog 19 [.agg (GShow.encS s),.lit (.bool lazy)] [] (.lit (.bool res)) []):=⟨by
 intro res h0
 refine co (hi:=hi00) func19 rfl rfl ?_
 unfold fN at h0
 obtain⟨q06,l0,h0⟩:=ae h0
 simp(config:=cS)only[go_sem, *]
 refine ah (m1:=.mk) (m2:=.mk) [.nf [1,2,5] [128]] (mO lazy s.nodes s.ties s.horizon) l0 ?_ ?_
 ·simp(config:=cS)only[go_sem, *]
 ·have k0:=h0
  clear h0 l0
  intro _ n_1 _ h0 gb0
  unfold bG at h0
  try dsimp only at h0
  exact run⟩
def sy (s:ByteArray)(i:Int):St:=⟨[(0,.lit (.string s)),(3,.lit (.int .i64 i))],[],2⟩
attribute[go_sem] sy
@[go_sem] def hi266_4:DT:=.r2 0 22 .nil
def Hl:Hint where
 acts:=fun _=>[]
 draws:=fun
  | 4=>⟨hi266_4,[[],[],[0,1],[0,1,2],[0,1,2,3],.range 5,.range 5,.range 7,.range 8,.range 9,[],[],[10,11],[10,11,12],[0,1,2,3,4,10,11,12,13],[0,1,2,3,4,10,11,12,13,14],[0,1,2,3,4,10,11,12,13,14],[0,1,2,3,4,10,11,12,13,14,15,16],[0,1,2,3,4,10,11,12,13,14,15,16,17],[0,1,2,3,4,10,11,12,13,14,15,16,17,18],.range 15,.range 21],[0,1,2,3,4,5,6,7,8,9,10,11,12,13,14,16,17,18,19,20,15,21]⟩
  | _=>⟨.nil,[],[]⟩
theorem Ti (i:Nat):Hl.acts i=[]:=rfl
theorem Tj (i:Nat):Hl.views i=none:=rfl
attribute[go_sem] Ti Tj ntmps266 results266
@[go_sem] theorem Xp:(Hl.draws 4).order=hi266_4:=rfl
instance k266 {s:ByteArray}:Ctr (nu s) (fun (res:Bool)=>ak prog 266 [.lit (.string s)] [] (.lit (.bool res)) []):=⟨by
 intro res h0
 refine co (hi:=Hl) func266 rfl rfl ?_
 unfold nu at h0
 obtain⟨q02,l0,h0⟩:=ae h0
 simp(config:=cS)only[go_sem, *]
 refine ah (m1:=.mk) (m2:=.mk) [.nf [0,3] []] (sy s) l0 ?_ ?_
 ·simp(config:=cS)only[go_sem, *]
 ·have k0:=h0
  clear h0 l0
  intro _ i_1 _ h0 gb0
  unfold io at h0
  try dsimp only at h0
  exact run⟩
instance k176 {l:Int}:Ctr (cY l) (fun (res:Int)=>ak prog 176 [.lit (.int .i64 l)] [] (.lit (.int .i64 res)) []):=⟨by
 intro res h0
 refine co (hi:=hi00) func176 rfl rfl ?_
 unfold cY at h0
 exact run⟩
def rA (l:List Int)(a b:Int):St:=⟨[(0,.sl (ab eI l)),(5,.sl (ab eI l)),(6,.lit (.int .i64 a)),(7,.lit (.int .i64 b))],[],2⟩
attribute[go_sem] rA
instance k172 {l:List Int}:Ctr (dX l) (fun (res:Bool)=>ak prog 172 [.sl (ab eI l)] [] (.lit (.bool res)) []):=⟨by
 intro res h0
 refine co (hi:=hi00) func172 rfl rfl ?_
 unfold dX at h0
 obtain⟨q05,l0,h0⟩:=ae h0
 simp(config:=cS)only[go_sem, *]
 refine ah (m1:=.mk) (m2:=.mk) [.nf [0,5,6,7] []] (rA l ((l.length:Nat):Int)) l0 ?_ ?_
 ·simp(config:=cS)only[go_sem, *]
 ·have k0:=h0
  clear h0 l0
  intro _ v7_1 _ h0 gb0
  unfold gp at h0
  try dsimp only at h0
  exact run⟩
instance k223 {n:GNode}:Ctr (nw n) (fun (res:Bool)=>ak prog 223 [.agg (GNode.encS n)] [] (.lit (.bool res)) []):=⟨by
 intro res h0
 refine co (hi:=hi00) func223 rfl rfl ?_
 unfold nw at h0
 exact run⟩
def qH (a:List GNode)(b c:Int)(d:List GNode)(e:Int)(f:List GTie)(g:Int)(h:ByteArray)(i:List Int)(j k:Int):St:=⟨[(1,.ptr 64 1 0 0),(4,.ptr 256 1 0 0),(35,.sl (ab GNode.encS a)),(36,.lit (.int .i64 b)),(37,.lit (.int .i64 c)),(48,.sl (ab GNode.encS d)),(49,.lit (.int .i64 e)),(50,.lit (.int .i64 k))],[(64,1,.var [.sl (ab GNode.encS a),.sl (ab GTie.enc f),.lit (.int .i64 g)]),(256,1,.var [.lit (.string h),.sl (ab eI i),.lit (.int .i64 j)])],2⟩
attribute[go_sem] qH
def qI (a:List GNode)(b:Int)(c:List GTie)(d e:Int):St:=⟨[(1,.ptr 64 1 0 0),(35,.sl (ab GNode.encS a)),(36,.lit (.int .i64 b)),(37,.lit (.int .i64 e))],[(64,1,.var [.sl (ab GNode.encS a),.sl (ab GTie.enc c),.lit (.int .i64 d)])],2⟩
attribute[go_sem] qI
instance k142 {s:GShow}:Ctr (kW s) (fun (res:Bool)=>ak prog 142 [.agg (GShow.encS s)] [] (.lit (.bool res)) []):=⟨by
 intro res h0
 refine co (hi:=hi00) func142 rfl rfl ?_
 unfold kW at h0
 obtain⟨_,h0⟩|⟨_,h0⟩:=itP h0
 ·exact run
 ·obtain⟨_,h0⟩|⟨_,h0⟩:=itP h0
  ·exact run
  ·obtain⟨x01,g1,h0⟩:=ae h0
   have:=cU (k:=0) g1
   obtain⟨_,h0⟩|⟨_,h0⟩:=itP h0
   ·exact run
   ·obtain⟨_,h0⟩|⟨_,h0⟩:=itP h0
    ·obtain⟨q06,l0,h0⟩:=ae h0
     simp(config:=cS)only[go_sem, *]
     refine ah (m1:=.mk) (m2:=.mk) [.nf [1,35,36,37] [64]] (qI s.nodes ((s.nodes.length:Nat):Int) s.ties s.horizon) l0 ?_ ?_
     ·simp(config:=cS)only[go_sem, *]
     ·have k0:=h0
      clear h0 l0
      intro _ v37_1 _ h0 gb0
      unfold fz at h0
      try dsimp only at h0
      obtain⟨_,h0⟩|⟨_,h0⟩:=itP h0
      ·obtain⟨x02,_,_,_,h0⟩:=gtI h0
       obtain⟨r03,g0,h0⟩:=ae h0
       simp(config:=cS)only[go_sem, *]
       have g0:=ctr g0
       refine ag g0 ?_
       obtain⟨_,h0⟩|⟨_,h0⟩:=itB h0
       ·obtain⟨_,h0⟩:=ckP h0
        obtain⟨_,h0⟩:=ckP h0
        obtain⟨q05,l0,h0⟩:=ae h0
        simp(config:=cS)only[go_sem, *]
        refine ah (m1:=.mk) (m2:=.mk) [.nf [1,4,35,36,37,48,49,50] [64,256]] (qH s.nodes ((s.nodes.length:Nat):Int) v37_1 (s.nodes.take v37_1.toNat) (((s.nodes.take v37_1.toNat).length:Nat):Int) s.ties s.horizon x02.name x02.label x02.watch) l0 ?_ ?_
        ·simp(config:=cS)only[go_sem, *]
        ·have k0:=h0
         clear h0 l0
         intro _ v50_2 _ h0 gb0
         unfold fy at h0
         try dsimp only at h0
         exact run
       ·exact run
      ·exact run
    ·exact run⟩
instance k103 {n:Int} {node:Int}:Ctr (gJ n node) (fun (res:Bool)=>ak prog 103 [.lit (.int .i64 n),.lit (.int .i64 node)] [] (.lit (.bool res)) []):=⟨by
 intro res h0
 refine co (hi:=hi00) func103 rfl rfl ?_
 unfold gJ at h0
 exact run⟩
instance k224 {n:Int}:Ctr (kK n) (fun (res:Bool)=>ak prog 224 [.lit (.int .i64 n)] [] (.lit (.bool res)) []):=⟨by
 intro res h0
 refine co (hi:=hi00) func224 rfl rfl ?_
 unfold kK at h0
 exact run⟩
def oB (c d:List Int)(a b:Int):St:=⟨[(0,.sl (ab eI c)),(1,.sl (ab eI d)),(12,.lit (.int .i64 a)),(13,.lit (.int .i64 b))],[],2⟩
attribute[go_sem] oB
@[go_sem] def hi91_6:DT:=.r2 0 9 .nil
def hi91:Hint where
 acts:=fun _=>[]
 draws:=fun
  | 6=>⟨hi91_6,[[],[],[0,1],[0,1,2],[],[],[4,5],[4,5,6],.range 8],.range 9⟩
  | _=>⟨.nil,[],[]⟩
theorem Vc (i:Nat):hi91.acts i=[]:=rfl
theorem Vd (i:Nat):hi91.views i=none:=rfl
attribute[go_sem] Vc Vd ntmps91 results91
@[go_sem] theorem Ya:(hi91.draws 6).order=hi91_6:=rfl
instance k91 {v0:List Int} {v1:List Int}:Ctr (cn v0 v1) (fun (res:Bool)=>ak prog 91 [.sl (ab eI v0),.sl (ab eI v1)] [] (.lit (.bool res)) []):=⟨by
 intro res h0
 refine co (hi:=hi91) func91 rfl rfl ?_
 unfold cn at h0
 obtain⟨_,h0⟩|⟨_,h0⟩:=itP h0
 ·obtain⟨q03,l0,h0⟩:=ae h0
  simp(config:=cS)only[go_sem, *]
  refine ah (m1:=.mk) (m2:=.mk) [.nf [0,1,12,13] []] (oB v0 v1 ((v0.length:Nat):Int)) l0 ?_ ?_
  ·simp(config:=cS)only[go_sem, *]
  ·have k0:=h0
   clear h0 l0
   intro _ v13_1 _ h0 gb0
   unfold dz at h0
   try dsimp only at h0
   exact run
 ·exact run⟩
end Go.Proofs.Qc
