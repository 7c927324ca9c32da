/- Functions. -/
import Derived.Test.YtpodkllkinpfmaaGreatDoorXhX
import Derived.Test.YtpodkllkinpfmaaGreatDoorXh37
set_option linter.all false
set_option maxRecDepth 100000
set_option maxHeartbeats 4000000
namespace Go.Proofs.Qh
open Go Tryz
theorem co {hi:Hint}{f:FuncId}{fn:Func}{c:Code}{args:List AV}{h0 h':Hp}{r:AV}(hf:Tryz.prog.funcs[f]?=some fn)(hn:(fn.name == "runtime.NumGoroutine")=false) (hb:fn.body=some c) (h:cq prog mdT T fn.ntmps hi c ⟨qf 0 args,h0,1⟩ (retK T [] fn.results.toList (h0.map (·.1)) (fun r1 h1=>r1=r∧h1=h'))) (hc:lA hi c=true:=by decide +kernel) (hlen:args.length≤fn.ntmps:=by simp):aj prog f args h0 r h':=aB (ra:=[]) (md:=mdT) hT hf hn hb hc hlen h
attribute[go_sem] ntmps59 results59 ntmps155 results155 ntmps57 results57 ntmps58 results58 ntmps9 results9 ntmps67 results67 ntmps169 results169 ntmps65 results65 ntmps170 results170 ntmps66 results66 ntmps12 results12 ntmps164 results164 ntmps331 results331 ntmps160 results160 ntmps332 results332 ntmps294 results294 ntmps295 results295 ntmps159 results159 ntmps296 results296 ntmps297 results297 ntmps298 results298 ntmps236 results236 ntmps144 results144 ntmps146 results146 ntmps201 results201 ntmps147 results147 ntmps358 results358 ntmps357 results357 ntmps371 results371 ntmps359 results359 ntmps167 results167 ntmps161 results161 ntmps333 results333 ntmps247 results247 ntmps163 results163 ntmps245 results245 ntmps61 results61 ntmps248 results248 ntmps249 results249 ntmps250 results250 ntmps251 results251 ntmps63 results63 ntmps334 results334 ntmps299 results299 ntmps237 results237 ntmps301 results301 ntmps157 results157 ntmps335 results335 ntmps336 results336 ntmps361 results361 ntmps362 results362 ntmps342 results342 ntmps363 results363 ntmps372 results372 ntmps373 results373 ntmps158 results158 ntmps343 results343 ntmps302 results302 ntmps239 results239 ntmps149 results149 ntmps148 results148 ntmps150 results150 ntmps215 results215 ntmps214 results214 ntmps266 results266 ntmps189 results189 ntmps107 results107 ntmps267 results267 ntmps187 results187 ntmps224 results224 ntmps269 results269 ntmps223 results223 ntmps124 results124
instance k59 {a:List Int} {left:Int}:Ctr (np a left) (fun (res:Int)=>aj prog 59 [.sl (ab eI a),.lit (.int .i64 left)] [] (.lit (.int .i64 res)) []):=⟨by
 intro res h0
 refine co (hi:=hi00) func59 rfl rfl ?_
 unfold np at h0
 exact run⟩
instance k155 {a:GNode} {left:Int}:Ctr (nq a left) (fun (res:Int)=>aj prog 155 [.agg (GNode.encS a),.lit (.int .i64 left)] [] (.lit (.int .i64 res)) []):=⟨by
 intro res h0
 refine co (hi:=hi00) func155 rfl rfl ?_
 unfold nq at h0
 exact run⟩
@[go_sem] def vT (a:List GNode):(Int × Int)→St
 | (left,i)=>⟨[(0,.sl (ab GNode.encS a)),(1,.lit (.int .i64 left)),(5,.lit (.int .i64 i))],[],2⟩
instance k57 {a:List GNode} {left:Int}:Ctr (mv a left) (fun (res:Int)=>aj prog 57 [.sl (ab GNode.encS a),.lit (.int .i64 left)] [] (.lit (.int .i64 res)) []):=⟨by
 intro res h0
 refine co (hi:=hi00) func57 rfl rfl ?_
 unfold mv at h0
 obtain⟨_,h0⟩|⟨_,h0⟩:=itP h0
 ·exact run
 obtain⟨q03,l0,h0⟩:=ae h0
 simp(config:=cS)only[go_sem, *]
 refine ag (m1:=.mk) (m2:=.mk) [.nf [0,1,5] []] (vT a) l0 ?_ ?_
 ·simp(config:=cS)only[go_sem, *]
 have k0:=h0
 clear h0 l0
 intro _ s0 _ h0 gb0
 obtain⟨left_1,i_1⟩:=s0
 unfold jD at h0
 try dsimp only at h0
 exact run⟩
instance k58 {a:List GTie} {left:Int}:Ctr (nr a left) (fun (res:Int)=>aj prog 58 [.sl (ab GTie.enc a),.lit (.int .i64 left)] [] (.lit (.int .i64 res)) []):=⟨by
 intro res h0
 refine co (hi:=hi00) func58 rfl rfl ?_
 unfold nr at h0
 exact run⟩
instance k9 {a:GShow} {left:Int}:Ctr (nu a left) (fun (res:Int)=>aj prog 9 [.agg (GShow.encS a),.lit (.int .i64 left)] [] (.lit (.int .i64 res)) []):=⟨by
 intro res h0
 refine co (hi:=hi00) func9 rfl rfl ?_
 unfold nu at h0
 exact run⟩
@[go_sem] def xl (a:List Int):(Int × (List Int))→St
 | (i,out)=>⟨[(0,.sl (ab eI a)),(3,.ref 448 1 0 out.length),(4,.lit (.int .i64 i))],[(448,1,.row true (ab eI out))],2⟩
instance k67 {a:List Int}:Ctr (nw a) (fun (res:List Int)=>aj prog 67 [.sl (ab eI a)] [] (.ref 20000 1 0 res.length) [(20000,1,.row true (ab eI res))]):=⟨by
 intro res h0
 refine aB (ra:=[.home 2]) (md:=mdT) hT (hi:=hi00) func67 rfl rfl (by decide +kernel) (by simp) ?_
 unfold nw at h0
 obtain⟨_,h0⟩:=ckP h0
 obtain⟨_,h0⟩:=ckP h0
 obtain⟨q03,l0,h0⟩:=ae h0
 simp(config:=cS)only[go_sem, *]
 refine ag (m1:=.mk) (m2:=.mk) [.nf [0,3,4] [448]] (xl a) l0 ?_ ?_
 ·simp(config:=cS)only[go_sem, *]
 have k0:=h0
 clear h0 l0
 intro _ s0 _ h0 gb0
 obtain⟨i_1,out_1⟩:=s0
 unfold kH at h0
 try dsimp only at h0
 exact run⟩
instance k169 {a:GNode}:Ctr (nx a) (fun (res:GNode)=>aj prog 169 [.agg (GNode.encS a)] [] (.agg [.lit (.string res.name),.ref 20000 1 0 res.label.length,.lit (.int .i64 res.watch)]) [(20000,1,.row true (ab eI res.label))]):=⟨by
 intro res h0
 refine aB (ra:=[.homeCell 128 1]) (md:=mdT) hT (hi:=hi00) func169 rfl rfl (by decide +kernel) (by simp) ?_
 unfold nx at h0
 exact run⟩
@[go_sem] def vU (a:List GNode):(Int × (List GNode))→St
 | (i,out)=>⟨[(0,.sl (ab GNode.encS a)),(3,.ref 448 1 0 out.length),(4,.lit (.int .i64 i))],[(448,1,.row true (ab GNode.encO out))],2⟩
instance k65 {a:List GNode}:Ctr (mw a) (fun (res:List GNode)=>aj prog 65 [.sl (ab GNode.encS a)] [] (.ref 20000 1 0 res.length) [(20000,1,.row true (ab GNode.encO res))]):=⟨by
 intro res h0
 refine aB (ra:=[.home 2]) (md:=mdT) hT (hi:=hi00) func65 rfl rfl (by decide +kernel) (by simp) ?_
 unfold mw at h0
 obtain⟨_,h0⟩:=ckP h0
 obtain⟨_,h0⟩:=ckP h0
 obtain⟨q04,l0,h0⟩:=ae h0
 simp(config:=cS)only[go_sem, *]
 refine ag (m1:=.mk) (m2:=.mk) [.nf [0,3,4] [448]] (vU a) l0 ?_ ?_
 ·simp(config:=cS)only[go_sem, *]
 have k0:=h0
 clear h0 l0
 intro _ s0 _ h0 gb0
 obtain⟨i_1,out_1⟩:=s0
 unfold jE at h0
 try dsimp only at h0
 exact run⟩
instance k170 {a:GTie}:Ctr (qh a) (fun (res:GTie)=>aj prog 170 [.agg (GTie.enc a)] [] (.agg (GTie.enc res)) []):=⟨by
 intro res h0
 refine co (hi:=hi00) func170 rfl rfl ?_
 unfold qh at h0
 exact run⟩
@[go_sem] def xm (a:List GTie):(Int × (List GTie))→St
 | (i,out)=>⟨[(0,.sl (ab GTie.enc a)),(3,.ref 448 1 0 out.length),(4,.lit (.int .i64 i))],[(448,1,.row true (ab GTie.enc out))],2⟩
instance k66 {a:List GTie}:Ctr (ny a) (fun (res:List GTie)=>aj prog 66 [.sl (ab GTie.enc a)] [] (.ref 20000 1 0 res.length) [(20000,1,.row true (ab GTie.enc res))]):=⟨by
 intro res h0
 refine aB (ra:=[.home 2]) (md:=mdT) hT (hi:=hi00) func66 rfl rfl (by decide +kernel) (by simp) ?_
 unfold ny at h0
 obtain⟨_,h0⟩:=ckP h0
 obtain⟨_,h0⟩:=ckP h0
 obtain⟨q04,l0,h0⟩:=ae h0
 simp(config:=cS)only[go_sem, *]
 refine ag (m1:=.mk) (m2:=.mk) [.nf [0,3,4] [448]] (xm a) l0 ?_ ?_
 ·simp(config:=cS)only[go_sem, *]
 have k0:=h0
 clear h0 l0
 intro _ s0 _ h0 gb0
 obtain⟨i_1,out_1⟩:=s0
 unfold kI at h0
 try dsimp only at h0
 exact run⟩
instance k12 {a:GShow}:Ctr (jB a) (fun (res:GShow)=>aj prog 12 [.agg (GShow.encS a)] [] (.agg [.ref 20000 1 0 res.nodes.length,.ref 20001 1 0 res.ties.length,.lit (.int .i64 res.horizon)]) [(20000,1,.row true (ab GNode.encO res.nodes)),(20001,1,.row true (ab GTie.enc res.ties))]):=⟨by
 intro res h0
 refine aB (ra:=[.homeCell 128 0,.homeCell 128 1]) (md:=mdT) hT (hi:=hi00) func12 rfl rfl (by decide +kernel) (by simp) ?_
 unfold jB at h0
 exact run⟩
instance k164 {n:Int} {lo:Int} {hi:Int}:Ctr (aM n lo hi) (fun (res:Bool)=>aj prog 164 [.lit (.int .i64 n),.lit (.int .i64 lo),.lit (.int .i64 hi)] [] (.lit (.bool res)) []):=⟨by
 intro res h0
 refine co (hi:=hi00) func164 rfl rfl ?_
 unfold aM at h0
 exact run⟩
@[go_sem] def xn (s:ByteArray)(i:Int):St:=⟨[(0,.lit (.string s)),(3,.lit (.int .i64 i))],[],2⟩
instance k331 {s:ByteArray}:Ctr (nz s) (fun (res:Bool)=>aj prog 331 [.lit (.string s)] [] (.lit (.bool res)) []):=⟨by
 intro res h0
 refine co (hi:=hi00) func331 rfl rfl ?_
 unfold nz at h0
 obtain⟨q03,l0,h0⟩:=ae h0
 simp(config:=cS)only[go_sem, *]
 refine ag (m1:=.mk) (m2:=.mk) [.nf [0,3] []] (xn s) l0 ?_ ?_
 ·simp(config:=cS)only[go_sem, *]
 have k0:=h0
 clear h0 l0
 intro _ i_1 _ h0 gb0
 unfold iu at h0
 try dsimp only at h0
 exact run⟩
instance k160 {n:Int}:Ctr (dr n) (fun (res:Int)=>aj prog 160 [.lit (.int .i64 n)] [] (.lit (.int .i64 res)) []):=⟨by
 intro res h0
 refine co (hi:=hi00) func160 rfl rfl ?_
 unfold dr at h0
 exact run⟩
@[go_sem] def vV (l:List Int)(v6 v7:Int):St:=⟨[(0,.sl (ab eI l)),(5,.sl (ab eI l)),(6,.lit (.int .i64 v6)),(7,.lit (.int .i64 v7))],[],2⟩
instance k332 {l:List Int}:Ctr (iv l) (fun (res:Bool)=>aj prog 332 [.sl (ab eI l)] [] (.lit (.bool res)) []):=⟨by
 intro res h0
 refine co (hi:=hi00) func332 rfl rfl ?_
 unfold iv at h0
 obtain⟨q06,l0,h0⟩:=ae h0
 simp(config:=cS)only[go_sem, *]
 refine ag (m1:=.mk) (m2:=.mk) [.nf [0,5,6,7] []] (vV l (l.length:Int)) l0 ?_ ?_
 ·simp(config:=cS)only[go_sem, *]
 have k0:=h0
 clear h0 l0
 intro _ v7_1 _ h0 gb0
 unfold gE at h0
 try dsimp only at h0
 exact run⟩
instance k294 {n:GNode}:Ctr (nD n) (fun (res:Bool)=>aj prog 294 [.agg (GNode.encS n)] [] (.lit (.bool res)) []):=⟨by
 intro res h0
 refine co (hi:=hi00) func294 rfl rfl ?_
 unfold nD at h0
 exact run⟩
@[go_sem] def uo (name:ByteArray)(v8:List GNode)(v9 v10:Int):St:=⟨[(1,.lit (.string name)),(8,.sl (ab GNode.encS v8)),(9,.lit (.int .i64 v9)),(10,.lit (.int .i64 v10))],[],2⟩
instance k295 {s:GShow} {name:ByteArray}:Ctr (kJ s name) (fun (res:Int)=>aj prog 295 [.agg (GShow.encS s),.lit (.string name)] [] (.lit (.int .i64 res)) []):=⟨by
 intro res h0
 refine co (hi:=hi00) func295 rfl rfl ?_
 unfold kJ at h0
 obtain⟨q02,l0,h0⟩:=ae h0
 simp(config:=cS)only[go_sem, *]
 refine ag (m1:=.mk) (m2:=.mk) [.nf [1,8,9,10] []] (uo name s.nodes (s.nodes.length:Int)) l0 ?_ ?_
 ·simp(config:=cS)only[go_sem, *]
 have k0:=h0
 clear h0 l0
 intro _ v10_1 _ h0 gb0
 unfold eR at h0
 try dsimp only at h0
 exact run⟩
@[go_sem] def tB (p:Int)(v8:List GNode)(v9 v10:Int):St:=⟨[(1,.lit (.int .i64 p)),(8,.sl (ab GNode.encS v8)),(9,.lit (.int .i64 v9)),(10,.lit (.int .i64 v10))],[],2⟩
instance k159 {s:GShow} {p:Int}:Ctr (bl s p) (fun (res:Int)=>aj prog 159 [.agg (GShow.encS s),.lit (.int .i64 p)] [] (.lit (.int .i64 res)) []):=⟨by
 intro res h0
 refine co (hi:=hi00) func159 rfl rfl ?_
 unfold bl at h0
 obtain⟨q02,l0,h0⟩:=ae h0
 simp(config:=cS)only[go_sem, *]
 refine ag (m1:=.mk) (m2:=.mk) [.nf [1,8,9,10] []] (tB p s.nodes (s.nodes.length:Int)) l0 ?_ ?_
 ·simp(config:=cS)only[go_sem, *]
 have k0:=h0
 clear h0 l0
 intro _ v10_1 _ h0 gb0
 unfold ej at h0
 try dsimp only at h0
 exact run⟩
@[go_sem] def xo (n:Int)(v7:List Int)(v8 v9:Int):St:=⟨[(1,.lit (.int .i64 n)),(7,.sl (ab eI v7)),(8,.lit (.int .i64 v8)),(9,.lit (.int .i64 v9))],[],2⟩
instance k296 {l:List Int} {n:Int}:Ctr (cI l n) (fun (res:Bool)=>aj prog 296 [.sl (ab eI l),.lit (.int .i64 n)] [] (.lit (.bool res)) []):=⟨by
 intro res h0
 refine co (hi:=hi00) func296 rfl rfl ?_
 unfold cI at h0
 obtain⟨q02,l0,h0⟩:=ae h0
 simp(config:=cS)only[go_sem, *]
 refine ag (m1:=.mk) (m2:=.mk) [.nf [1,7,8,9] []] (xo n l (l.length:Int)) l0 ?_ ?_
 ·simp(config:=cS)only[go_sem, *]
 have k0:=h0
 clear h0 l0
 intro _ v9_1 _ h0 gb0
 unfold iw at h0
 try dsimp only at h0
 exact run⟩
@[go_sem] def sk (a v15:List Int)(v16 v17:Int):St:=⟨[(0,.sl (ab eI a)),(15,.sl (ab eI v15)),(16,.lit (.int .i64 v16)),(17,.lit (.int .i64 v17))],[],2⟩
instance k297 {a:List Int} {b:List Int}:Ctr (eU a b) (fun (res:Bool)=>aj prog 297 [.sl (ab eI a),.sl (ab eI b)] [] (.lit (.bool res)) []):=⟨by
 intro res h0
 refine co (hi:=hi00) func297 rfl rfl ?_
 unfold eU at h0
 obtain⟨r01,g0,h0⟩:=ae h0
 simp(config:=cS)only[go_sem, *]
 have g0:=ctr g0
 refine ai g0 ?_
 obtain⟨_,h0⟩|⟨_,h0⟩:=itB h0
 ·obtain⟨r02,g0,h0⟩:=ae h0
  simp(config:=cS)only[go_sem, *]
  have g0:=ctr g0
  refine ai g0 ?_
  obtain⟨_,h0⟩|⟨_,h0⟩:=itB h0
  ·obtain⟨q05,l0,h0⟩:=ae h0
   simp(config:=cS)only[go_sem, *]
   refine ag (m1:=.mk) (m2:=.mk) [.nf [0,15,16,17] []] (sk a b (b.length:Int)) l0 ?_ ?_
   ·simp(config:=cS)only[go_sem, *]
   have k0:=h0
   clear h0 l0
   intro _ v17_1 _ h0 gb0
   unfold dt at h0
   try dsimp only at h0
   exact run
  exact run
 exact run⟩
@[go_sem] def uS (v33:List GNode)(v34:Int)(s_1:List GTie)(s_2 v35:Int):St:=⟨[(1,.ptr 64 1 0 0),(33,.sl (ab GNode.encS v33)),(34,.lit (.int .i64 v34)),(35,.lit (.int .i64 v35))],[(64,1,.var [.sl (ab GNode.encS v33),.sl (ab GTie.enc s_1),.lit (.int .i64 s_2)])],2⟩
@[go_sem] def uT (v66:List GNode)(v67 v68:Int)(v73:List Int)(v74:Int)(s_1:List GTie)(s_2:Int)(n_0:ByteArray)(n_2 v75:Int):St:=⟨[(1,.ptr 64 1 0 0),(6,.ptr 384 1 0 0),(66,.sl (ab GNode.encS v66)),(67,.lit (.int .i64 v67)),(68,.lit (.int .i64 v68)),(73,.sl (ab eI v73)),(74,.lit (.int .i64 v74)),(75,.lit (.int .i64 v75))],[(64,1,.var [.sl (ab GNode.encS v66),.sl (ab GTie.enc s_1),.lit (.int .i64 s_2)]),(384,1,.var [.lit (.string n_0),.sl (ab eI v73),.lit (.int .i64 n_2)])],2⟩
@[go_sem] def uU (v66:List GNode)(v67:Int)(s_1:List GTie)(s_2 v68:Int):St:=⟨[(1,.ptr 64 1 0 0),(66,.sl (ab GNode.encS v66)),(67,.lit (.int .i64 v67)),(68,.lit (.int .i64 v68))],[(64,1,.var [.sl (ab GNode.encS v66),.sl (ab GTie.enc s_1),.lit (.int .i64 s_2)])],2⟩
@[go_sem] def hi234_16:DT:=.r2 0 35 .nil
@[go_sem] def hi234_15:DT:=.i1 0 (.i2 1 (.i0 2 [0] (.i2 3 (.i2 4 .nil))))
def Eb:Hint where
 acts:=fun _=>[]
 draws:=fun
  | 15=>⟨hi234_15,[[],[],[1],[0,1,2],[0,1,2,3]],.range 5⟩
  | 16=>⟨hi234_16,[[],[0],[0,1],[0,1,2],[0,1,2,3],[0,1,2],.range 6,.range 7,.range 8,[0,1,2],.range 10,.range 11,.range 12,.range 13,.range 14,.range 13,.range 16,.range 17,.range 18,.range 13,[0,1,2,3,4,5,6,7,8,9,10,11,12,19],.range 21,.range 22,.range 23,.range 24,.range 25,.range 24,[0,1,2,3,4,5,6,7,8,9,10,11,12,13,14,15,16,17,18,19,20,21,22,23,26],.range 24,[0,1,2,3,4,5,6,7,8,9,10,11,12,13,14,15,16,17,18,19,20,21,22,23,26,27,28],[0,1,2,3,4,5,6,7,8,9,10,11,12,13,14,15,16,17,18,19,20,21,22,23,26,27,28,29],[0,1,2,3,4,5,6,7,8,9,10,11,12,13,14,15,16,17,18,19,20,21,22,23,26,27,28,29,30],.range 32,.range 33,.range 34],.range 35⟩
  | _=>⟨.nil,[],[]⟩
theorem UU (i:Nat):Eb.acts i=[]:=rfl
theorem UV (i:Nat):Eb.views i=none:=rfl
attribute[go_sem] UU UV ntmps234 results234
@[go_sem] theorem Yo:(Eb.draws 15).order=hi234_15:=rfl
@[go_sem] theorem Yp:(Eb.draws 16).order=hi234_16:=rfl
instance k234 {s:GShow}:Ctr (lD s) (fun (res:Bool)=>aj prog 234 [.agg (GShow.encS s)] [] (.lit (.bool res)) []):=⟨by
 intro res h0
 refine co (hi:=Eb) func234 rfl rfl ?_
 unfold lD at h0
 obtain⟨r01,g0,h0⟩:=ae h0
 simp(config:=cS)only[go_sem, *]
 have g0:=ctr g0
 refine ai g0 ?_
 obtain⟨_,h0⟩|⟨_,h0⟩:=itB h0
 ·obtain⟨x02,g1,h0⟩:=ae h0
  have:=fo (k:=0) g1
  obtain⟨_,h0⟩|⟨_,h0⟩:=itP h0
  ·exact run
  obtain⟨_,h0⟩|⟨_,h0⟩:=itP h0
  ·obtain⟨q17,l0,h0⟩:=ae h0
   simp(config:=cS)only[go_sem, *]
   refine ag (m1:=.mk) (m2:=.mk) [.nf [1,33,34,35] [64]] (uS s.nodes (s.nodes.length:Int) s.ties s.horizon) l0 ?_ ?_
   ·simp(config:=cS)only[go_sem, *]
   have k0:=h0
   clear h0 l0
   intro _ v35_1 _ h0 gb0
   unfold fA at h0
   try dsimp only at h0
   obtain⟨_,h0⟩|⟨_,h0⟩:=itP h0
   ·exact run
   cases h0
   obtain rfl:=(aE gb0).symm
   clear gb0
   have h0:=k0
   clear k0
   try dsimp only at h0
   obtain⟨q16,l0,h0⟩:=ae h0
   simp(config:=cS)only[go_sem, *]
   refine ag (m1:=.mk) (m2:=.mk) [.nf [1,66,67,68] [64]] (uU s.nodes (s.nodes.length:Int) s.ties s.horizon) l0 ?_ ?_
   ·simp(config:=cS)only[go_sem, *]
   have k0:=h0
   clear h0 l0
   intro _ v68_2 _ h0 gb0
   unfold fC at h0
   try dsimp only at h0
   obtain⟨_,h0⟩|⟨_,h0⟩:=itP h0
   ·obtain⟨x07,_,_,_,h0⟩:=gtI h0
    obtain⟨q15,l0,h0⟩:=ae h0
    simp(config:=cS)only[go_sem, *]
    refine ag (m1:=.mk) (m2:=.mk) [.nf [1,6,66,67,68,73,74,75] [64,384]] (uT s.nodes (s.nodes.length:Int) v68_2 x07.label (x07.label.length:Int) s.ties s.horizon x07.name x07.watch) l0 ?_ ?_
    ·simp(config:=cS)only[go_sem, *]
    have k0:=h0
    clear h0 l0
    intro _ v75_3 _ h0 gb0
    unfold fB at h0
    try dsimp only at h0
    exact run
   exact run
  exact run
 exact run⟩
@[go_sem] def vW (b v12:List Int)(v13 v14:Int):St:=⟨[(1,.sl (ab eI b)),(12,.sl (ab eI v12)),(13,.lit (.int .i64 v13)),(14,.lit (.int .i64 v14))],[],2⟩
instance k298 {a:List Int} {b:List Int}:Ctr (my a b) (fun (res:Bool)=>aj prog 298 [.sl (ab eI a),.sl (ab eI b)] [] (.lit (.bool res)) []):=⟨by
 intro res h0
 refine co (hi:=hi00) func298 rfl rfl ?_
 unfold my at h0
 obtain⟨_,h0⟩|⟨_,h0⟩:=itP h0
 ·obtain⟨q03,l0,h0⟩:=ae h0
  simp(config:=cS)only[go_sem, *]
  refine ag (m1:=.mk) (m2:=.mk) [.nf [1,12,13,14] []] (vW b a (a.length:Int)) l0 ?_ ?_
  ·simp(config:=cS)only[go_sem, *]
  have k0:=h0
  clear h0 l0
  intro _ v14_1 _ h0 gb0
  unfold gF at h0
  try dsimp only at h0
  exact run
 exact run⟩
@[go_sem] def vX (node:Int)(v8:List GTie)(v9 v10:Int):St:=⟨[(1,.lit (.int .i64 node)),(8,.sl (ab GTie.enc v8)),(9,.lit (.int .i64 v9)),(10,.lit (.int .i64 v10))],[],2⟩
instance k236 {s:GShow} {node:Int}:Ctr (cM s node) (fun (res:Int)=>aj prog 236 [.agg (GShow.encS s),.lit (.int .i64 node)] [] (.lit (.int .i64 res)) []):=⟨by
 intro res h0
 refine co (hi:=hi00) func236 rfl rfl ?_
 unfold cM at h0
 obtain⟨q02,l0,h0⟩:=ae h0
 simp(config:=cS)only[go_sem, *]
 refine ag (m1:=.mk) (m2:=.mk) [.nf [1,8,9,10] []] (vX node s.ties (s.ties.length:Int)) l0 ?_ ?_
 ·simp(config:=cS)only[go_sem, *]
 have k0:=h0
 clear h0 l0
 intro _ v10_1 _ h0 gb0
 unfold gG at h0
 try dsimp only at h0
 exact run⟩
@[go_sem] def hi235_5:DT:=.r2 0 43 (.i2 44 (.i2 43 (.r2 45 4 .nil)))
def Iw:Hint where
 acts:=fun _=>[]
 draws:=fun
  | 5=>⟨hi235_5,[[],[0],[0,1],[0,1,2],[0,1,2,3],.range 5,.range 6,.range 7,.range 8,.range 9,.range 10,.range 11,.range 12,.range 13,.range 14,.range 13,[0,1,2,3,4,5,6,7,8,9,10,11,12,15],.range 17,.range 18,.range 19,.range 20,.range 21,.range 22,.range 23,.range 24,.range 23,[0,1,2,3,4,5,6,7,8,9,10,11,12,13,14,15,16,17,18,19,20,21,22,25],.range 27,.range 28,.range 29,.range 23,[0,1,2,3,4,5,6,7,8,9,10,11,12,13,14,15,16,17,18,19,20,21,22,30],.range 23,[0,1,2,3,4,5,6,7,8,9,10,11,12,13,14,15,16,17,18,19,20,21,22,32],[0,1,2,3,4,5,6,7,8,9,10,11,12,13,14,15,16,17,18,19,20,21,22,30,31,32,33],[0,1,2,3,4,5,6,7,8,9,10,11,12,13,14,15,16,17,18,19,20,21,22,30,31,32,33,34],[0,1,2,3,4,5,6,7,8,9,10,11,12,13,14,15,16,17,18,19,20,21,22,30,31,32,33,34,35],.range 37,.range 38,.range 39,.range 40,.range 40,[0,1,2,3,4,5,6,7,8,9,10,11,12,13,14,15,16,17,18,19,20,21,22,23,24,25,26,27,28,29,30,31,32,33,34,35,36,37,38,39,41],.range 43,.range 40,.range 45,.range 46,.range 47,.range 48],.range 49⟩
  | _=>⟨.nil,[],[]⟩
theorem UW (i:Nat):Iw.acts i=[]:=rfl
theorem UX (i:Nat):Iw.views i=none:=rfl
attribute[go_sem] UW UX ntmps235 results235
@[go_sem] theorem Zs:(Iw.draws 5).order=hi235_5:=rfl
instance k235 {s:GShow} {i:Int}:Ctr (nE s i) (fun (res:Bool)=>aj prog 235 [.agg (GShow.encS s),.lit (.int .i64 i)] [] (.lit (.bool res)) []):=⟨by
 intro res h0
 refine co (hi:=Iw) func235 rfl rfl ?_
 unfold nE at h0
 exact run⟩
@[go_sem] def xp (v21:Int)(s_0:List GNode)(s_1:List GTie)(s_2 v22:Int):St:=⟨[(1,.ptr 64 1 0 0),(21,.lit (.int .i64 v21)),(22,.lit (.int .i64 v22))],[(64,1,.var [.sl (ab GNode.encS s_0),.sl (ab GTie.enc s_1),.lit (.int .i64 s_2)])],2⟩
instance k144 {s:GShow}:Ctr (bX s) (fun (res:Bool)=>aj prog 144 [.agg (GShow.encS s)] [] (.lit (.bool res)) []):=⟨by
 intro res h0
 refine co (hi:=hi00) func144 rfl rfl ?_
 unfold bX at h0
 obtain⟨r01,g0,h0⟩:=ae h0
 simp(config:=cS)only[go_sem, *]
 have g0:=ctr g0
 refine ai g0 ?_
 obtain⟨_,h0⟩|⟨_,h0⟩:=itB h0
 ·obtain⟨_,h0⟩|⟨_,h0⟩:=itP h0
  ·exact run
  obtain⟨r02,g0,h0⟩:=ae h0
  simp(config:=cS)only[go_sem, *]
  have g0:=ctr g0
  refine ai g0 ?_
  obtain⟨_,h0⟩|⟨_,h0⟩:=itB h0
  ·obtain⟨q04,l0,h0⟩:=ae h0
   simp(config:=cS)only[go_sem, *]
   refine ag (m1:=.mk) (m2:=.mk) [.nf [1,21,22] [64]] (xp (s.ties.length:Int) s.nodes s.ties s.horizon) l0 ?_ ?_
   ·simp(config:=cS)only[go_sem, *]
   have k0:=h0
   clear h0 l0
   intro _ v22_1 _ h0 gb0
   unfold ix at h0
   try dsimp only at h0
   exact run
  exact run
 exact run⟩
@[go_sem] def uq  : (Int × ByteArray)→St
 | (n,s)=>⟨[(0,.lit (.int .i64 n)),(3,.lit (.string s))],[],2⟩
@[go_sem] def hi145_4:DT:=.i2 0 (.i2 1 (.i2 3 (.i2 4 (.i2 5 (.i1 6 (.fork (.i0 2 [6] (.i2 7 (.i1 8 (.i2 9 (.i2 10 .nil))))) (.i2 7 (.i1 8 (.i0 2 [6,8] (.i2 9 (.i2 10 .nil)))))))))))
def Ix:Hint where
 acts:=fun _=>[]
 draws:=fun
  | 4=>⟨hi145_4,[[],[0],[0,1],[],[3],[3,4],[3,4,5],[3,4,5,6],[3,4,5,6,7],.range 9,.range 10],.range 11⟩
  | _=>⟨.nil,[],[]⟩
theorem UY (i:Nat):Ix.acts i=[]:=rfl
theorem UZ (i:Nat):Ix.views i=none:=rfl
attribute[go_sem] UY UZ ntmps145 results145
@[go_sem] theorem Zt:(Ix.draws 4).order=hi145_4:=rfl
theorem yr {rec:Int→Option ByteArray}(hrec:∀ {n:Int} {res:ByteArray},rec n=some res→aj prog 145 [.lit (.int .i64 n)] [] (.lit (.string res)) []){n:Int}{res:ByteArray}(h:cP rec n=some res):aj prog 145 [.lit (.int .i64 n)] [] (.lit (.string res)) []:=by
 refine co (hi:=Ix) func145 rfl rfl ?_
 unfold cP at h
 obtain⟨h1,h⟩|⟨h1,h⟩:=aT h
 ·obtain⟨h2,h⟩|⟨h2,h⟩:=aT h
  ·obtain⟨h3,h⟩:=cL h
   cases h
   simp(config:=cS)only[go_sem,eqT h1,eqT h2,eqT h3]
  try simp(config:=cS)only[go_sem,eqT h1,eqF h2]
  refine fy ?_ ?_
  ·obtain⟨r01,g4,h⟩:=ae h
   simp(config:=cS)only[go_sem,eqT h1,eqF h2]
   refine ai (hrec g4) ?_
   obtain⟨h5,h⟩:=cL h
   cases h
   simp(config:=cS)only[go_sem,eqT h1,eqF h2,eqT h5]
  obtain⟨r02,g6,h⟩:=ae h
  simp(config:=cS)only[go_sem,eqT h1,eqF h2]
  refine ai (hrec g6) ?_
  obtain⟨h7,h⟩:=cL h
  cases h
  simp(config:=cS)only[go_sem,eqT h1,eqF h2,eqT h7]
 obtain⟨q03,l8,h⟩:=ae h
 simp(config:=cS)only[go_sem,eqF h1]
 refine ag (m1:=.mk) (m2:=.mk) [.nf [0,3] []] (uq) l8 ?_ ?_
 ·simp(config:=cS)only[go_sem,eqF h1]
 intro nb9 sb9 bb9 b9 gb9
 obtain⟨n_1,s_1⟩:=sb9
 unfold hU at b9
 try dsimp only at b9
 obtain⟨h10,b9⟩|⟨h10,b9⟩:=aT b9
 ·obtain⟨h11,b9⟩:=cL b9
  cases b9
  simp(config:=cS)only[go_sem,eqF h1,eqT h10,eqT h11]
  refine fz gb9 ?_
  simp(config:=cS)only[go_sem,eqF h1,eqT h10,eqT h11]
 cases b9
 obtain rfl:=(aE gb9).symm
 try dsimp only at h
 obtain⟨h13,h⟩:=cL h
 cases h
 simp(config:=cS)only[go_sem,eqF h1,eqF h10,eqT h13]
theorem uV (fu:Nat):∀ {n:Int} {res:ByteArray},dI fu n=some res→aj prog 145 [.lit (.int .i64 n)] [] (.lit (.string res)) []:=by
 induction fu with
 | zero=>intro _ _ h;cases h
 | succ fu ih=>intro _ _ h;exact yr (@ih) h
theorem kG {n:Int}{res:ByteArray}(h:dQ n=some res):aj prog 145 [.lit (.int .i64 n)] [] (.lit (.string res)) []:=uV 40 h
@[go_sem] def sQ (v11:Int)(s_0:List GNode)(s_1:List GTie)(s_2:Int):(Int × (List Int))→St
 | (v12,out)=>⟨[(1,.ptr 64 1 0 0),(3,.ref 320 1 0 out.length),(11,.lit (.int .i64 v11)),(12,.lit (.int .i64 v12))],[(64,1,.var [.sl (ab GNode.encS s_0),.sl (ab GTie.enc s_1),.lit (.int .i64 s_2)]),(320,1,.row true (ab eI out))],2⟩
instance k146 {s:GShow}:Ctr (jk s) (fun (res:List Int)=>aj prog 146 [.agg (GShow.encS s)] [] (.ref 20000 1 0 res.length) [(20000,1,.row true (ab eI res))]):=⟨by
 intro res h0
 refine aB (ra:=[.home 2]) (md:=mdT) hT (hi:=hi00) func146 rfl rfl (by decide +kernel) (by simp) ?_
 unfold jk at h0
 obtain⟨r01,g0,h0⟩:=ae h0
 simp(config:=cS)only[go_sem, *]
 have g0:=ctr g0
 refine ai g0 ?_
 obtain⟨_,h0⟩|⟨_,h0⟩:=itB h0
 ·obtain⟨q03,l0,h0⟩:=ae h0
  simp(config:=cS)only[go_sem, *]
  refine ag (m1:=.mk) (m2:=.mk) [.nf [1,3,11,12] [64,320]] (sQ (s.nodes.length:Int) s.nodes s.ties s.horizon) l0 ?_ ?_
  ·simp(config:=cS)only[go_sem, *]
  have k0:=h0
  clear h0 l0
  intro _ s0 _ h0 gb0
  obtain⟨v12_1,out_1⟩:=s0
  unfold dN at h0
  try dsimp only at h0
  exact run
 exact run⟩
@[go_sem] def vY (v8:List GTie)(v9:Int):(Int × (List Int))→St
 | (v10,out)=>⟨[(3,.ref 384 1 0 out.length),(8,.sl (ab GTie.enc v8)),(9,.lit (.int .i64 v9)),(10,.lit (.int .i64 v10))],[(384,1,.row true (ab eI out))],2⟩
instance k201 {s:GShow}:Ctr (em s) (fun (res:List Int)=>aj prog 201 [.agg (GShow.encS s)] [] (.ref 20000 1 0 res.length) [(20000,1,.row true (ab eI res))]):=⟨by
 intro res h0
 refine aB (ra:=[.home 2]) (md:=mdT) hT (hi:=hi00) func201 rfl rfl (by decide +kernel) (by simp) ?_
 unfold em at h0
 obtain⟨q02,l0,h0⟩:=ae h0
 simp(config:=cS)only[go_sem, *]
 refine ag (m1:=.mk) (m2:=.mk) [.nf [3,8,9,10] [384]] (vY s.ties (s.ties.length:Int)) l0 ?_ ?_
 ·simp(config:=cS)only[go_sem, *]
 have k0:=h0
 clear h0 l0
 intro _ s0 _ h0 gb0
 obtain⟨v10_1,out_1⟩:=s0
 unfold jF at h0
 try dsimp only at h0
 exact run⟩
instance k147 {s:GShow}:Ctr (lR s) (fun (res:List Int)=>aj prog 147 [.agg (GShow.encS s)] [] (.ref 20000 1 0 res.length) [(20000,1,.row true (ab eI res))]):=⟨by
 intro res h0
 refine aB (ra:=[.home 2]) (md:=mdT) hT (hi:=hi00) func147 rfl rfl (by decide +kernel) (by simp) ?_
 unfold lR at h0
 exact run⟩
@[go_sem] def sm (v12:Int)(s_0:List GNode)(s_1:List GTie)(s_2:Int)(v11:List Int):(Int × Int)→St
 | (n,v13)=>⟨[(1,.ptr 64 1 0 0),(3,.lit (.int .i64 n)),(11,.ref 704 1 0 v11.length),(12,.lit (.int .i64 v12)),(13,.lit (.int .i64 v13))],[(64,1,.var [.sl (ab GNode.encS s_0),.sl (ab GTie.enc s_1),.lit (.int .i64 s_2)]),(704,1,.row true (ab eI v11))],2⟩
@[go_sem] def so (s_0:List GNode)(s_1:List GTie)(s_2:Int):(Int × Int)→St
 | (n,p)=>⟨[(1,.ptr 64 1 0 0),(3,.lit (.int .i64 n)),(6,.lit (.int .i64 p))],[(64,1,.var [.sl (ab GNode.encS s_0),.sl (ab GTie.enc s_1),.lit (.int .i64 s_2)])],2⟩
@[go_sem] def hi100_7:DT:=.r2 0 17 .nil
def Iy:Hint where
 acts:=fun _=>[]
 draws:=fun
  | 7=>⟨hi100_7,[[],[],[1],[],[1,2,3],[1,2,3,4],[1,2,3,4,5],[],[7],[],[7,8,9],[7,8,9,10],[7,8,9,10,11],[1,2,3,4,5,6,7,8,9,10,11,12],[1,2,3,4,5,6,7,8,9,10,11,12,13],.range 15,.range 16],.range 17⟩
  | _=>⟨.nil,[],[]⟩
theorem Va (i:Nat):Iy.acts i=[]:=rfl
theorem Vb (i:Nat):Iy.views i=none:=rfl
attribute[go_sem] Va Vb ntmps100 results100
@[go_sem] theorem Zu:(Iy.draws 7).order=hi100_7:=rfl
instance k100 {s:GShow}:Ctr (bf s) (fun (res:Int)=>aj prog 100 [.agg (GShow.encS s)] [] (.lit (.int .i64 res)) []):=⟨by
 intro res h0
 refine co (hi:=Iy) func100 rfl rfl ?_
 unfold bf at h0
 obtain⟨r01,g0,h0⟩:=ae h0
 simp(config:=cS)only[go_sem, *]
 have g0:=ctr g0
 refine ai g0 ?_
 obtain⟨_,h0⟩|⟨_,h0⟩:=itB h0
 ·obtain⟨r02,g0,h0⟩:=ae h0
  simp(config:=cS)only[go_sem, *]
  have g0:=ctr g0
  refine ai g0 ?_
  obtain⟨q07,l0,h0⟩:=ae h0
  simp(config:=cS)only[go_sem, *]
  refine ag (m1:=.mk) (m2:=.mk) [.nf [1,3,11,12,13] [64,704]] (sm (r02.length:Int) s.nodes s.ties s.horizon r02) l0 ?_ ?_
  ·simp(config:=cS)only[go_sem, *]
  have k0:=h0
  clear h0 l0
  intro _ s0 _ h0 gb0
  obtain⟨n_1,v13_1⟩:=s0
  unfold bU at h0
  try dsimp only at h0
  obtain⟨_,h0⟩|⟨_,h0⟩:=itP h0
  ·exact run
  cases h0
  obtain rfl:=(aE gb0).symm
  clear gb0
  have h0:=k0
  clear k0
  try dsimp only at h0
  obtain⟨q06,l0,h0⟩:=ae h0
  simp(config:=cS)only[go_sem, *]
  refine ag (m1:=.mk) (m2:=.mk) [.nf [1,3,6] [64]] (so s.nodes s.ties s.horizon) l0 ?_ ?_
  ·simp(config:=cS)only[go_sem, *]
  have k0:=h0
  clear h0 l0
  intro _ s0 _ h0 gb0
  obtain⟨n_2,p_2⟩:=s0
  unfold cz at h0
  try dsimp only at h0
  exact run
 exact run⟩
@[go_sem] def vZ (s_0:List GNode)(s_1:List GTie)(s_2:Int):(Int × Int × Int × Int)→St
 | (node,low,high,n)=>⟨[(1,.lit (.int .i64 node)),(2,.ptr 128 1 0 0),(8,.lit (.int .i64 low)),(9,.lit (.int .i64 high)),(10,.lit (.int .i64 n))],[(128,1,.var [.sl (ab GNode.encS s_0),.sl (ab GTie.enc s_1),.lit (.int .i64 s_2)])],2⟩
instance k358 {s:GShow} {node:Int}:Ctr (cp s node) (fun (res:Int × Int × Int × Bool)=>aj prog 358 [.agg (GShow.encS s),.lit (.int .i64 node)] [] (.tup [.lit (.int .i64 res.1),.lit (.int .i64 res.2.1),.lit (.int .i64 res.2.2.1),.lit (.bool res.2.2.2)]) []):=⟨by
 intro res h0
 refine co (hi:=hi00) func358 rfl rfl ?_
 unfold cp at h0
 obtain⟨q03,l0,h0⟩:=ae h0
 simp(config:=cS)only[go_sem, *]
 refine ag (m1:=.mk) (m2:=.mk) [.nf [1,2,8,9,10] [128]] (vZ s.nodes s.ties s.horizon) l0 ?_ ?_
 ·simp(config:=cS)only[go_sem, *]
 have k0:=h0
 clear h0 l0
 intro _ s0 _ h0 gb0
 obtain⟨node_1,low_1,high_1,n_1⟩:=s0
 unfold cg at h0
 try dsimp only at h0
 exact run⟩
@[go_sem] def uW (v10:List GNode)(v11:Int)(s_1:List GTie)(s_2 v12:Int):St:=⟨[(1,.ptr 64 1 0 0),(10,.sl (ab GNode.encS v10)),(11,.lit (.int .i64 v11)),(12,.lit (.int .i64 v12))],[(64,1,.var [.sl (ab GNode.encS v10),.sl (ab GTie.enc s_1),.lit (.int .i64 s_2)])],2⟩
instance k357 {s:GShow}:Ctr (lS s) (fun (res:Bool)=>aj prog 357 [.agg (GShow.encS s)] [] (.lit (.bool res)) []):=⟨by
 intro res h0
 refine co (hi:=hi00) func357 rfl rfl ?_
 unfold lS at h0
 obtain⟨q03,l0,h0⟩:=ae h0
 simp(config:=cS)only[go_sem, *]
 refine ag (m1:=.mk) (m2:=.mk) [.nf [1,10,11,12] [64]] (uW s.nodes (s.nodes.length:Int) s.ties s.horizon) l0 ?_ ?_
 ·simp(config:=cS)only[go_sem, *]
 have k0:=h0
 clear h0 l0
 intro _ v12_1 _ h0 gb0
 unfold fS at h0
 try dsimp only at h0
 exact run⟩
@[go_sem] def uX (s_0:List GNode)(s_1:List GTie)(s_2:Int):(Int × Int × (List Int))→St
 | (node,n,out)=>⟨[(1,.lit (.int .i64 node)),(2,.ptr 128 1 0 0),(5,.ref 512 1 0 out.length),(6,.lit (.int .i64 n))],[(128,1,.var [.sl (ab GNode.encS s_0),.sl (ab GTie.enc s_1),.lit (.int .i64 s_2)]),(512,1,.row true (ab eI out))],2⟩
instance k371 {s:GShow} {node:Int}:Ctr (gx s node) (fun (res:List Int)=>aj prog 371 [.agg (GShow.encS s),.lit (.int .i64 node)] [] (.ref 20000 1 0 res.length) [(20000,1,.row true (ab eI res))]):=⟨by
 intro res h0
 refine aB (ra:=[.home 4]) (md:=mdT) hT (hi:=hi00) func371 rfl rfl (by decide +kernel) (by simp) ?_
 unfold gx at h0
 obtain⟨q03,l0,h0⟩:=ae h0
 simp(config:=cS)only[go_sem, *]
 refine ag (m1:=.mk) (m2:=.mk) [.nf [1,2,5,6] [128,512]] (uX s.nodes s.ties s.horizon) l0 ?_ ?_
 ·simp(config:=cS)only[go_sem, *]
 have k0:=h0
 clear h0 l0
 intro _ s0 _ h0 gb0
 obtain⟨node_1,n_1,out_1⟩:=s0
 unfold fT at h0
 try dsimp only at h0
 exact run⟩
@[go_sem] def xq (v23:Int)(s_0:List GNode)(s_1:List GTie)(s_2:Int)(v22 b:List Int):(Int × Int × Int)→St
 | (low,high,v24)=>⟨[(3,.ptr 192 1 0 0),(8,.ref 1152 1 0 v22.length),(9,.ref 1344 1 0 b.length),(10,.lit (.int .i64 low)),(11,.lit (.int .i64 high)),(22,.ref 1152 1 0 v22.length),(23,.lit (.int .i64 v23)),(24,.lit (.int .i64 v24))],[(192,1,.var [.sl (ab GNode.encS s_0),.sl (ab GTie.enc s_1),.lit (.int .i64 s_2)]),(1152,1,.row true (ab eI v22)),(1344,1,.row true (ab eI b))],2⟩
@[go_sem] def xr (v50:Int)(s_0:List GNode)(s_1:List GTie)(s_2:Int)(a v49:List Int):(Int × Int × Int)→St
 | (low,high,v51)=>⟨[(3,.ptr 192 1 0 0),(8,.ref 1152 1 0 a.length),(10,.lit (.int .i64 low)),(11,.lit (.int .i64 high)),(49,.ref 1344 1 0 v49.length),(50,.lit (.int .i64 v50)),(51,.lit (.int .i64 v51))],[(192,1,.var [.sl (ab GNode.encS s_0),.sl (ab GTie.enc s_1),.lit (.int .i64 s_2)]),(1152,1,.row true (ab eI a)),(1344,1,.row true (ab eI v49))],2⟩
instance k359 {s:GShow} {from_:Int} {to:Int}:Ctr (nQ s from_ to) (fun (res:Int × Int)=>aj prog 359 [.agg (GShow.encS s),.lit (.int .i64 from_),.lit (.int .i64 to)] [] (.tup [.lit (.int .i64 res.1),.lit (.int .i64 res.2)]) []):=⟨by
 intro res h0
 refine co (hi:=hi00) func359 rfl rfl ?_
 unfold nQ at h0
 obtain⟨r01,g0,h0⟩:=ae h0
 simp(config:=cS)only[go_sem, *]
 have g0:=ctr g0
 refine ai g0 ?_
 obtain⟨r02,g0,h0⟩:=ae h0
 simp(config:=cS)only[go_sem, *]
 have g0:=ctr g0
 refine ai g0 ?_
 obtain⟨q10,l0,h0⟩:=ae h0
 simp(config:=cS)only[go_sem, *]
 refine ag (m1:=.mk) (m2:=.mk) [.nf [3,8,9,10,11,22,23,24] [192,1152,1344]] (xq (r01.length:Int) s.nodes s.ties s.horizon r01 r02) l0 ?_ ?_
 ·simp(config:=cS)only[go_sem, *]
 have k0:=h0
 clear h0 l0
 intro _ s0 _ h0 gb0
 obtain⟨low_1,high_1,v24_1⟩:=s0
 unfold iE at h0
 try dsimp only at h0
 obtain⟨_,h0⟩|⟨_,h0⟩:=itP h0
 ·exact run
 cases h0
 obtain rfl:=(aE gb0).symm
 clear gb0
 have h0:=k0
 clear k0
 try dsimp only at h0
 obtain⟨q09,l0,h0⟩:=ae h0
 simp(config:=cS)only[go_sem, *]
 refine ag (m1:=.mk) (m2:=.mk) [.nf [3,8,10,11,49,50,51] [192,1152,1344]] (xr (r02.length:Int) s.nodes s.ties s.horizon r01 r02) l0 ?_ ?_
 ·simp(config:=cS)only[go_sem, *]
 have k0:=h0
 clear h0 l0
 intro _ s0 _ h0 gb0
 obtain⟨low_2,high_2,v51_2⟩:=s0
 unfold iF at h0
 try dsimp only at h0
 exact run⟩
instance k167 {i:al}:Ctr (gH i) (fun (res:Bool)=>aj prog 167 [.agg [.lit (.int .i64 i.low),.lit (.int .i64 i.high)]] [] (.lit (.bool res)) []):=⟨by
 intro res h0
 refine co (hi:=hi00) func167 rfl rfl ?_
 unfold gH at h0
 exact run⟩
@[go_sem] def uY (v16:List GLink)(v17 s_0 v18:Int):St:=⟨[(1,.ptr 64 1 0 0),(16,.sl (ab GLink.enc v16)),(17,.lit (.int .i64 v17)),(18,.lit (.int .i64 v18))],[(64,1,.var [.lit (.int .i64 s_0),.sl (ab GLink.enc v16)])],2⟩
instance k161 {s:GSimple}:Ctr (eP s) (fun (res:Bool)=>aj prog 161 [.agg [.lit (.int .i64 s.events),.sl (ab GLink.enc s.links)]] [] (.lit (.bool res)) []):=⟨by
 intro res h0
 refine co (hi:=hi00) func161 rfl rfl ?_
 unfold eP at h0
 obtain⟨r01,g0,h0⟩:=ae h0
 simp(config:=cS)only[go_sem, *]
 have g0:=ctr g0
 refine ai g0 ?_
 obtain⟨_,h0⟩|⟨_,h0⟩:=itB h0
 ·obtain⟨_,h0⟩|⟨_,h0⟩:=itP h0
  ·exact run
  obtain⟨q06,l0,h0⟩:=ae h0
  simp(config:=cS)only[go_sem, *]
  refine ag (m1:=.mk) (m2:=.mk) [.nf [1,16,17,18] [64]] (uY s.links (s.links.length:Int) s.events) l0 ?_ ?_
  ·simp(config:=cS)only[go_sem, *]
  have k0:=h0
  clear h0 l0
  intro _ v18_1 _ h0 gb0
  unfold fF at h0
  try dsimp only at h0
  exact run
 exact run⟩
@[go_sem] def rH (v38:Int)(s_0:List GNode)(s_1:List GTie)(s_2:Int):(Int × (List GLink))→St
 | (v39,h100016385)=>⟨[(1,.ptr 64 1 0 0),(2,.ptr 128 1 0 0),(4,.ptr 256 1 0 0),(38,.lit (.int .i64 v38)),(39,.lit (.int .i64 v39))],[(64,1,.var [.sl (ab GNode.encS s_0),.sl (ab GTie.enc s_1),.lit (.int .i64 s_2)]),(128,1,.var [.lit (.int .i64 0),.lit (.slice none 0 0)]),(256,1,.var [.lit (.int .i64 v38),.ref 100016385 1 0 h100016385.length]),(100016385,1,.row true (ab GLink.enc h100016385))],2⟩
@[go_sem] def rI (v66:List GTie)(v67:Int)(s_0:List GNode)(s_2 out_0:Int):(Int × (List GLink))→St
 | (v68,h100016385)=>⟨[(1,.ptr 64 1 0 0),(2,.ptr 128 1 0 0),(4,.ptr 256 1 0 0),(66,.sl (ab GTie.enc v66)),(67,.lit (.int .i64 v67)),(68,.lit (.int .i64 v68))],[(64,1,.var [.sl (ab GNode.encS s_0),.sl (ab GTie.enc v66),.lit (.int .i64 s_2)]),(128,1,.var [.lit (.int .i64 0),.lit (.slice none 0 0)]),(256,1,.var [.lit (.int .i64 out_0),.ref 100016385 1 0 h100016385.length]),(100016385,1,.row true (ab GLink.enc h100016385))],2⟩
@[go_sem] def rJ (v121:Int)(s_0:List GNode)(s_1:List GTie)(s_2:Int):(Int × (List GLink))→St
 | (v122,h100016385)=>⟨[(1,.ptr 64 1 0 0),(2,.ptr 128 1 0 0),(4,.ptr 256 1 0 0),(121,.lit (.int .i64 v121)),(122,.lit (.int .i64 v122))],[(64,1,.var [.sl (ab GNode.encS s_0),.sl (ab GTie.enc s_1),.lit (.int .i64 s_2)]),(128,1,.var [.lit (.int .i64 0),.lit (.slice none 0 0)]),(256,1,.var [.lit (.int .i64 v121),.ref 100016385 1 0 h100016385.length]),(100016385,1,.row true (ab GLink.enc h100016385))],2⟩
instance k333 {s:GShow}:Ctr (gy s) (fun (res:GSimple × Bool)=>aj prog 333 [.agg (GShow.encS s)] [] (.tup [.agg [.lit (.int .i64 res.1.events),.ref 20000 1 0 res.1.links.length],.lit (.bool res.2)]) [(20000,1,.row true (ab GLink.enc res.1.links))]):=⟨by
 intro res h0
 refine aB (ra:=[.homeCell 128 1]) (md:=mdT) hT (hi:=hi00) func333 rfl rfl (by decide +kernel) (by simp) ?_
 unfold gy at h0
 obtain⟨r01,g0,h0⟩:=ae h0
 simp(config:=cS)only[go_sem, *]
 have g0:=ctr g0
 refine ai g0 ?_
 obtain⟨_,h0⟩|⟨_,h0⟩:=itB h0
 ·obtain⟨r02,g0,h0⟩:=ae h0
  simp(config:=cS)only[go_sem, *]
  have g0:=ctr g0
  refine ai g0 ?_
  obtain⟨_,h0⟩|⟨_,h0⟩:=itB h0
  ·obtain⟨q12,l0,h0⟩:=ae h0
   simp(config:=cS)only[go_sem, *]
   refine ag (m1:=.mk) (m2:=.mk) [.homeCell 256 1,.nf [1,2,4,38,39] [64,128,256,100016385]] (rH (s.nodes.length:Int) s.nodes s.ties s.horizon) l0 ?_ ?_
   ·simp(config:=cS)only[go_sem, *]
   have k0:=h0
   clear h0 l0
   intro _ s0 _ h0 gb0
   obtain⟨v39_1,h100016385_1⟩:=s0
   unfold dc at h0
   try dsimp only at h0
   obtain⟨_,h0⟩|⟨_,h0⟩:=itP h0
   ·exact run
   cases h0
   obtain rfl:=(aE gb0).symm
   clear gb0
   have h0:=k0
   clear k0
   try dsimp only at h0
   obtain⟨q11,l0,h0⟩:=ae h0
   simp(config:=cS)only[go_sem, *]
   refine ag (m1:=.mk) (m2:=.mk) [.nf [1,2,4,66,67,68] [64,128,256,100016385]] (rI s.ties (s.ties.length:Int) s.nodes s.horizon (s.nodes.length:Int)) l0 ?_ ?_
   ·simp(config:=cS)only[go_sem, *]
   have k0:=h0
   clear h0 l0
   intro _ s0 _ h0 gb0
   obtain⟨v68_2,h100016385_2⟩:=s0
   unfold dd at h0
   try dsimp only at h0
   obtain⟨_,h0⟩|⟨_,h0⟩:=itP h0
   ·exact run
   cases h0
   obtain rfl:=(aE gb0).symm
   clear gb0
   have h0:=k0
   clear k0
   try dsimp only at h0
   obtain⟨q10,l0,h0⟩:=ae h0
   simp(config:=cS)only[go_sem, *]
   refine ag (m1:=.mk) (m2:=.mk) [.nf [1,2,4,121,122] [64,128,256,100016385]] (rJ (s.nodes.length:Int) s.nodes s.ties s.horizon) l0 ?_ ?_
   ·simp(config:=cS)only[go_sem, *]
   have k0:=h0
   clear h0 l0
   intro _ s0 _ h0 gb0
   obtain⟨v122_3,h100016385_3⟩:=s0
   unfold de at h0
   try dsimp only at h0
   exact run
  exact run
 exact run⟩
@[go_sem] def uZ (v11:List GLink)(v12:Int):(Int × (List GEdge) × (List Int))→St
 | (v13,out,from_)=>⟨[(4,.ref 512 1 0 out.length),(5,.ref 576 1 0 from_.length),(11,.sl (ab GLink.enc v11)),(12,.lit (.int .i64 v12)),(13,.lit (.int .i64 v13))],[(512,1,.row true (ab GEdge.enc out)),(576,1,.row true (ab eI from_))],2⟩
instance k247 {s:GSimple}:Ctr (lE s) (fun (res:(List GEdge) × (List Int))=>aj prog 247 [.agg [.lit (.int .i64 s.events),.sl (ab GLink.enc s.links)]] [] (.tup [.ref 20000 1 0 res.1.length,.ref 20001 1 0 res.2.length]) [(20000,1,.row true (ab GEdge.enc res.1)),(20001,1,.row true (ab eI res.2))]):=⟨by
 intro res h0
 refine aB (ra:=[.home 2,.home 3]) (md:=mdT) hT (hi:=hi00) func247 rfl rfl (by decide +kernel) (by simp) ?_
 unfold lE at h0
 obtain⟨q02,l0,h0⟩:=ae h0
 simp(config:=cS)only[go_sem, *]
 refine ag (m1:=.mk) (m2:=.mk) [.nf [4,5,11,12,13] [512,576]] (uZ s.links (s.links.length:Int)) l0 ?_ ?_
 ·simp(config:=cS)only[go_sem, *]
 have k0:=h0
 clear h0 l0
 intro _ s0 _ h0 gb0
 obtain⟨v13_1,out_1,from__1⟩:=s0
 unfold fG at h0
 try dsimp only at h0
 obtain⟨_,h0⟩|⟨_,h0⟩:=itP h0
 ·obtain⟨x01,_,_,_,h0⟩:=gtI h0
  obtain⟨_,h0⟩|⟨_,h0⟩:=itP h0
  ·exact run
  obtain⟨_,h0⟩:=ckP h0
  obtain⟨_,h0⟩:=ckP h0
  obtain⟨_,h0⟩:=ckP h0
  obtain⟨_,h0⟩:=ckP h0
  obtain⟨_,h0⟩|⟨_,h0⟩:=itP h0
  ·exact run
  obtain⟨a1,h0⟩:=ckP h0
  try simp(config:=cS)only[go_sem]at a1
  obtain⟨a2,h0⟩:=ckP h0
  try simp(config:=cS)only[go_sem]at a2
  obtain⟨a3,h0⟩:=ckP h0
  try simp(config:=cS)only[go_sem]at a3
  obtain⟨a4,h0⟩:=ckP h0
  try simp(config:=cS)only[go_sem]at a4
  exact run
 exact run⟩
instance k163 {s:GSimple}:Ctr (kv s) (fun (res:GGraph)=>aj prog 163 [.agg [.lit (.int .i64 s.events),.sl (ab GLink.enc s.links)]] [] (.agg [.lit (.int .i64 res.nodes),.ref 20000 1 0 res.edges.length]) [(20000,1,.row true (ab GEdge.enc res.edges))]):=⟨by
 intro res h0
 refine aB (ra:=[.homeCell 128 1]) (md:=mdT) hT (hi:=hi00) func163 rfl rfl (by decide +kernel) (by simp) ?_
 unfold kv at h0
 exact run⟩
@[go_sem] def wa (v16:List GEdge)(v17 g_0 v18:Int):St:=⟨[(1,.ptr 64 1 0 0),(16,.sl (ab GEdge.enc v16)),(17,.lit (.int .i64 v17)),(18,.lit (.int .i64 v18))],[(64,1,.var [.lit (.int .i64 g_0),.sl (ab GEdge.enc v16)])],2⟩
instance k245 {g:GGraph}:Ctr (iy g) (fun (res:Bool)=>aj prog 245 [.agg [.lit (.int .i64 g.nodes),.sl (ab GEdge.enc g.edges)]] [] (.lit (.bool res)) []):=⟨by
 intro res h0
 refine co (hi:=hi00) func245 rfl rfl ?_
 unfold iy at h0
 obtain⟨r01,g0,h0⟩:=ae h0
 simp(config:=cS)only[go_sem, *]
 have g0:=ctr g0
 refine ai g0 ?_
 obtain⟨_,h0⟩|⟨_,h0⟩:=itB h0
 ·obtain⟨_,h0⟩|⟨_,h0⟩:=itP h0
  ·exact run
  obtain⟨q06,l0,h0⟩:=ae h0
  simp(config:=cS)only[go_sem, *]
  refine ag (m1:=.mk) (m2:=.mk) [.nf [1,16,17,18] [64]] (wa g.edges (g.edges.length:Int) g.nodes) l0 ?_ ?_
  ·simp(config:=cS)only[go_sem, *]
  have k0:=h0
  clear h0 l0
  intro _ v18_1 _ h0 gb0
  unfold gI at h0
  try dsimp only at h0
  exact run
 exact run⟩
@[go_sem] def va (zb0 zb1 zb2:Bool)(v13:List GEdge)(v14:Int):(Int × Int × (List Int) × (List Int) × (List Bool))→St
 | (changed,v15,d,last,known)=>⟨[(1,.ref 10000 0 0 d.length),(2,.ref 10001 0 0 last.length),(3,.ref 10002 0 0 known.length),(9,.lit (.int .i64 changed)),(13,.sl (ab GEdge.enc v13)),(14,.lit (.int .i64 v14)),(15,.lit (.int .i64 v15))],[(10000,0,.row zb0 (ab eI d)),(10001,0,.row zb1 (ab eI last)),(10002,0,.row zb2 (ab eB known))],2⟩
@[go_sem] def hi246_6:DT:=.r2 0 13 .nil
@[go_sem] def hi246_5:DT:=.r2 0 29 .nil
def Ec:Hint where
 acts:=fun _=>[]
 draws:=fun
  | 5=>⟨hi246_5,[[],[],[1],[0,1,2],[0,1,2,3],.range 5,.range 6,.range 6,[0,1,2,3,4,5,7],.range 9,.range 10,.range 11,.range 12,.range 13,.range 13,[0,1,2,3,4,5,6,7,8,9,10,11,12,14],.range 16,.range 17,.range 13,[0,1,2,3,4,5,6,7,8,9,10,11,12,18],.range 20,.range 13,.range 13,[0,1,2,3,4,5,6,7,8,9,10,11,12,22],[0,1,2,3,4,5,6,7,8,9,10,11,12,21,22,23],[0,1,2,3,4,5,6,7,8,9,10,11,12,21,22,23,24],.range 26,.range 27,.range 28],.range 29⟩
  | 6=>⟨hi246_6,[[],[],[1],[],[],[4],[3,4,5],[3,4,5,6],[],[8],[3,4,5,6,7,8,9],.range 11,.range 12],.range 13⟩
  | _=>⟨.nil,[],[]⟩
theorem Vc (i:Nat):Ec.acts i=[]:=rfl
theorem Vd (i:Nat):Ec.views i=none:=rfl
attribute[go_sem] Vc Vd ntmps246 results246
@[go_sem] theorem Zv:(Ec.draws 5).order=hi246_5:=rfl
@[go_sem] theorem Zw:(Ec.draws 6).order=hi246_6:=rfl
theorem tZ {g:GGraph}{d last:List Int}{known:List Bool}{zb0 zb1 zb2:Bool}{res:Int × (List Int) × (List Int) × (List Bool)}(h0:js g d last known=some res):aj prog 246 [.agg [.lit (.int .i64 g.nodes),.sl (ab GEdge.enc g.edges)],.ref 10000 0 0 d.length,.ref 10001 0 0 last.length,.ref 10002 0 0 known.length] [(10000,0,.row zb0 (ab eI d)),(10001,0,.row zb1 (ab eI last)),(10002,0,.row zb2 (ab eB known))] (.lit (.int .i64 res.1)) [(10000,0,.row zb0 (ab eI res.2.1)),(10001,0,.row zb1 (ab eI res.2.2.1)),(10002,0,.row zb2 (ab eB res.2.2.2))]:=by
 refine co (hi:=Ec) func246 rfl rfl ?_
 unfold js at h0
 obtain⟨q10,l0,h0⟩:=ae h0
 simp(config:=cS)only[go_sem, *]
 refine ag (m1:=.mk) (m2:=.mk) [.nf [1,2,3,9,13,14,15] [10000,10001,10002]] (va zb0 zb1 zb2 g.edges (g.edges.length:Int)) l0 ?_ ?_
 ·simp(config:=cS)only[go_sem, *]
 have k0:=h0
 clear h0 l0
 intro _ s0 _ h0 gb0
 obtain⟨changed_1,v15_1,d_1,last_1,known_1⟩:=s0
 unfold iY at h0
 try dsimp only at h0
 exact run
@[go_sem] def rK (v31 g_0:Int)(g_1:List GEdge)(d:List Int):(Int × (List Int) × (List Bool))→St
 | (v32,last,known)=>⟨[(1,.ptr 64 1 0 0),(3,.ref 1472 1 0 d.length),(4,.ref 1664 1 0 last.length),(5,.ref 1856 1 0 known.length),(31,.lit (.int .i64 v31)),(32,.lit (.int .i64 v32))],[(64,1,.var [.lit (.int .i64 g_0),.sl (ab GEdge.enc g_1)]),(1472,1,.row true (ab eI d)),(1664,1,.row true (ab eI last)),(1856,1,.row true (ab eB known))],2⟩
@[go_sem] def rL (g_0:Int)(g_1:List GEdge):(Int × Int × (List Int) × (List Int) × (List Bool))→St
 | (changed,i,d,last,known)=>⟨[(1,.ptr 64 1 0 0),(3,.ref 1472 1 0 d.length),(4,.ref 1664 1 0 last.length),(5,.ref 1856 1 0 known.length),(7,.lit (.int .i64 changed)),(8,.lit (.int .i64 i))],[(64,1,.var [.lit (.int .i64 g_0),.sl (ab GEdge.enc g_1)]),(1472,1,.row true (ab eI d)),(1664,1,.row true (ab eI last)),(1856,1,.row true (ab eB known))],2⟩
@[go_sem] def rM (g_0:Int)(g_1:List GEdge)(last:List Int):(Int × Int)→St
 | (at_,i)=>⟨[(1,.ptr 64 1 0 0),(4,.ref 1664 1 0 last.length),(9,.lit (.int .i64 at_)),(10,.lit (.int .i64 i))],[(64,1,.var [.lit (.int .i64 g_0),.sl (ab GEdge.enc g_1)]),(1664,1,.row true (ab eI last))],2⟩
@[go_sem] def rN (at_ g_0:Int)(g_1:List GEdge)(last:List Int):(Int × (List Int))→St
 | (k,out)=>⟨[(1,.ptr 64 1 0 0),(4,.ref 1664 1 0 last.length),(9,.lit (.int .i64 at_)),(11,.ref 4864 1 0 out.length),(12,.lit (.int .i64 k))],[(64,1,.var [.lit (.int .i64 g_0),.sl (ab GEdge.enc g_1)]),(1664,1,.row true (ab eI last)),(4864,1,.row true (ab eI out))],2⟩
@[go_sem] def hi162_28:DT:=.r2 0 10 .nil
@[go_sem] def hi162_23:DT:=.r2 0 10 .nil
def Ed:Hint where
 acts:=fun _=>[]
 draws:=fun
  | 23=>⟨hi162_23,[[],[0],[],[],[2,3],[2,3,4],.range 6,.range 7,.range 8,.range 9],.range 10⟩
  | 28=>⟨hi162_28,[[],[0],[],[],[2,3],[2,3,4],.range 6,.range 7,.range 8,.range 9],.range 10⟩
  | _=>⟨.nil,[],[]⟩
theorem Ve (i:Nat):Ed.acts i=[]:=rfl
theorem Vf (i:Nat):Ed.views i=none:=rfl
attribute[go_sem] Ve Vf ntmps162 results162
@[go_sem] theorem Yq:(Ed.draws 23).order=hi162_23:=rfl
@[go_sem] theorem Yr:(Ed.draws 28).order=hi162_28:=rfl
instance k162 {g:GGraph}:Ctr (gh g) (fun (res:List Int)=>aj prog 162 [.agg [.lit (.int .i64 g.nodes),.sl (ab GEdge.enc g.edges)]] [] (.ref 20000 1 0 res.length) [(20000,1,.row true (ab eI res))]):=⟨by
 intro res h0
 refine aB (ra:=[.home 2]) (md:=mdT) hT (hi:=Ed) func162 rfl rfl (by decide +kernel) (by simp) ?_
 unfold gh at h0
 obtain⟨r01,g0,h0⟩:=ae h0
 simp(config:=cS)only[go_sem, *]
 have g0:=ctr g0
 refine ai g0 ?_
 obtain⟨_,h0⟩|⟨_,h0⟩:=itB h0
 ·obtain⟨_,h0⟩|⟨_,h0⟩:=itP h0
  ·exact run
  obtain⟨_,h0⟩:=ckP h0
  obtain⟨_,h0⟩:=ckP h0
  obtain⟨_,h0⟩:=ckP h0
  obtain⟨_,h0⟩:=ckP h0
  obtain⟨q15,l0,h0⟩:=ae h0
  simp(config:=cS)only[go_sem, *]
  refine ag (m1:=.mk) (m2:=.mk) [.nf [1,3,4,5,31,32] [64,1472,1664,1856]] (rK ((g.nodes.toNat:Nat):Int) g.nodes g.edges (List.replicate g.nodes.toNat 0)) l0 ?_ ?_
  ·simp(config:=cS)only[go_sem, *]
  have k0:=h0
  clear h0 l0
  intro _ s0 _ h0 gb0
  obtain⟨v32_1,last_1,known_1⟩:=s0
  unfold cU at h0
  try dsimp only at h0
  obtain⟨_,h0⟩|⟨_,h0⟩:=itP h0
  ·exact run
  cases h0
  obtain rfl:=(aE gb0).symm
  clear gb0
  have h0:=k0
  clear k0
  try dsimp only at h0
  obtain⟨q14,l0,h0⟩:=ae h0
  simp(config:=cS)only[go_sem, *]
  refine ag (m1:=.mk) (m2:=.mk) [.nf [1,3,4,5,7,8] [64,1472,1664,1856]] (rL g.nodes g.edges) l0 ?_ ?_
  ·simp(config:=cS)only[go_sem, *]
  have k0:=h0
  clear h0 l0
  intro _ s0 _ h0 gb0
  obtain⟨changed_2,i_2,d_2,last_2,known_2⟩:=s0
  unfold cV at h0
  try dsimp only at h0
  obtain⟨_,h0⟩|⟨_,h0⟩:=itP h0
  ·obtain⟨r04,g0,h0⟩:=ae h0
   simp(config:=cS)only[go_sem, *]
   refine ai (tZ g0) ?_
   exact run
  cases h0
  obtain rfl:=(aE gb0).symm
  clear gb0
  have h0:=k0
  clear k0
  try dsimp only at h0
  obtain⟨_,h0⟩|⟨_,h0⟩:=itP h0
  ·exact run
  obtain⟨x05,_,_,_,h0⟩:=gtI h0
  obtain⟨q13,l0,h0⟩:=ae h0
  simp(config:=cS)only[go_sem, *]
  refine ag (m1:=.mk) (m2:=.mk) [.nf [1,4,9,10] [64,1664]] (rM g.nodes g.edges last_2) l0 ?_ ?_
  ·simp(config:=cS)only[go_sem, *]
  have k0:=h0
  clear h0 l0
  intro _ s0 _ h0 gb0
  obtain⟨at__3,i_3⟩:=s0
  unfold cW at h0
  try dsimp only at h0
  obtain⟨_,h0⟩|⟨_,h0⟩:=itP h0
  ·exact run
  cases h0
  obtain rfl:=(aE gb0).symm
  clear gb0
  have h0:=k0
  clear k0
  try dsimp only at h0
  obtain⟨q12,l0,h0⟩:=ae h0
  simp(config:=cS)only[go_sem, *]
  refine ag (m1:=.mk) (m2:=.mk) [.nfp [1,4,9,11,12] [(64,64),(1664,1664),(5760,4864),(4864,4864)] []] (rN at__3 g.nodes g.edges last_2) l0 ?_ ?_
  ·simp(config:=cS)only[go_sem, *]
  have k0:=h0
  clear h0 l0
  intro _ s0 _ h0 gb0
  obtain⟨k_4,out_4⟩:=s0
  unfold cX at h0
  try dsimp only at h0
  exact run
 exact run⟩
instance k61 {s:GSimple}:Ctr (eW s) (fun (res:Bool)=>aj prog 61 [.agg [.lit (.int .i64 s.events),.sl (ab GLink.enc s.links)]] [] (.lit (.bool res)) []):=⟨by
 intro res h0
 refine co (hi:=hi00) func61 rfl rfl ?_
 unfold eW at h0
 exact run⟩
@[go_sem] def sp (v47:Int)(known:List Bool):(Int × (List Int))→St
 | (v48,d)=>⟨[(6,.ref 1536 1 0 d.length),(8,.ref 1920 1 0 known.length),(47,.lit (.int .i64 v47)),(48,.lit (.int .i64 v48))],[(1536,1,.row true (ab eI d)),(1920,1,.row true (ab eB known))],2⟩
@[go_sem] def sq (g_0:Int)(g_1:List GEdge):(Int × (List Int) × (List Int) × (List Bool))→St
 | (i,d,last,known)=>⟨[(2,.ptr 128 1 0 0),(6,.ref 1536 1 0 d.length),(7,.ref 1728 1 0 last.length),(8,.ref 1920 1 0 known.length),(9,.lit (.int .i64 i))],[(128,1,.var [.lit (.int .i64 g_0),.sl (ab GEdge.enc g_1)]),(1536,1,.row true (ab eI d)),(1728,1,.row true (ab eI last)),(1920,1,.row true (ab eB known))],2⟩
instance k248 {g:GGraph} {source:Int}:Ctr (eX g source) (fun (res:(List Int) × Bool)=>aj prog 248 [.agg [.lit (.int .i64 g.nodes),.sl (ab GEdge.enc g.edges)],.lit (.int .i64 source)] [] (.tup [.ref 20000 1 0 res.1.length,.lit (.bool res.2)]) [(20000,1,.row true (ab eI res.1))]):=⟨by
 intro res h0
 refine aB (ra:=[.home 4]) (md:=mdT) hT (hi:=hi00) func248 rfl rfl (by decide +kernel) (by simp) ?_
 unfold eX at h0
 obtain⟨r01,g0,h0⟩:=ae h0
 simp(config:=cS)only[go_sem, *]
 have g0:=ctr g0
 refine ai g0 ?_
 obtain⟨_,h0⟩|⟨_,h0⟩:=itB h0
 ·obtain⟨r02,g0,h0⟩:=ae h0
  simp(config:=cS)only[go_sem, *]
  have g0:=ctr g0
  refine ai g0 ?_
  obtain⟨_,h0⟩|⟨_,h0⟩:=itB h0
  ·obtain⟨_,h0⟩:=ckP h0
   obtain⟨_,h0⟩:=ckP h0
   obtain⟨_,h0⟩:=ckP h0
   obtain⟨_,h0⟩:=ckP h0
   obtain⟨x03,_,_,_,h0⟩:=gtI h0
   obtain⟨q09,l0,h0⟩:=ae h0
   simp(config:=cS)only[go_sem, *]
   refine ag (m1:=.mk) (m2:=.mk) [.nf [2,6,7,8,9] [128,1536,1728,1920]] (sq g.nodes g.edges) l0 ?_ ?_
   ·simp(config:=cS)only[go_sem, *]
   have k0:=h0
   clear h0 l0
   intro _ s0 _ h0 gb0
   obtain⟨i_1,d_1,last_1,known_1⟩:=s0
   unfold bS at h0
   try dsimp only at h0
   obtain⟨_,h0⟩|⟨_,h0⟩:=itP h0
   ·obtain⟨r04,g0,h0⟩:=ae h0
    simp(config:=cS)only[go_sem, *]
    refine ai (tZ g0) ?_
    obtain⟨_,h0⟩:=ckL h0
    obtain⟨_,h0⟩:=ckL h0
    obtain⟨_,h0⟩:=ckL h0
    obtain⟨_,h0⟩|⟨_,h0⟩:=itP h0
    ·obtain⟨q08,l0,h0⟩:=ae h0
     simp(config:=cS)only[go_sem, *]
     refine ag (m1:=.mk) (m2:=.mk) [.nf [6,8,47,48] [1536,1920]] (sp (r04.2.1.length:Int) r04.2.2.2) l0 ?_ ?_
     ·simp(config:=cS)only[go_sem, *]
     have k0:=h0
     clear h0 l0
     intro _ s0 _ h0 gb0
     obtain⟨v48_2,d_2⟩:=s0
     unfold du at h0
     try dsimp only at h0
     exact run
    exact run
   exact run
  exact run
 exact run⟩
instance k249 {n:Int}:Ctr (eG n) (fun (res:Int)=>aj prog 249 [.lit (.int .i64 n)] [] (.lit (.int .i64 res)) []):=⟨by
 intro res h0
 refine co (hi:=hi00) func249 rfl rfl ?_
 unfold eG at h0
 exact run⟩
@[go_sem] def tC (i v33 g_0:Int)(g_1:List GEdge)(v32:List Int):(Int × (List Int))→St
 | (v34,h100016385)=>⟨[(1,.ptr 64 1 0 0),(2,.ptr 128 1 0 0),(4,.ptr 256 1 0 0),(5,.lit (.int .i64 i)),(32,.ref 1664 1 0 v32.length),(33,.lit (.int .i64 v33)),(34,.lit (.int .i64 v34))],[(64,1,.var [.lit (.int .i64 g_0),.sl (ab GEdge.enc g_1)]),(128,1,.var [.lit (.int .i64 0),.lit (.slice none 0 0)]),(256,1,.var [.lit (.int .i64 g_0),.ref 100016385 1 0 h100016385.length]),(100016385,1,.row true (ab eI h100016385)),(1664,1,.row true (ab eI v32))],2⟩
@[go_sem] def tD (g_0:Int)(g_1:List GEdge):(Int × (List Int))→St
 | (i,h100016385)=>⟨[(1,.ptr 64 1 0 0),(2,.ptr 128 1 0 0),(4,.ptr 256 1 0 0),(5,.lit (.int .i64 i))],[(64,1,.var [.lit (.int .i64 g_0),.sl (ab GEdge.enc g_1)]),(128,1,.var [.lit (.int .i64 0),.lit (.slice none 0 0)]),(256,1,.var [.lit (.int .i64 g_0),.ref 100016385 1 0 h100016385.length]),(100016385,1,.row true (ab eI h100016385))],2⟩
@[go_sem] def hi165_13:DT:=.i1 0 (.i1 1 (.i2 2 (.i0 3 [0,1] (.i0 4 [0,1] (.r2 5 3 .nil)))))
def Iz:Hint where
 acts:=fun _=>[]
 draws:=fun
  | 13=>⟨hi165_13,[[],[0],[],[2],[2,3],.range 5,.range 6,.range 7],.range 8⟩
  | _=>⟨.nil,[],[]⟩
theorem Vg (i:Nat):Iz.acts i=[]:=rfl
theorem Vh (i:Nat):Iz.views i=none:=rfl
attribute[go_sem] Vg Vh ntmps165 results165
@[go_sem] theorem Ys:(Iz.draws 13).order=hi165_13:=rfl
instance k165 {g:GGraph}:Ctr (eH g) (fun (res:aw × Bool)=>aj prog 165 [.agg [.lit (.int .i64 g.nodes),.sl (ab GEdge.enc g.edges)]] [] (.tup [.agg [.lit (.int .i64 res.1.size),.ref 20000 1 0 res.1.cells.length],.lit (.bool res.2)]) [(20000,1,.row true (ab eI res.1.cells))]):=⟨by
 intro res h0
 refine aB (ra:=[.homeCell 128 1]) (md:=mdT) hT (hi:=Iz) func165 rfl rfl (by decide +kernel) (by simp) ?_
 unfold eH at h0
 obtain⟨r01,g0,h0⟩:=ae h0
 simp(config:=cS)only[go_sem, *]
 have g0:=ctr g0
 refine ai g0 ?_
 obtain⟨_,h0⟩|⟨_,h0⟩:=itB h0
 ·obtain⟨q06,l0,h0⟩:=ae h0
  simp(config:=cS)only[go_sem, *]
  refine ag (m1:=.mk) (m2:=.mk) [.homeCell 256 1,.nf [1,2,4,5] [64,128,256,100016385]] (tD g.nodes g.edges) l0 ?_ ?_
  ·simp(config:=cS)only[go_sem, *]
  have k0:=h0
  clear h0 l0
  intro _ s0 _ h0 gb0
  obtain⟨i_1,h100016385_1⟩:=s0
  unfold dh at h0
  try dsimp only at h0
  obtain⟨_,h0⟩|⟨_,h0⟩:=itP h0
  ·obtain⟨r02,g0,h0⟩:=ae h0
   simp(config:=cS)only[go_sem, *]
   have g0:=ctr g0
   refine ai g0 ?_
   obtain⟨_,h0⟩|⟨_,h0⟩:=itB h0
   ·obtain⟨q05,l0,h0⟩:=ae h0
    simp(config:=cS)only[go_sem, *]
    refine ag (m1:=.mk) (m2:=.mk) [.homeCell 256 1,.nf [1,2,4,5,32,33,34] [64,128,256,100016385,1664]] (tC i_1 (r02.1.length:Int) g.nodes g.edges r02.1) l0 ?_ ?_
    ·simp(config:=cS)only[go_sem, *]
    have k0:=h0
    clear h0 l0
    intro _ s0 _ h0 gb0
    obtain⟨v34_2,h100016385_2⟩:=s0
    unfold dg at h0
    try dsimp only at h0
    exact run
   exact run
  exact run
 exact run⟩
@[go_sem] def wb (v21:List Int)(v22 t_0 v23:Int):St:=⟨[(1,.ptr 64 1 0 0),(21,.sl (ab eI v21)),(22,.lit (.int .i64 v22)),(23,.lit (.int .i64 v23))],[(64,1,.var [.lit (.int .i64 t_0),.sl (ab eI v21)])],2⟩
instance k250 {t:aw}:Ctr (mz t) (fun (res:Bool)=>aj prog 250 [.agg [.lit (.int .i64 t.size),.sl (ab eI t.cells)]] [] (.lit (.bool res)) []):=⟨by
 intro res h0
 refine co (hi:=hi00) func250 rfl rfl ?_
 unfold mz at h0
 obtain⟨r01,g0,h0⟩:=ae h0
 simp(config:=cS)only[go_sem, *]
 have g0:=ctr g0
 refine ai g0 ?_
 obtain⟨_,h0⟩|⟨_,h0⟩:=itB h0
 ·obtain⟨_,h0⟩|⟨_,h0⟩:=itP h0
  ·obtain⟨q04,l0,h0⟩:=ae h0
   simp(config:=cS)only[go_sem, *]
   refine ag (m1:=.mk) (m2:=.mk) [.nf [1,21,22,23] [64]] (wb t.cells (t.cells.length:Int) t.size) l0 ?_ ?_
   ·simp(config:=cS)only[go_sem, *]
   have k0:=h0
   clear h0 l0
   intro _ v23_1 _ h0 gb0
   unfold gJ at h0
   try dsimp only at h0
   exact run
  exact run
 exact run⟩
instance k251 {t:aw} {i:Int} {k:Int}:Ctr (oB t i k) (fun (res:Int)=>aj prog 251 [.agg [.lit (.int .i64 t.size),.sl (ab eI t.cells)],.lit (.int .i64 i),.lit (.int .i64 k)] [] (.lit (.int .i64 res)) []):=⟨by
 intro res h0
 refine co (hi:=hi00) func251 rfl rfl ?_
 unfold oB at h0
 exact run⟩
@[go_sem] def hi166_3:DT:=.i1 0 (.i2 1 (.i2 2 (.i1 5 (.i2 6 (.i2 7 (.fork (.i0 3 [5] (.i2 4 (.fork (.i2 8 (.i2 9 (.i0 10 [0,5] (.i2 11 .nil)))) (.i0 10 [0,5] (.i2 8 (.i2 9 (.i2 11 .nil))))))) (.i0 10 [0,5] (.i0 3 [5] (.i2 4 (.i2 8 (.i2 9 (.i2 11 .nil))))))))))))
def IA:Hint where
 acts:=fun _=>[]
 draws:=fun
  | 3=>⟨hi166_3,[[],[],[],[0,1,2],[0,1,2,3],[],[],[],[0,1,2,3,5,6,7],.range 9,[],.range 11],.range 12⟩
  | _=>⟨.nil,[],[]⟩
theorem Vi (i:Nat):IA.acts i=[]:=rfl
theorem Vj (i:Nat):IA.views i=none:=rfl
attribute[go_sem] Vi Vj ntmps166 results166
@[go_sem] theorem Zx:(IA.draws 3).order=hi166_3:=rfl
instance k166 {t:aw} {i:Int} {k:Int}:Ctr (ct t i k) (fun (res:al × Bool)=>aj prog 166 [.agg [.lit (.int .i64 t.size),.sl (ab eI t.cells)],.lit (.int .i64 i),.lit (.int .i64 k)] [] (.tup [.agg [.lit (.int .i64 res.1.low),.lit (.int .i64 res.1.high)],.lit (.bool res.2)]) []):=⟨by
 intro res h0
 refine co (hi:=IA) func166 rfl rfl ?_
 unfold ct at h0
 obtain⟨r01,g0,h0⟩:=ae h0
 simp(config:=cS)only[go_sem, *]
 have g0:=ctr g0
 refine ai g0 ?_
 obtain⟨_,h0⟩|⟨_,h0⟩:=itB h0
 ·obtain⟨r02,g0,h0⟩:=ae h0
  simp(config:=cS)only[go_sem, *]
  have g0:=ctr g0
  refine ai g0 ?_
  obtain⟨_,h0⟩|⟨_,h0⟩:=itB h0
  ·obtain⟨r03,g0,h0⟩:=ae h0
   simp(config:=cS)only[go_sem, *]
   have g0:=ctr g0
   refine ai g0 ?_
   obtain⟨_,h0⟩|⟨_,h0⟩:=itB h0
   ·try simp(config:=cS)only[go_sem, *]
    refine fy ?_ ?_
    ·obtain⟨r04,g0,h0⟩:=ae h0
     simp(config:=cS)only[go_sem, *]
     have g0:=ctr g0
     refine ai g0 ?_
     try simp(config:=cS)only[go_sem, *]
     refine fy ?_ ?_
     ·exact run
     exact run
    exact run
   exact run
  exact run
 exact run⟩
instance k63 {s:GSimple} {event:Int}:Ctr (eQ s event) (fun (res:al × Bool)=>aj prog 63 [.agg [.lit (.int .i64 s.events),.sl (ab GLink.enc s.links)],.lit (.int .i64 event)] [] (.tup [.agg [.lit (.int .i64 res.1.low),.lit (.int .i64 res.1.high)],.lit (.bool res.2)]) []):=⟨by
 intro res h0
 refine co (hi:=hi00) func63 rfl rfl ?_
 unfold eQ at h0
 exact run⟩
@[go_sem] def rO (s_0:Int)(s_1:List GLink):(Int × (List Int))→St
 | (i,out)=>⟨[(1,.ptr 64 1 0 0),(4,.ref 512 1 0 out.length),(5,.lit (.int .i64 i))],[(64,1,.var [.lit (.int .i64 s_0),.sl (ab GLink.enc s_1)]),(512,1,.row true (ab eI out))],2⟩
instance k334 {s:GSimple}:Ctr (gz s) (fun (res:(List Int) × Bool)=>aj prog 334 [.agg [.lit (.int .i64 s.events),.sl (ab GLink.enc s.links)]] [] (.tup [.ref 20000 1 0 res.1.length,.lit (.bool res.2)]) [(20000,1,.row true (ab eI res.1))]):=⟨by
 intro res h0
 refine aB (ra:=[.home 2]) (md:=mdT) hT (hi:=hi00) func334 rfl rfl (by decide +kernel) (by simp) ?_
 unfold gz at h0
 obtain⟨q02,l0,h0⟩:=ae h0
 simp(config:=cS)only[go_sem, *]
 refine ag (m1:=.mk) (m2:=.mk) [.nf [1,4,5] [64,512]] (rO s.events s.links) l0 ?_ ?_
 ·simp(config:=cS)only[go_sem, *]
 have k0:=h0
 clear h0 l0
 intro _ s0 _ h0 gb0
 obtain⟨i_1,out_1⟩:=s0
 unfold bd at h0
 try dsimp only at h0
 exact run⟩
@[go_sem] def sR (v24:Int)(s_0:List GNode)(s_1:List GTie)(s_2:Int):(Int × (List Int))→St
 | (v25,t)=>⟨[(1,.ptr 64 1 0 0),(6,.ref 1152 1 0 t.length),(24,.lit (.int .i64 v24)),(25,.lit (.int .i64 v25))],[(64,1,.var [.sl (ab GNode.encS s_0),.sl (ab GTie.enc s_1),.lit (.int .i64 s_2)]),(1152,1,.row true (ab eI t))],2⟩
instance k299 {s:GShow}:Ctr (jl s) (fun (res:(List Int) × Bool)=>aj prog 299 [.agg (GShow.encS s)] [] (.tup [.ref 20000 1 0 res.1.length,.lit (.bool res.2)]) [(20000,1,.row true (ab eI res.1))]):=⟨by
 intro res h0
 refine aB (ra:=[.home 2]) (md:=mdT) hT (hi:=hi00) func299 rfl rfl (by decide +kernel) (by simp) ?_
 unfold jl at h0
 obtain⟨r01,g0,h0⟩:=ae h0
 simp(config:=cS)only[go_sem, *]
 have g0:=ctr g0
 refine ai g0 ?_
 obtain⟨_,h0⟩|⟨_,h0⟩:=itB h0
 ·obtain⟨r02,g0,h0⟩:=ae h0
  simp(config:=cS)only[go_sem, *]
  have g0:=ctr g0
  refine ai g0 ?_
  obtain⟨_,h0⟩|⟨_,h0⟩:=itB h0
  ·obtain⟨q05,l0,h0⟩:=ae h0
   simp(config:=cS)only[go_sem, *]
   refine ag (m1:=.mk) (m2:=.mk) [.nf [1,6,24,25] [64,1152]] (sR (r02.1.length:Int) s.nodes s.ties s.horizon) l0 ?_ ?_
   ·simp(config:=cS)only[go_sem, *]
   have k0:=h0
   clear h0 l0
   intro _ s0 _ h0 gb0
   obtain⟨v25_1,t_1⟩:=s0
   unfold cd at h0
   try dsimp only at h0
   exact run
  exact run
 exact run⟩
instance k237 {s:GShow}:Ctr (lT s) (fun (res:Bool)=>aj prog 237 [.agg (GShow.encS s)] [] (.lit (.bool res)) []):=⟨by
 intro res h0
 refine co (hi:=hi00) func237 rfl rfl ?_
 unfold lT at h0
 exact run⟩
@[go_sem] def tE (v14:Int)(h640:List Int):(Int × (List Int))→St
 | (v15,h100012289)=>⟨[(2,.ptr 128 1 0 0),(3,.ptr 192 1 0 0),(14,.lit (.int .i64 v14)),(15,.lit (.int .i64 v15))],[(128,1,.var [.lit (.int .i64 0),.lit (.slice none 0 0),.lit (.slice none 0 0)]),(192,1,.var [.lit (.int .i64 0),.ref 100012289 1 0 h100012289.length,.ref 640 1 0 h640.length]),(100012289,1,.row true (ab eI h100012289)),(640,1,.row true (ab eI h640))],2⟩
instance k301 {s:GShow}:Ctr (jX s) (fun (res:GState)=>aj prog 301 [.agg (GShow.encS s)] [] (.agg [.lit (.int .i64 res.now),.ref 20000 1 0 res.times.length,.ref 20001 1 0 res.values.length]) [(20000,1,.row true (ab eI res.times)),(20001,1,.row true (ab eI res.values))]):=⟨by
 intro res h0
 refine aB (ra:=[.homeCell 128 1,.homeCell 128 2]) (md:=mdT) hT (hi:=hi00) func301 rfl rfl (by decide +kernel) (by simp) ?_
 unfold jX at h0
 obtain⟨r01,g0,h0⟩:=ae h0
 simp(config:=cS)only[go_sem, *]
 have g0:=ctr g0
 refine ai g0 ?_
 obtain⟨_,h0⟩|⟨_,h0⟩:=itB h0
 ·obtain⟨q02,l0,h0⟩:=ae h0
  simp(config:=cS)only[go_sem, *]
  refine ag (m1:=.mk) (m2:=.mk) [.homeCell 192 1,.nf [2,3,14,15] [128,192,100012289,640]] (tE (s.nodes.length:Int) (List.replicate 3 0)) l0 ?_ ?_
  ·simp(config:=cS)only[go_sem, *]
  have k0:=h0
  clear h0 l0
  intro _ s0 _ h0 gb0
  obtain⟨v15_1,h100012289_1⟩:=s0
  unfold ep at h0
  try dsimp only at h0
  exact run
 exact run⟩
@[go_sem] def vb (v v9:List Int)(v10:Int):(Int × Int)→St
 | (out,v11)=>⟨[(1,.sl (ab eI v)),(5,.lit (.int .i64 out)),(9,.sl (ab eI v9)),(10,.lit (.int .i64 v10)),(11,.lit (.int .i64 v11))],[],2⟩
instance k157 {l:List Int} {v:List Int}:Ctr (bY l v) (fun (res:Int)=>aj prog 157 [.sl (ab eI l),.sl (ab eI v)] [] (.lit (.int .i64 res)) []):=⟨by
 intro res h0
 refine co (hi:=hi00) func157 rfl rfl ?_
 unfold bY at h0
 obtain⟨q04,l0,h0⟩:=ae h0
 simp(config:=cS)only[go_sem, *]
 refine ag (m1:=.mk) (m2:=.mk) [.nf [1,5,9,10,11] []] (vb v l (l.length:Int)) l0 ?_ ?_
 ·simp(config:=cS)only[go_sem, *]
 have k0:=h0
 clear h0 l0
 intro _ s0 _ h0 gb0
 obtain⟨out_1,v11_1⟩:=s0
 unfold iW at h0
 try dsimp only at h0
 exact run⟩
@[go_sem] def hi360_10:DT:=.r2 0 21 .nil
@[go_sem] def hi360_8:DT:=.r2 0 21 .nil
def Ee:Hint where
 acts:=fun _=>[]
 draws:=fun
  | 8=>⟨hi360_8,[[],[0],[],[2],[0,1,2,3],.range 5,.range 6,[],[7],.range 9,.range 10,.range 11,.range 12,.range 13,.range 12,.range 15,.range 12,[0,1,2,3,4,5,6,7,8,9,10,11,16],.range 18,.range 19,.range 20],.range 21⟩
  | 10=>⟨hi360_10,[[],[0],[],[2],[0,1,2,3],.range 5,.range 6,[],[7],.range 9,.range 10,.range 11,.range 12,.range 12,[0,1,2,3,4,5,6,7,8,9,10,11,13],.range 15,.range 12,[0,1,2,3,4,5,6,7,8,9,10,11,16],.range 18,.range 19,.range 20],.range 21⟩
  | _=>⟨.nil,[],[]⟩
theorem Vk (i:Nat):Ee.acts i=[]:=rfl
theorem Vl (i:Nat):Ee.views i=none:=rfl
attribute[go_sem] Vk Vl ntmps360 results360
@[go_sem] theorem Zy:(Ee.draws 8).order=hi360_8:=rfl
@[go_sem] theorem Yt:(Ee.draws 10).order=hi360_10:=rfl
instance k360 {s:GShow} {v1:GState} {t:GTie}:Ctr (mM s v1 t) (fun (res:Bool)=>aj prog 360 [.agg (GShow.encS s),.agg (GState.encS v1),.agg (GTie.enc t)] [] (.lit (.bool res)) []):=⟨by
 intro res h0
 refine co (hi:=Ee) func360 rfl rfl ?_
 unfold mM at h0
 exact run⟩
@[go_sem] def ut (v10:List GTie)(v11:Int)(s_0:List GNode)(s_2 v3_0:Int)(v3_1 v3_2:List Int)(v12:Int):St:=⟨[(2,.ptr 128 1 0 0),(3,.ptr 192 1 0 0),(10,.sl (ab GTie.enc v10)),(11,.lit (.int .i64 v11)),(12,.lit (.int .i64 v12))],[(128,1,.var [.sl (ab GNode.encS s_0),.sl (ab GTie.enc v10),.lit (.int .i64 s_2)]),(192,1,.var [.lit (.int .i64 v3_0),.sl (ab eI v3_1),.sl (ab eI v3_2)])],2⟩
@[go_sem] def uu (v22:List GNode)(v23:Int)(s_1:List GTie)(s_2 v3_0:Int)(v3_1 v3_2:List Int)(v24:Int):St:=⟨[(2,.ptr 128 1 0 0),(3,.ptr 192 1 0 0),(22,.sl (ab GNode.encS v22)),(23,.lit (.int .i64 v23)),(24,.lit (.int .i64 v24))],[(128,1,.var [.sl (ab GNode.encS v22),.sl (ab GTie.enc s_1),.lit (.int .i64 s_2)]),(192,1,.var [.lit (.int .i64 v3_0),.sl (ab eI v3_1),.sl (ab eI v3_2)])],2⟩
instance k335 {s:GShow} {v1:GState}:Ctr (kV s v1) (fun (res:Bool)=>aj prog 335 [.agg (GShow.encS s),.agg (GState.encS v1)] [] (.lit (.bool res)) []):=⟨by
 intro res h0
 refine co (hi:=hi00) func335 rfl rfl ?_
 unfold kV at h0
 obtain⟨q07,l0,h0⟩:=ae h0
 simp(config:=cS)only[go_sem, *]
 refine ag (m1:=.mk) (m2:=.mk) [.nf [2,3,10,11,12] [128,192]] (ut s.ties (s.ties.length:Int) s.nodes s.horizon v1.now v1.times v1.values) l0 ?_ ?_
 ·simp(config:=cS)only[go_sem, *]
 have k0:=h0
 clear h0 l0
 intro _ v12_1 _ h0 gb0
 unfold fb at h0
 try dsimp only at h0
 obtain⟨_,h0⟩|⟨_,h0⟩:=itP h0
 ·exact run
 cases h0
 obtain rfl:=(aE gb0).symm
 clear gb0
 have h0:=k0
 clear k0
 try dsimp only at h0
 obtain⟨q06,l0,h0⟩:=ae h0
 simp(config:=cS)only[go_sem, *]
 refine ag (m1:=.mk) (m2:=.mk) [.nf [2,3,22,23,24] [128,192]] (uu s.nodes (s.nodes.length:Int) s.ties s.horizon v1.now v1.times v1.values) l0 ?_ ?_
 ·simp(config:=cS)only[go_sem, *]
 have k0:=h0
 clear h0 l0
 intro _ v24_2 _ h0 gb0
 unfold bZ at h0
 try dsimp only at h0
 exact run⟩
@[go_sem] def wc (v8:List GNode)(v9 v3_0:Int)(v3_1 v3_2:List Int)(v10:Int):St:=⟨[(3,.ptr 192 1 0 0),(8,.sl (ab GNode.encS v8)),(9,.lit (.int .i64 v9)),(10,.lit (.int .i64 v10))],[(192,1,.var [.lit (.int .i64 v3_0),.sl (ab eI v3_1),.sl (ab eI v3_2)])],2⟩
instance k336 {s:GShow} {v1:GState}:Ctr (mN s v1) (fun (res:Bool)=>aj prog 336 [.agg (GShow.encS s),.agg (GState.encS v1)] [] (.lit (.bool res)) []):=⟨by
 intro res h0
 refine co (hi:=hi00) func336 rfl rfl ?_
 unfold mN at h0
 obtain⟨q04,l0,h0⟩:=ae h0
 simp(config:=cS)only[go_sem, *]
 refine ag (m1:=.mk) (m2:=.mk) [.nf [3,8,9,10] [192]] (wc s.nodes (s.nodes.length:Int) v1.now v1.times v1.values) l0 ?_ ?_
 ·simp(config:=cS)only[go_sem, *]
 have k0:=h0
 clear h0 l0
 intro _ v10_1 _ h0 gb0
 unfold gU at h0
 try dsimp only at h0
 exact run⟩
@[go_sem] def uv (v17:List GNode)(v18:Int)(s_1:List GTie)(s_2 v3_0:Int)(v3_1 v3_2:List Int):(Int × (List Int) × (List Int) × (List Bool))→St
 | (v19,low,high,sure)=>⟨[(2,.ptr 128 1 0 0),(3,.ptr 192 1 0 0),(7,.ref 832 1 0 low.length),(8,.ref 896 1 0 high.length),(9,.ref 960 1 0 sure.length),(17,.sl (ab GNode.encS v17)),(18,.lit (.int .i64 v18)),(19,.lit (.int .i64 v19))],[(128,1,.var [.sl (ab GNode.encS v17),.sl (ab GTie.enc s_1),.lit (.int .i64 s_2)]),(192,1,.var [.lit (.int .i64 v3_0),.sl (ab eI v3_1),.sl (ab eI v3_2)]),(832,1,.row true (ab eI low)),(896,1,.row true (ab eI high)),(960,1,.row true (ab eB sure))],2⟩
instance k361 {s:GShow} {v1:GState}:Ctr (kW s v1) (fun (res:(List Int) × (List Int) × (List Bool))=>aj prog 361 [.agg (GShow.encS s),.agg (GState.encS v1)] [] (.tup [.ref 20000 1 0 res.1.length,.ref 20001 1 0 res.2.1.length,.ref 20002 1 0 res.2.2.length]) [(20000,1,.row true (ab eI res.1)),(20001,1,.row true (ab eI res.2.1)),(20002,1,.row true (ab eB res.2.2))]):=⟨by
 intro res h0
 refine aB (ra:=[.home 4,.home 5,.home 6]) (md:=mdT) hT (hi:=hi00) func361 rfl rfl (by decide +kernel) (by simp) ?_
 unfold kW at h0
 obtain⟨q04,l0,h0⟩:=ae h0
 simp(config:=cS)only[go_sem, *]
 refine ag (m1:=.mk) (m2:=.mk) [.nf [2,3,7,8,9,17,18,19] [128,192,832,896,960]] (uv s.nodes (s.nodes.length:Int) s.ties s.horizon v1.now v1.times v1.values) l0 ?_ ?_
 ·simp(config:=cS)only[go_sem, *]
 have k0:=h0
 clear h0 l0
 intro _ s0 _ h0 gb0
 obtain⟨v19_1,low_1,high_1,sure_1⟩:=s0
 unfold ig at h0
 try dsimp only at h0
 exact run⟩
@[go_sem] def sS (round:Int)(v27:List GTie)(v28:Int)(s_0:List GNode)(s_2:Int)(sure:List Bool):(Int × (List Int) × (List Int))→St
 | (v29,low,high)=>⟨[(2,.ptr 128 1 0 0),(5,.ref 960 1 0 low.length),(6,.ref 961 1 0 high.length),(7,.ref 962 1 0 sure.length),(8,.lit (.int .i64 round)),(27,.sl (ab GTie.enc v27)),(28,.lit (.int .i64 v28)),(29,.lit (.int .i64 v29))],[(128,1,.var [.sl (ab GNode.encS s_0),.sl (ab GTie.enc v27),.lit (.int .i64 s_2)]),(960,1,.row true (ab eI low)),(961,1,.row true (ab eI high)),(962,1,.row true (ab eB sure))],2⟩
@[go_sem] def sT (s_0:List GNode)(s_1:List GTie)(s_2:Int)(sure:List Bool):(Int × (List Int) × (List Int))→St
 | (round,low,high)=>⟨[(2,.ptr 128 1 0 0),(5,.ref 960 1 0 low.length),(6,.ref 961 1 0 high.length),(7,.ref 962 1 0 sure.length),(8,.lit (.int .i64 round))],[(128,1,.var [.sl (ab GNode.encS s_0),.sl (ab GTie.enc s_1),.lit (.int .i64 s_2)]),(960,1,.row true (ab eI low)),(961,1,.row true (ab eI high)),(962,1,.row true (ab eB sure))],2⟩
@[go_sem] def sU (v121:Int)(low high:List Int)(sure:List Bool)(v122:Int):St:=⟨[(5,.ref 960 1 0 low.length),(6,.ref 961 1 0 high.length),(7,.ref 962 1 0 sure.length),(121,.lit (.int .i64 v121)),(122,.lit (.int .i64 v122))],[(960,1,.row true (ab eI low)),(961,1,.row true (ab eI high)),(962,1,.row true (ab eB sure))],2⟩
@[go_sem] def hi337_17:DT:=.r2 0 15 .nil
@[go_sem] def hi337_12:DT:=.r2 0 19 .nil
@[go_sem] def hi337_11:DT:=.r2 0 19 .nil
@[go_sem] def hi337_10:DT:=.r2 0 19 .nil
@[go_sem] def hi337_9:DT:=.r2 0 19 .nil
def ua:Hint where
 acts:=fun _=>[]
 draws:=fun
  | 9=>⟨hi337_9,[[],[],[1],[],[],[4],[3,4,5],[3,4,5,6],[],[],[9],[8,9,10],[8,9,10,11],[],[13],[8,9,10,11,12,13,14],[3,4,5,6,7,8,9,10,11,12,13,14,15],.range 17,.range 18],.range 19⟩
  | 10=>⟨hi337_10,[[],[],[1],[],[],[4],[3,4,5],[3,4,5,6],[],[],[9],[8,9,10],[8,9,10,11],[],[13],[8,9,10,11,12,13,14],[3,4,5,6,7,8,9,10,11,12,13,14,15],.range 17,.range 18],.range 19⟩
  | 11=>⟨hi337_11,[[],[],[1],[],[],[4],[3,4,5],[3,4,5,6],[],[],[9],[8,9,10],[8,9,10,11],[],[13],[8,9,10,11,12,13,14],[3,4,5,6,7,8,9,10,11,12,13,14,15],.range 17,.range 18],.range 19⟩
  | 12=>⟨hi337_12,[[],[],[1],[],[],[4],[3,4,5],[3,4,5,6],[],[],[9],[8,9,10],[8,9,10,11],[],[13],[8,9,10,11,12,13,14],[3,4,5,6,7,8,9,10,11,12,13,14,15],.range 17,.range 18],.range 19⟩
  | 17=>⟨hi337_17,[[],[],[0,1],[0,1,2],[0,1,2,3],.range 5,.range 5,.range 7,.range 8,.range 5,.range 5,[0,1,2,3,4,9,10],[0,1,2,3,4,9,10,11],.range 13,.range 14],.range 15⟩
  | _=>⟨.nil,[],[]⟩
theorem Vm (i:Nat):ua.acts i=[]:=rfl
theorem Vn (i:Nat):ua.views i=none:=rfl
attribute[go_sem] Vm Vn ntmps337 results337
@[go_sem] theorem Zz:(ua.draws 9).order=hi337_9:=rfl
@[go_sem] theorem Yu:(ua.draws 10).order=hi337_10:=rfl
@[go_sem] theorem Yv:(ua.draws 11).order=hi337_11:=rfl
@[go_sem] theorem Yw:(ua.draws 12).order=hi337_12:=rfl
@[go_sem] theorem Yx:(ua.draws 17).order=hi337_17:=rfl
instance k337 {s:GShow} {v1:GState}:Ctr (jm s v1) (fun (res:Bool)=>aj prog 337 [.agg (GShow.encS s),.agg (GState.encS v1)] [] (.lit (.bool res)) []):=⟨by
 intro res h0
 refine co (hi:=ua) func337 rfl rfl ?_
 unfold jm at h0
 obtain⟨r01,g0,h0⟩:=ae h0
 simp(config:=cS)only[go_sem, *]
 have g0:=ctr g0
 refine ai g0 ?_
 obtain⟨q18,l0,h0⟩:=ae h0
 simp(config:=cS)only[go_sem, *]
 refine ag (m1:=.mk) (m2:=.mk) [.nf [2,5,6,7,8] [128,960,961,962]] (sT s.nodes s.ties s.horizon r01.2.2) l0 ?_ ?_
 ·simp(config:=cS)only[go_sem, *]
 have k0:=h0
 clear h0 l0
 intro _ s0 _ h0 gb0
 obtain⟨round_1,low_1,high_1⟩:=s0
 unfold fV at h0
 try dsimp only at h0
 obtain⟨_,h0⟩|⟨_,h0⟩:=itP h0
 ·obtain⟨q13,l0,h0⟩:=ae h0
  simp(config:=cS)only[go_sem, *]
  refine ag (m1:=.mk) (m2:=.mk) [.nf [2,5,6,7,8,27,28,29] [128,960,961,962]] (sS round_1 s.ties (s.ties.length:Int) s.nodes s.horizon r01.2.2) l0 ?_ ?_
  ·simp(config:=cS)only[go_sem, *]
  have k0:=h0
  clear h0 l0
  intro _ s0 _ h0 gb0
  obtain⟨v29_2,low_2,high_2⟩:=s0
  unfold fU at h0
  try dsimp only at h0
  exact run
 cases h0
 obtain rfl:=(aE gb0).symm
 clear gb0
 have h0:=k0
 clear k0
 try dsimp only at h0
 obtain⟨q17,l0,h0⟩:=ae h0
 simp(config:=cS)only[go_sem, *]
 refine ag (m1:=.mk) (m2:=.mk) [.nf [5,6,7,121,122] [960,961,962]] (sU (low_1.length:Int) low_1 high_1 r01.2.2) l0 ?_ ?_
 ·simp(config:=cS)only[go_sem, *]
 have k0:=h0
 clear h0 l0
 intro _ v122_3 _ h0 gb0
 unfold fW at h0
 try dsimp only at h0
 exact run⟩
@[go_sem] def uw (v10:List GTie)(v11 v3_0:Int)(v3_1 v3_2:List Int):(Int × (List Int))→St
 | (v12,out)=>⟨[(3,.ptr 192 1 0 0),(5,.ref 512 1 0 out.length),(10,.sl (ab GTie.enc v10)),(11,.lit (.int .i64 v11)),(12,.lit (.int .i64 v12))],[(192,1,.var [.lit (.int .i64 v3_0),.sl (ab eI v3_1),.sl (ab eI v3_2)]),(512,1,.row true (ab eI out))],2⟩
instance k362 {s:GShow} {v1:GState}:Ctr (kX s v1) (fun (res:List Int)=>aj prog 362 [.agg (GShow.encS s),.agg (GState.encS v1)] [] (.ref 20000 1 0 res.length) [(20000,1,.row true (ab eI res))]):=⟨by
 intro res h0
 refine aB (ra:=[.home 4]) (md:=mdT) hT (hi:=hi00) func362 rfl rfl (by decide +kernel) (by simp) ?_
 unfold kX at h0
 obtain⟨q04,l0,h0⟩:=ae h0
 simp(config:=cS)only[go_sem, *]
 refine ag (m1:=.mk) (m2:=.mk) [.nf [3,5,10,11,12] [192,512]] (uw s.ties (s.ties.length:Int) v1.now v1.times v1.values) l0 ?_ ?_
 ·simp(config:=cS)only[go_sem, *]
 have k0:=h0
 clear h0 l0
 intro _ s0 _ h0 gb0
 obtain⟨v12_1,out_1⟩:=s0
 unfold ii at h0
 try dsimp only at h0
 exact run⟩
@[go_sem] def tF (v16:Int)(s_0:List GNode)(s_1:List GTie)(s_2 v3_0:Int)(v3_1 v3_2 v15:List Int):(Int × (List Int) × (List Int))→St
 | (v17,must,may)=>⟨[(2,.ptr 128 1 0 0),(3,.ptr 192 1 0 0),(6,.ref 704 1 0 must.length),(7,.ref 768 1 0 may.length),(15,.ref 960 1 0 v15.length),(16,.lit (.int .i64 v16)),(17,.lit (.int .i64 v17))],[(128,1,.var [.sl (ab GNode.encS s_0),.sl (ab GTie.enc s_1),.lit (.int .i64 s_2)]),(192,1,.var [.lit (.int .i64 v3_0),.sl (ab eI v3_1),.sl (ab eI v3_2)]),(704,1,.row true (ab eI must)),(768,1,.row true (ab eI may)),(960,1,.row true (ab eI v15))],2⟩
@[go_sem] def hi338_6:DT:=.r2 0 14 .nil
def IB:Hint where
 acts:=fun _=>[]
 draws:=fun
  | 6=>⟨hi338_6,[[],[0],[],[2],[],[4],[],[4,5,6],[4,5,6,7],[4,5,6,7,8],[2,3,4,5,6,7,8,9],[2,3,4,5,6,7,8,9,10],.range 12,.range 13],.range 14⟩
  | _=>⟨.nil,[],[]⟩
theorem Vo (i:Nat):IB.acts i=[]:=rfl
theorem Vp (i:Nat):IB.views i=none:=rfl
attribute[go_sem] Vo Vp ntmps338 results338
@[go_sem] theorem ZA:(IB.draws 6).order=hi338_6:=rfl
instance k338 {s:GShow} {v1:GState}:Ctr (jY s v1) (fun (res:(List Int) × (List Int))=>aj prog 338 [.agg (GShow.encS s),.agg (GState.encS v1)] [] (.tup [.ref 20000 1 0 res.1.length,.ref 20001 1 0 res.2.length]) [(20000,1,.row true (ab eI res.1)),(20001,1,.row true (ab eI res.2))]):=⟨by
 intro res h0
 refine aB (ra:=[.home 4,.home 5]) (md:=mdT) hT (hi:=IB) func338 rfl rfl (by decide +kernel) (by simp) ?_
 unfold jY at h0
 obtain⟨r01,g0,h0⟩:=ae h0
 simp(config:=cS)only[go_sem, *]
 have g0:=ctr g0
 refine ai g0 ?_
 obtain⟨q05,l0,h0⟩:=ae h0
 simp(config:=cS)only[go_sem, *]
 refine ag (m1:=.mk) (m2:=.mk) [.nf [2,3,6,7,15,16,17] [128,192,704,768,960]] (tF (r01.length:Int) s.nodes s.ties s.horizon v1.now v1.times v1.values r01) l0 ?_ ?_
 ·simp(config:=cS)only[go_sem, *]
 have k0:=h0
 clear h0 l0
 intro _ s0 _ h0 gb0
 obtain⟨v17_1,must_1,may_1⟩:=s0
 unfold gA at h0
 try dsimp only at h0
 exact run⟩
@[go_sem] def wd (n:Int)(v9:List Int)(v10:Int):(Int × (List Int))→St
 | (v11,out)=>⟨[(1,.lit (.int .i64 n)),(5,.ref 512 1 0 out.length),(9,.sl (ab eI v9)),(10,.lit (.int .i64 v10)),(11,.lit (.int .i64 v11))],[(512,1,.row true (ab eI out))],2⟩
instance k342 {l:List Int} {n:Int}:Ctr (kB l n) (fun (res:List Int)=>aj prog 342 [.sl (ab eI l),.lit (.int .i64 n)] [] (.ref 20000 1 0 res.length) [(20000,1,.row true (ab eI res))]):=⟨by
 intro res h0
 refine aB (ra:=[.home 4]) (md:=mdT) hT (hi:=hi00) func342 rfl rfl (by decide +kernel) (by simp) ?_
 unfold kB at h0
 obtain⟨q02,l0,h0⟩:=ae h0
 simp(config:=cS)only[go_sem, *]
 refine ag (m1:=.mk) (m2:=.mk) [.nf [1,5,9,10,11] [512]] (wd n l (l.length:Int)) l0 ?_ ?_
 ·simp(config:=cS)only[go_sem, *]
 have k0:=h0
 clear h0 l0
 intro _ s0 _ h0 gb0
 obtain⟨v11_1,out_1⟩:=s0
 unfold jZ at h0
 try dsimp only at h0
 exact run⟩
@[go_sem] def vc (a b:List Int):(Int × Int × (List Int))→St
 | (i,k,out)=>⟨[(0,.sl (ab eI a)),(1,.sl (ab eI b)),(5,.ref 512 1 0 out.length),(6,.lit (.int .i64 i)),(7,.lit (.int .i64 k))],[(512,1,.row true (ab eI out))],2⟩
@[go_sem] def hi341_5:DT:=.r2 0 21 .nil
def IC:Hint where
 acts:=fun _=>[]
 draws:=fun
  | 5=>⟨hi341_5,[[],[],[1],[0,1,2],[0,1,2,3],.range 5,.range 5,[0,1,2,3,4,6],.range 8,.range 9,.range 10,.range 10,.range 12,.range 13,.range 10,.range 10,[0,1,2,3,4,5,6,7,8,9,14,15],[0,1,2,3,4,5,6,7,8,9,14,15,16],.range 18,.range 19,.range 20],.range 21⟩
  | _=>⟨.nil,[],[]⟩
theorem Vq (i:Nat):IC.acts i=[]:=rfl
theorem Vr (i:Nat):IC.views i=none:=rfl
attribute[go_sem] Vq Vr ntmps341 results341
@[go_sem] theorem ZB:(IC.draws 5).order=hi341_5:=rfl
instance k341 {a:List Int} {b:List Int}:Ctr (jv a b) (fun (res:List Int)=>aj prog 341 [.sl (ab eI a),.sl (ab eI b)] [] (.ref 20000 1 0 res.length) [(20000,1,.row true (ab eI res))]):=⟨by
 intro res h0
 refine aB (ra:=[.home 4]) (md:=mdT) hT (hi:=IC) func341 rfl rfl (by decide +kernel) (by simp) ?_
 unfold jv at h0
 obtain⟨q06,l0,h0⟩:=ae h0
 simp(config:=cS)only[go_sem, *]
 refine ag (m1:=.mk) (m2:=.mk) [.nf [0,1,5,6,7] [512]] (vc a b) l0 ?_ ?_
 ·simp(config:=cS)only[go_sem, *]
 have k0:=h0
 clear h0 l0
 intro _ s0 _ h0 gb0
 obtain⟨i_1,k_1,out_1⟩:=s0
 unfold jn at h0
 try dsimp only at h0
 exact run⟩
@[go_sem] def hi365_1:DT:=.i1 0 (.i1 1 (.i1 3 (.i1 4 (.i1 7 (.i1 8 (.fork (.i0 2 [0,1,3,4,7,8] (.fork (.i0 5 [0,1,7,8] (.i0 6 [0,1,3,4,7,8] (.i0 9 [0,1] (.i2 10 (.i2 11 .nil))))) (.i0 6 [0,1,3,4,7,8] (.i0 5 [0,1,7,8] (.i0 9 [0,1] (.i2 10 (.i2 11 .nil))))))) (.i0 6 [0,1,3,4,7,8] (.i0 2 [0,1,3,4,7,8] (.i0 5 [0,1,7,8] (.i0 9 [0,1] (.i2 10 (.i2 11 .nil))))))))))))
def ID:Hint where
 acts:=fun _=>[]
 draws:=fun
  | 1=>⟨hi365_1,[[],[0],[],[],[3],[2,3,4],[],[],[7],[2,3,4,5,6,7,8],.range 10,.range 11],.range 12⟩
  | _=>⟨.nil,[],[]⟩
theorem Vs (i:Nat):ID.acts i=[]:=rfl
theorem Vt (i:Nat):ID.views i=none:=rfl
attribute[go_sem] Vs Vt ntmps365 results365
@[go_sem] theorem ZC:(ID.draws 1).order=hi365_1:=rfl
instance k365 {v0:GState}:Ctr (iG v0) (fun (res:GState)=>aj prog 365 [.agg (GState.encS v0)] [] (.agg [.lit (.int .i64 res.now),.ref 20000 1 0 res.times.length,.ref 20001 1 0 res.values.length]) [(20000,1,.row true (ab eI res.times)),(20001,1,.row true (ab eI res.values))]):=⟨by
 intro res h0
 refine aB (ra:=[.homeCell 128 1,.homeCell 128 2]) (md:=mdT) hT (hi:=ID) func365 rfl rfl (by decide +kernel) (by simp) ?_
 unfold iG at h0
 obtain⟨_,h0⟩:=ckP h0
 obtain⟨_,h0⟩:=ckP h0
 obtain⟨_,h0⟩:=ckP h0
 obtain⟨_,h0⟩:=ckP h0
 try simp(config:=cS)only[go_sem, *]
 refine fy ?_ ?_
 ·try simp(config:=cS)only[go_sem, *]
  refine fy ?_ ?_
  ·exact run
  exact run
 exact run⟩
@[go_sem] def xt (v12:List Int)(v13:Int)(s_0:List GNode)(s_1:List GTie)(s_2 v4_0:Int)(v4_1 v4_2:List Int)(out_0:Int)(h705:List Int):(Int × (List Int))→St
 | (v14,h704)=>⟨[(3,.ptr 192 1 0 0),(4,.ptr 256 1 0 0),(6,.ptr 384 1 0 0),(7,.ptr 448 1 0 0),(12,.sl (ab eI v12)),(13,.lit (.int .i64 v13)),(14,.lit (.int .i64 v14))],[(192,1,.var [.sl (ab GNode.encS s_0),.sl (ab GTie.enc s_1),.lit (.int .i64 s_2)]),(256,1,.var [.lit (.int .i64 v4_0),.sl (ab eI v4_1),.sl (ab eI v4_2)]),(384,1,.var [.lit (.int .i64 0),.lit (.slice none 0 0),.lit (.slice none 0 0)]),(448,1,.var [.lit (.int .i64 out_0),.ref 704 1 0 h704.length,.ref 705 1 0 h705.length]),(704,1,.row true (ab eI h704)),(705,1,.row true (ab eI h705))],2⟩
@[go_sem] def hi340_5:DT:=.r2 0 12 .nil
def IE:Hint where
 acts:=fun _=>[]
 draws:=fun
  | 5=>⟨hi340_5,[[],[0],[],[2],[],[2,3,4],[2,3,4,5],[2,3,4,5,6],[],[8],.range 10,.range 11],.range 12⟩
  | _=>⟨.nil,[],[]⟩
theorem Vu (i:Nat):IE.acts i=[]:=rfl
theorem Vv (i:Nat):IE.views i=none:=rfl
attribute[go_sem] Vu Vv ntmps340 results340
@[go_sem] theorem ZD:(IE.draws 5).order=hi340_5:=rfl
instance k340 {s:GShow} {v1:GState} {ties:List Int}:Ctr (nR s v1 ties) (fun (res:GState)=>aj prog 340 [.agg (GShow.encS s),.agg (GState.encS v1),.sl (ab eI ties)] [] (.agg [.lit (.int .i64 res.now),.ref 20000 1 0 res.times.length,.ref 20001 1 0 res.values.length]) [(20000,1,.row true (ab eI res.times)),(20001,1,.row true (ab eI res.values))]):=⟨by
 intro res h0
 refine aB (ra:=[.homeCell 384 1,.homeCell 384 2]) (md:=mdT) hT (hi:=IE) func340 rfl rfl (by decide +kernel) (by simp) ?_
 unfold nR at h0
 obtain⟨r01,g0,h0⟩:=ae h0
 simp(config:=cS)only[go_sem, *]
 have g0:=ctr g0
 refine ai g0 ?_
 obtain⟨q05,l0,h0⟩:=ae h0
 simp(config:=cS)only[go_sem, *]
 refine ag (m1:=.mk) (m2:=.mk) [.nf [3,4,6,7,12,13,14] [192,256,384,448,704,705]] (xt ties (ties.length:Int) s.nodes s.ties s.horizon v1.now v1.times v1.values r01.now r01.values) l0 ?_ ?_
 ·simp(config:=cS)only[go_sem, *]
 have k0:=h0
 clear h0 l0
 intro _ s0 _ h0 gb0
 obtain⟨v14_1,h704_1⟩:=s0
 unfold kY at h0
 try dsimp only at h0
 exact run⟩
@[go_sem] def tG (v10:List GNode)(v11:Int)(s_1:List GTie)(s_2 v3_0:Int)(v3_1 v3_2:List Int):(Int × (List Int))→St
 | (v12,out)=>⟨[(2,.ptr 128 1 0 0),(3,.ptr 192 1 0 0),(5,.ref 512 1 0 out.length),(10,.sl (ab GNode.encS v10)),(11,.lit (.int .i64 v11)),(12,.lit (.int .i64 v12))],[(128,1,.var [.sl (ab GNode.encS v10),.sl (ab GTie.enc s_1),.lit (.int .i64 s_2)]),(192,1,.var [.lit (.int .i64 v3_0),.sl (ab eI v3_1),.sl (ab eI v3_2)]),(512,1,.row true (ab eI out))],2⟩
instance k363 {s:GShow} {v1:GState}:Ctr (ka s v1) (fun (res:List Int)=>aj prog 363 [.agg (GShow.encS s),.agg (GState.encS v1)] [] (.ref 20000 1 0 res.length) [(20000,1,.row true (ab eI res))]):=⟨by
 intro res h0
 refine aB (ra:=[.home 4]) (md:=mdT) hT (hi:=hi00) func363 rfl rfl (by decide +kernel) (by simp) ?_
 unfold ka at h0
 obtain⟨q05,l0,h0⟩:=ae h0
 simp(config:=cS)only[go_sem, *]
 refine ag (m1:=.mk) (m2:=.mk) [.nf [2,3,5,10,11,12] [128,192,512]] (tG s.nodes (s.nodes.length:Int) s.ties s.horizon v1.now v1.times v1.values) l0 ?_ ?_
 ·simp(config:=cS)only[go_sem, *]
 have k0:=h0
 clear h0 l0
 intro _ s0 _ h0 gb0
 obtain⟨v12_1,out_1⟩:=s0
 unfold gB at h0
 try dsimp only at h0
 exact run⟩
@[go_sem] def ux (nodes:List Int)(v16:Int)(s_0:List GNode)(s_1:List GTie)(s_2 v4_0:Int)(v4_1 v4_2:List Int)(out_0:Int)(h897:List Int):(Int × (List Int))→St
 | (v17,h896)=>⟨[(2,.sl (ab eI nodes)),(3,.ptr 192 1 0 0),(4,.ptr 256 1 0 0),(6,.ptr 384 1 0 0),(8,.ptr 512 1 0 0),(15,.sl (ab eI nodes)),(16,.lit (.int .i64 v16)),(17,.lit (.int .i64 v17))],[(192,1,.var [.sl (ab GNode.encS s_0),.sl (ab GTie.enc s_1),.lit (.int .i64 s_2)]),(256,1,.var [.lit (.int .i64 v4_0),.sl (ab eI v4_1),.sl (ab eI v4_2)]),(384,1,.var [.lit (.int .i64 0),.lit (.slice none 0 0),.lit (.slice none 0 0)]),(512,1,.var [.lit (.int .i64 out_0),.ref 896 1 0 h896.length,.ref 897 1 0 h897.length]),(896,1,.row true (ab eI h896)),(897,1,.row true (ab eI h897))],2⟩
@[go_sem] def uy (nodes:List Int)(s_0:List GNode)(s_1:List GTie)(s_2 out_0:Int)(h896 h897:List Int):(Int × (List Int))→St
 | (p,props)=>⟨[(2,.sl (ab eI nodes)),(3,.ptr 192 1 0 0),(6,.ptr 384 1 0 0),(8,.ptr 512 1 0 0),(11,.ref 1792 1 0 props.length),(12,.lit (.int .i64 p))],[(192,1,.var [.sl (ab GNode.encS s_0),.sl (ab GTie.enc s_1),.lit (.int .i64 s_2)]),(384,1,.var [.lit (.int .i64 0),.lit (.slice none 0 0),.lit (.slice none 0 0)]),(512,1,.var [.lit (.int .i64 out_0),.ref 896 1 0 h896.length,.ref 897 1 0 h897.length]),(896,1,.row true (ab eI h896)),(897,1,.row true (ab eI h897)),(1792,1,.row true (ab eI props))],2⟩
instance k372 {s:GShow} {v1:GState} {nodes:List Int}:Ctr (kZ s v1 nodes) (fun (res:GState × (List Int))=>aj prog 372 [.agg (GShow.encS s),.agg (GState.encS v1),.sl (ab eI nodes)] [] (.tup [.agg [.lit (.int .i64 res.1.now),.ref 20000 1 0 res.1.times.length,.ref 20001 1 0 res.1.values.length],.ref 20002 1 0 res.2.length]) [(20000,1,.row true (ab eI res.1.times)),(20001,1,.row true (ab eI res.1.values)),(20002,1,.row true (ab eI res.2))]):=⟨by
 intro res h0
 refine aB (ra:=[.homeCell 384 1,.homeCell 384 2,.home 7]) (md:=mdT) hT (hi:=hi00) func372 rfl rfl (by decide +kernel) (by simp) ?_
 unfold kZ at h0
 obtain⟨r01,g0,h0⟩:=ae h0
 simp(config:=cS)only[go_sem, *]
 have g0:=ctr g0
 refine ai g0 ?_
 obtain⟨q07,l0,h0⟩:=ae h0
 simp(config:=cS)only[go_sem, *]
 refine ag (m1:=.mk) (m2:=.mk) [.nf [2,3,4,6,8,15,16,17] [192,256,384,512,896,897]] (ux nodes (nodes.length:Int) s.nodes s.ties s.horizon v1.now v1.times v1.values r01.now r01.values) l0 ?_ ?_
 ·simp(config:=cS)only[go_sem, *]
 have k0:=h0
 clear h0 l0
 intro _ s0 _ h0 gb0
 obtain⟨v17_1,h896_1⟩:=s0
 unfold ij at h0
 try dsimp only at h0
 obtain⟨_,h0⟩|⟨_,h0⟩:=itP h0
 ·exact run
 cases h0
 obtain rfl:=(aE gb0).symm
 clear gb0
 have h0:=k0
 clear k0
 try dsimp only at h0
 obtain⟨q06,l0,h0⟩:=ae h0
 simp(config:=cS)only[go_sem, *]
 refine ag (m1:=.mk) (m2:=.mk) [.nf [2,3,6,8,11,12] [192,384,512,896,897,1792]] (uy nodes s.nodes s.ties s.horizon r01.now h896_1 r01.values) l0 ?_ ?_
 ·simp(config:=cS)only[go_sem, *]
 have k0:=h0
 clear h0 l0
 intro _ s0 _ h0 gb0
 obtain⟨p_2,props_2⟩:=s0
 unfold ik at h0
 try dsimp only at h0
 exact run⟩
@[go_sem] def rn (props:List Int)(v10 v11:Int):St:=⟨[(0,.sl (ab eI props)),(9,.sl (ab eI props)),(10,.lit (.int .i64 v10)),(11,.lit (.int .i64 v11))],[],2⟩
@[go_sem] def ro (props:List Int)(n v44:Int)(out:List (List Int)):(Int × (List Int))→St
 | (v45,l)=>⟨[(0,.sl (ab eI props)),(5,.ref 2112 1 0 out.length),(6,.lit (.int .i64 n)),(7,.ref 2688 1 0 l.length),(44,.lit (.int .i64 v44)),(45,.lit (.int .i64 v45))],[(2112,1,.row true (ab (eLO eI) out)),(2688,1,.row true (ab eI l))],2⟩
@[go_sem] def rp (props:List Int):(Int × (List (List Int)))→St
 | (n,out)=>⟨[(0,.sl (ab eI props)),(5,.ref 2112 1 0 out.length),(6,.lit (.int .i64 n))],[(2112,1,.row true (ab (eLO eI) out))],2⟩
instance k373 {props:List Int}:Ctr (fX props) (fun (res:List (List Int))=>aj prog 373 [.sl (ab eI props)] [] (.ref 20000 1 0 res.length) [(20000,1,.row true (ab (eLO eI) res))]):=⟨by
 intro res h0
 refine aB (ra:=[.home 2]) (md:=mdT) hT (hi:=hi00) func373 rfl rfl (by decide +kernel) (by simp) ?_
 unfold fX at h0
 obtain⟨q06,l0,h0⟩:=ae h0
 simp(config:=cS)only[go_sem, *]
 refine ag (m1:=.mk) (m2:=.mk) [.nf [0,9,10,11] []] (rn props (props.length:Int)) l0 ?_ ?_
 ·simp(config:=cS)only[go_sem, *]
 have k0:=h0
 clear h0 l0
 intro _ v11_1 _ h0 gb0
 unfold dV at h0
 try dsimp only at h0
 obtain⟨_,h0⟩|⟨_,h0⟩:=itP h0
 ·exact run
 cases h0
 obtain rfl:=(aE gb0).symm
 clear gb0
 have h0:=k0
 clear k0
 try dsimp only at h0
 obtain⟨q05,l0,h0⟩:=ae h0
 simp(config:=cS)only[go_sem, *]
 refine ag (m1:=.mk) (m2:=.mk) [.nf [0,5,6] [2112]] (rp props) l0 ?_ ?_
 ·simp(config:=cS)only[go_sem, *]
 have k0:=h0
 clear h0 l0
 intro _ s0 _ h0 gb0
 obtain⟨n_2,out_2⟩:=s0
 unfold dX at h0
 try dsimp only at h0
 obtain⟨_,h0⟩:=ckN h0
 obtain⟨_,h0⟩|⟨_,h0⟩:=itP h0
 ·obtain⟨q04,l0,h0⟩:=ae h0
  simp(config:=cS)only[go_sem, *]
  refine ag (m1:=.mk) (m2:=.mk) [.nf [0,5,6,7,44,45] [2112,2688]] (ro props n_2 (props.length:Int) out_2) l0 ?_ ?_
  ·simp(config:=cS)only[go_sem, *]
  have k0:=h0
  clear h0 l0
  intro _ s0 _ h0 gb0
  obtain⟨v45_3,l_3⟩:=s0
  unfold dW at h0
  try dsimp only at h0
  exact run
 exact run⟩
@[go_sem] def uz (values v12:List Int)(v13 out_0:Int)(h704:List Int):(Int × (List Int))→St
 | (v14,h705)=>⟨[(2,.sl (ab eI values)),(6,.ptr 384 1 0 0),(7,.ptr 448 1 0 0),(12,.sl (ab eI v12)),(13,.lit (.int .i64 v13)),(14,.lit (.int .i64 v14))],[(384,1,.var [.lit (.int .i64 0),.lit (.slice none 0 0),.lit (.slice none 0 0)]),(448,1,.var [.lit (.int .i64 out_0),.ref 704 1 0 h704.length,.ref 705 1 0 h705.length]),(704,1,.row true (ab eI h704)),(705,1,.row true (ab eI h705))],2⟩
@[go_sem] def hi374_5:DT:=.r2 0 10 .nil
def IF:Hint where
 acts:=fun _=>[]
 draws:=fun
  | 5=>⟨hi374_5,[[],[0],[],[2],[],[],[4,5],[4,5,6],.range 8,.range 9],.range 10⟩
  | _=>⟨.nil,[],[]⟩
theorem Vw (i:Nat):IF.acts i=[]:=rfl
theorem Vx (i:Nat):IF.views i=none:=rfl
attribute[go_sem] Vw Vx ntmps374 results374
@[go_sem] theorem ZE:(IF.draws 5).order=hi374_5:=rfl
instance k374 {v0:GState} {props:List Int} {values:List Int}:Ctr (lc v0 props values) (fun (res:GState)=>aj prog 374 [.agg (GState.encS v0),.sl (ab eI props),.sl (ab eI values)] [] (.agg [.lit (.int .i64 res.now),.ref 20000 1 0 res.times.length,.ref 20001 1 0 res.values.length]) [(20000,1,.row true (ab eI res.times)),(20001,1,.row true (ab eI res.values))]):=⟨by
 intro res h0
 refine aB (ra:=[.homeCell 384 1,.homeCell 384 2]) (md:=mdT) hT (hi:=IF) func374 rfl rfl (by decide +kernel) (by simp) ?_
 unfold lc at h0
 obtain⟨r01,g0,h0⟩:=ae h0
 simp(config:=cS)only[go_sem, *]
 have g0:=ctr g0
 refine ai g0 ?_
 obtain⟨q05,l0,h0⟩:=ae h0
 simp(config:=cS)only[go_sem, *]
 refine ag (m1:=.mk) (m2:=.mk) [.nf [2,6,7,12,13,14] [384,448,704,705]] (uz values props (props.length:Int) r01.now r01.times) l0 ?_ ?_
 ·simp(config:=cS)only[go_sem, *]
 have k0:=h0
 clear h0 l0
 intro _ s0 _ h0 gb0
 obtain⟨v14_1,h705_1⟩:=s0
 unfold il at h0
 try dsimp only at h0
 exact run⟩
@[go_sem] def we (v20:Int)(s_0:List GNode)(s_1:List GTie)(s_2 y_0:Int)(h960 h961 props:List Int)(v19:List (List Int))(v21:Int):St:=⟨[(3,.ptr 192 1 0 0),(7,.ptr 448 1 0 0),(8,.ref 962 1 0 props.length),(19,.ref 1216 1 0 v19.length),(20,.lit (.int .i64 v20)),(21,.lit (.int .i64 v21))],[(192,1,.var [.sl (ab GNode.encS s_0),.sl (ab GTie.enc s_1),.lit (.int .i64 s_2)]),(448,1,.var [.lit (.int .i64 y_0),.ref 960 1 0 h960.length,.ref 961 1 0 h961.length]),(960,1,.row true (ab eI h960)),(961,1,.row true (ab eI h961)),(962,1,.row true (ab eI props)),(1216,1,.tree (ab (eLS eI) v19))],2⟩
@[go_sem] def hi364_5:DT:=.i1 0 (.r2 1 3 (.i0 4 [0] (.i2 5 (.i2 6 .nil))))
def IG:Hint where
 acts:=fun _=>[]
 draws:=fun
  | 5=>⟨hi364_5,[[],[],[],[],[1,2,3],.range 5,.range 6],.range 7⟩
  | _=>⟨.nil,[],[]⟩
@[go_sem] theorem aay (i:Nat):IG.acts i=[]:=rfl
theorem Vy (i:Nat):IG.views i=none:=rfl
attribute[go_sem] Vy ntmps364 results364
@[go_sem] theorem ZF:(IG.draws 5).order=hi364_5:=rfl
theorem BU {rec:GShow→GState→Option Bool}(hrec:∀ {s:GShow} {v1:GState} {res:Bool},rec s v1=some res→aj prog 300 [.agg (GShow.encS s),.agg (GState.encS v1)] [] (.lit (.bool res)) []){s:GShow}{v1:GState}{nodes:List Int}{res:Bool}(h:lf rec s v1 nodes=some res):aj prog 364 [.agg (GShow.encS s),.agg (GState.encS v1),.sl (ab eI nodes)] [] (.lit (.bool res)) []:=by
 refine co (hi:=IG) func364 rfl rfl ?_
 unfold lf at h
 obtain⟨r01,g1,h⟩:=ae h
 simp(config:=cS)only[go_sem]
 have g1:=ctr g1
 refine ai g1 ?_
 obtain⟨r02,g2,h⟩:=ae h
 simp(config:=cS)only[go_sem]
 have g2:=ctr g2
 refine ai g2 ?_
 obtain⟨q06,l3,h⟩:=ae h
 simp(config:=cS)only[go_sem]
 refine ag (m1:=.mk) (m2:=.mk) [.freeze [1216],.nf [3,7,8,19,20,21] [192,448,960,961,962,1216]] (we (r02.length:Int) s.nodes s.ties s.horizon r01.1.now r01.1.times r01.1.values r01.2 r02) l3 ?_ ?_
 ·simp(config:=cS)only[go_sem]
 intro nb4 v21_1 bb4 b4 gb4
 unfold kb at b4
 try dsimp only at b4
 obtain⟨h5,b4⟩|⟨h5,b4⟩:=aT b4
 ·obtain⟨x03,g6,b4⟩:=ae b4
  obtain⟨h7,h8,h9⟩:=eO g6
  obtain⟨r04,g10,b4⟩:=ae b4
  simp(config:=cS)only[go_sem,eqT h5,h7,h8,h9]
  have g10:=ctr g10
  refine ai g10 ?_
  obtain⟨r05,g11,b4⟩:=ae b4
  simp(config:=cS)only[go_sem,eqT h5,h7,h8,h9]
  refine ai (hrec g11) ?_
  obtain⟨h12,b4⟩|⟨h12,b4⟩:=aT b4
  ·cases b4
   simp(config:=cS)only[go_sem,eqT h5,h7,h8,h9,eZt h12]
   refine fz gb4 ?_
   simp(config:=cS)only[go_sem,eqT h5,h7,h8,h9,eZt h12]
  cases b4
  obtain rfl:=(aE gb4).symm
  try dsimp only at h
  cases h
  simp(config:=cS)only[go_sem,eqT h5,h7,h8,h9,eZf h12]
 cases b4
 obtain rfl:=(aE gb4).symm
 try dsimp only at h
 cases h
 simp(config:=cS)only[go_sem,eqF h5]
@[go_sem] def xu (s_0:List GNode)(s_1:List GTie)(s_2 v3_0:Int)(v3_1 v3_2 l:List Int)(n:Int):St:=⟨[(2,.ptr 128 1 0 0),(3,.ptr 192 1 0 0),(5,.ref 576 1 0 l.length),(6,.lit (.int .i64 n))],[(128,1,.var [.sl (ab GNode.encS s_0),.sl (ab GTie.enc s_1),.lit (.int .i64 s_2)]),(192,1,.var [.lit (.int .i64 v3_0),.sl (ab eI v3_1),.sl (ab eI v3_2)]),(576,1,.row true (ab eI l))],2⟩
@[go_sem] def hi339_5:DT:=.i1 0 (.i1 1 (.i2 2 (.i2 3 (.i0 4 [0,1] (.i2 5 .nil)))))
def IH:Hint where
 acts:=fun _=>[]
 draws:=fun
  | 5=>⟨hi339_5,[[],[],[],[],[2,3],.range 5],.range 6⟩
  | _=>⟨.nil,[],[]⟩
theorem Vz (i:Nat):IH.acts i=[]:=rfl
theorem VA (i:Nat):IH.views i=none:=rfl
attribute[go_sem] Vz VA ntmps339 results339
@[go_sem] theorem ZG:(IH.draws 5).order=hi339_5:=rfl
theorem Ef {rec:GShow→GState→Option Bool}(hrec:∀ {s:GShow} {v1:GState} {res:Bool},rec s v1=some res→aj prog 300 [.agg (GShow.encS s),.agg (GState.encS v1)] [] (.lit (.bool res)) []){s:GShow}{v1:GState}{res:Bool}(h:lU rec s v1=some res):aj prog 339 [.agg (GShow.encS s),.agg (GState.encS v1)] [] (.lit (.bool res)) []:=by
 refine co (hi:=IH) func339 rfl rfl ?_
 unfold lU at h
 obtain⟨r01,g1,h⟩:=ae h
 simp(config:=cS)only[go_sem]
 have g1:=ctr g1
 refine ai g1 ?_
 obtain⟨h2,h⟩:=cL h
 obtain⟨q04,l3,h⟩:=ae h
 simp(config:=cS)only[go_sem,eqF h2]
 refine ag (m1:=.mk) (m2:=.mk) [.nf [2,3,5,6] [128,192,576]] (xu s.nodes s.ties s.horizon v1.now v1.times v1.values r01) l3 ?_ ?_
 ·simp(config:=cS)only[go_sem,eqF h2]
 intro nb4 n_1 bb4 b4 gb4
 unfold iH at b4
 try dsimp only at b4
 obtain⟨h5,b4⟩|⟨h5,b4⟩:=aT b4
 ·obtain⟨r02,g6,b4⟩:=ae b4
  simp(config:=cS)only[go_sem,eqF h2,eqT h5]
  have g6:=ctr g6
  refine ai g6 ?_
  obtain⟨r03,g7,b4⟩:=ae b4
  simp(config:=cS)only[go_sem,eqF h2,eqT h5]
  refine ai (BU @hrec g7) ?_
  obtain⟨h8,b4⟩|⟨h8,b4⟩:=aT b4
  ·cases b4
   obtain rfl:=(aE gb4).symm
   try dsimp only at h
   cases h
   simp(config:=cS)only[go_sem,eqF h2,eqT h5,eZt h8]
  cases b4
  simp(config:=cS)only[go_sem,eqF h2,eqT h5,eZf h8]
  refine fz gb4 ?_
  simp(config:=cS)only[go_sem,eqF h2,eqT h5,eZf h8]
 cases b4
 obtain rfl:=(aE gb4).symm
 try dsimp only at h
 cases h
 simp(config:=cS)only[go_sem,eqF h2,eqF h5]
@[go_sem] def xv (s_0:List GNode)(s_1:List GTie)(s_2 v3_0:Int)(v3_1 v3_2 must may:List Int)(n:Int):St:=⟨[(2,.ptr 128 1 0 0),(3,.ptr 192 1 0 0),(5,.ref 1280 1 0 must.length),(6,.ref 1281 1 0 may.length),(7,.lit (.int .i64 n))],[(128,1,.var [.sl (ab GNode.encS s_0),.sl (ab GTie.enc s_1),.lit (.int .i64 s_2)]),(192,1,.var [.lit (.int .i64 v3_0),.sl (ab eI v3_1),.sl (ab eI v3_2)]),(1280,1,.row true (ab eI must)),(1281,1,.row true (ab eI may))],2⟩
@[go_sem] def hi300_11:DT:=.i1 0 (.i1 1 (.i1 2 (.r2 3 3 (.i0 6 [0,1,2] (.i0 7 [0,1,2] (.i0 8 [0] (.i2 9 (.i2 10 .nil))))))))
def II:Hint where
 acts:=fun _=>[]
 draws:=fun
  | 11=>⟨hi300_11,[[],[],[],[],[],[],[4,5],[3,4,5,6],[1,2,3,4,5,6,7],.range 9,.range 10],.range 11⟩
  | _=>⟨.nil,[],[]⟩
theorem VB (i:Nat):II.acts i=[]:=rfl
theorem VC (i:Nat):II.views i=none:=rfl
attribute[go_sem] VB VC ntmps300 results300
@[go_sem] theorem Yy:(II.draws 11).order=hi300_11:=rfl
theorem Eg {rec:GShow→GState→Option Bool}(hrec:∀ {s:GShow} {v1:GState} {res:Bool},rec s v1=some res→aj prog 300 [.agg (GShow.encS s),.agg (GState.encS v1)] [] (.lit (.bool res)) []){s:GShow}{v1:GState}{res:Bool}(h:lV rec s v1=some res):aj prog 300 [.agg (GShow.encS s),.agg (GState.encS v1)] [] (.lit (.bool res)) []:=by
 refine co (hi:=II) func300 rfl rfl ?_
 unfold lV at h
 obtain⟨r01,g1,h⟩:=ae h
 simp(config:=cS)only[go_sem]
 have g1:=ctr g1
 refine ai g1 ?_
 obtain⟨h2,h⟩|⟨h2,h⟩:=aT h
 ·cases h
  simp(config:=cS)only[go_sem,eZt h2]
 obtain⟨r02,g3,h⟩:=ae h
 simp(config:=cS)only[go_sem,eZf h2]
 have g3:=ctr g3
 refine ai g3 ?_
 obtain⟨h4,h⟩|⟨h4,h⟩:=aT h
 ·cases h
  simp(config:=cS)only[go_sem,eZf h2,eZt h4]
 obtain⟨r03,g5,h⟩:=ae h
 simp(config:=cS)only[go_sem,eZf h2,eZf h4]
 have g5:=ctr g5
 refine ai g5 ?_
 obtain⟨h6,h⟩|⟨h6,h⟩:=aT h
 ·cases h
  simp(config:=cS)only[go_sem,eZf h2,eZf h4,eZt h6]
 obtain⟨r04,g7,h⟩:=ae h
 simp(config:=cS)only[go_sem,eZf h2,eZf h4,eZf h6]
 have g7:=ctr g7
 refine ai g7 ?_
 obtain⟨q09,l8,h⟩:=ae h
 simp(config:=cS)only[go_sem,eZf h2,eZf h4,eZf h6]
 refine ag (m1:=.mk) (m2:=.mk) [.nf [2,3,5,6,7] [128,192,1280,1281]] (xv s.nodes s.ties s.horizon v1.now v1.times v1.values r04.1 r04.2) l8 ?_ ?_
 ·simp(config:=cS)only[go_sem,eZf h2,eZf h4,eZf h6]
 intro nb9 n_1 bb9 b9 gb9
 unfold iI at b9
 try dsimp only at b9
 obtain⟨h10,b9⟩:=cL b9
 obtain⟨h11,b9⟩|⟨h11,b9⟩:=aT b9
 ·obtain⟨r05,g12,b9⟩:=ae b9
  simp(config:=cS)only[go_sem,eZf h2,eZf h4,eZf h6,eqF h10,eqT h11]
  have g12:=ctr g12
  refine ai g12 ?_
  obtain⟨r06,g13,b9⟩:=ae b9
  simp(config:=cS)only[go_sem,eZf h2,eZf h4,eZf h6,eqF h10,eqT h11]
  have g13:=ctr g13
  refine ai g13 ?_
  obtain⟨r07,g14,b9⟩:=ae b9
  simp(config:=cS)only[go_sem,eZf h2,eZf h4,eZf h6,eqF h10,eqT h11]
  have g14:=ctr g14
  refine ai g14 ?_
  obtain⟨r08,g15,b9⟩:=ae b9
  simp(config:=cS)only[go_sem,eZf h2,eZf h4,eZf h6,eqF h10,eqT h11]
  refine ai (Ef @hrec g15) ?_
  obtain⟨h16,b9⟩|⟨h16,b9⟩:=aT b9
  ·cases b9
   simp(config:=cS)only[go_sem,eZf h2,eZf h4,eZf h6,eqF h10,eqT h11,eZt h16]
   refine fz gb9 ?_
   simp(config:=cS)only[go_sem,eZf h2,eZf h4,eZf h6,eqF h10,eqT h11,eZt h16]
  cases b9
  obtain rfl:=(aE gb9).symm
  try dsimp only at h
  cases h
  simp(config:=cS)only[go_sem,eZf h2,eZf h4,eZf h6,eqF h10,eqT h11,eZf h16]
 cases b9
 obtain rfl:=(aE gb9).symm
 try dsimp only at h
 cases h
 simp(config:=cS)only[go_sem,eZf h2,eZf h4,eZf h6,eqF h10,eqF h11]
theorem yu (fu:Nat):∀ {s:GShow} {v1:GState} {res:Bool},lW fu s v1=some res→aj prog 300 [.agg (GShow.encS s),.agg (GState.encS v1)] [] (.lit (.bool res)) []:=by
 induction fu with
 | zero=>intro _ _ _ h;cases h
 | succ fu ih=>intro _ _ _ h;exact Eg (@ih) h
theorem HE {s:GShow}{v1:GState}{res:Bool}(h:m_spec_l15Win s v1=some res):aj prog 300 [.agg (GShow.encS s),.agg (GState.encS v1)] [] (.lit (.bool res)) []:=yu 40 h
@[go_sem] def hi238_1:DT:=.r2 0 3 (.i1 3 (.i2 4 (.i0 5 [3] (.r2 6 3 .nil))))
def IJ:Hint where
 acts:=fun _=>[]
 draws:=fun
  | 1=>⟨hi238_1,[[],[0],[0,1],[0,1,2],[0,1,2],[0,1,2,4],.range 6,.range 7,.range 8],.range 9⟩
  | _=>⟨.nil,[],[]⟩
theorem VD (i:Nat):IJ.acts i=[]:=rfl
theorem VE (i:Nat):IJ.views i=none:=rfl
attribute[go_sem] VD VE ntmps238 results238
@[go_sem] theorem ZH:(IJ.draws 1).order=hi238_1:=rfl
instance k238 {s:GShow}:Ctr (lg s) (fun (res:Bool)=>aj prog 238 [.agg (GShow.encS s)] [] (.lit (.bool res)) []):=⟨by
 intro res h0
 refine co (hi:=IJ) func238 rfl rfl ?_
 unfold lg at h0
 obtain⟨r01,g0,h0⟩:=ae h0
 simp(config:=cS)only[go_sem, *]
 have g0:=ctr g0
 refine ai g0 ?_
 obtain⟨_,h0⟩|⟨_,h0⟩:=itB h0
 ·obtain⟨r02,g0,h0⟩:=ae h0
  simp(config:=cS)only[go_sem, *]
  have g0:=ctr g0
  refine ai g0 ?_
  obtain⟨r03,g0,h0⟩:=ae h0
  simp(config:=cS)only[go_sem, *]
  refine ai (HE g0) ?_
  exact run
 exact run⟩
@[go_sem] def vd (v22:Int)(s_0:List GNode)(s_1:List GTie)(s_2:Int)(v21:List Int):(Int × Int × (List Int))→St
 | (n,v23,h100024576)=>⟨[(1,.lit (.int .i64 n)),(2,.ptr 128 1 0 0),(4,.ptr 256 1 0 0),(6,.ptr 384 1 0 0),(21,.ref 1344 1 0 v21.length),(22,.lit (.int .i64 v22)),(23,.lit (.int .i64 v23))],[(128,1,.var [.sl (ab GNode.encS s_0),.sl (ab GTie.enc s_1),.lit (.int .i64 s_2)]),(256,1,.var [.lit (.slice none 0 0),.lit (.slice none 0 0)]),(384,1,.var [.ref 100024576 1 0 h100024576.length,.lit (.slice none 0 0)]),(100024576,1,.row true (ab eI h100024576)),(1344,1,.row true (ab eI v21))],2⟩
@[go_sem] def ve (s_0:List GNode)(s_1:List GTie)(s_2:Int)(h100024576:List Int):(Int × Int × (List Int))→St
 | (n,p,h100024577)=>⟨[(1,.lit (.int .i64 n)),(2,.ptr 128 1 0 0),(4,.ptr 256 1 0 0),(6,.ptr 384 1 0 0),(10,.lit (.int .i64 p))],[(128,1,.var [.sl (ab GNode.encS s_0),.sl (ab GTie.enc s_1),.lit (.int .i64 s_2)]),(256,1,.var [.lit (.slice none 0 0),.lit (.slice none 0 0)]),(384,1,.var [.ref 100024576 1 0 h100024576.length,.ref 100024577 1 0 h100024577.length]),(100024576,1,.row true (ab eI h100024576)),(100024577,1,.row true (ab eI h100024577))],2⟩
@[go_sem] def hi99_8:DT:=.i1 0 (.i1 1 (.r2 2 10 (.i0 12 [0,1] (.r2 13 3 .nil))))
@[go_sem] def hi99_7:DT:=.r2 0 15 .nil
def hi99:Hint where
 acts:=fun _=>[]
 draws:=fun
  | 7=>⟨hi99_7,[[],[0],[],[0,1,2],[0,1,2,3],.range 5,[],[6],[],[6,7,8],[6,7,8,9],[6,7,8,9,10],.range 12,.range 13,.range 14],.range 15⟩
  | 8=>⟨hi99_8,[[],[0],[],[2],[],[2,3,4],[2,3,4,5],[2,3,4,5,6],[],[],[8,9],[2,3,4,5,6,7,8,9,10],[2,3,4,5,6,7,8,9,10,11],.range 13,.range 14,.range 15],.range 16⟩
  | _=>⟨.nil,[],[]⟩
theorem XB (i:Nat):hi99.acts i=[]:=rfl
theorem XC (i:Nat):hi99.views i=none:=rfl
attribute[go_sem] XB XC ntmps99 results99
@[go_sem] theorem aaz:(hi99.draws 7).order=hi99_7:=rfl
@[go_sem] theorem aaA:(hi99.draws 8).order=hi99_8:=rfl
instance k99 {s:GShow} {n:Int}:Ctr (cN s n) (fun (res:GChoice × Bool)=>aj prog 99 [.agg (GShow.encS s),.lit (.int .i64 n)] [] (.tup [.agg [.ref 20000 1 0 res.1.lengths.length,.ref 20001 1 0 res.1.values.length],.lit (.bool res.2)]) [(20000,1,.row true (ab eI res.1.lengths)),(20001,1,.row true (ab eI res.1.values))]):=⟨by
 intro res h0
 refine aB (ra:=[.homeCell 256 0,.homeCell 256 1]) (md:=mdT) hT (hi:=hi99) func99 rfl rfl (by decide +kernel) (by simp) ?_
 unfold cN at h0
 obtain⟨r01,g0,h0⟩:=ae h0
 simp(config:=cS)only[go_sem, *]
 have g0:=ctr g0
 refine ai g0 ?_
 obtain⟨r02,g0,h0⟩:=ae h0
 simp(config:=cS)only[go_sem, *]
 have g0:=ctr g0
 refine ai g0 ?_
 obtain⟨_,h0⟩|⟨_,h0⟩:=itB h0
 ·obtain⟨r03,g0,h0⟩:=ae h0
  simp(config:=cS)only[go_sem, *]
  have g0:=ctr g0
  refine ai g0 ?_
  obtain⟨q08,l0,h0⟩:=ae h0
  simp(config:=cS)only[go_sem, *]
  refine ag (m1:=.mk) (m2:=.mk) [.homeCell 384 0,.nf [1,2,4,6,21,22,23] [128,256,384,100024576,1344]] (vd (r03.length:Int) s.nodes s.ties s.horizon r03) l0 ?_ ?_
  ·simp(config:=cS)only[go_sem, *]
  have k0:=h0
  clear h0 l0
  intro _ s0 _ h0 gb0
  obtain⟨n_1,v23_1,h100024576_1⟩:=s0
  unfold dR at h0
  try dsimp only at h0
  obtain⟨_,h0⟩|⟨_,h0⟩:=itP h0
  ·exact run
  cases h0
  obtain rfl:=(aE gb0).symm
  clear gb0
  have h0:=k0
  clear k0
  try dsimp only at h0
  obtain⟨q07,l0,h0⟩:=ae h0
  simp(config:=cS)only[go_sem, *]
  refine ag (m1:=.mk) (m2:=.mk) [.homeCell 384 1,.nf [1,2,4,6,10] [128,256,384,100024576,100024577]] (ve s.nodes s.ties s.horizon h100024576_1) l0 ?_ ?_
  ·simp(config:=cS)only[go_sem, *]
  have k0:=h0
  clear h0 l0
  intro _ s0 _ h0 gb0
  obtain⟨n_2,p_2,h100024577_2⟩:=s0
  unfold cQ at h0
  try dsimp only at h0
  exact run
 exact run⟩
@[go_sem] def vf (v28:Int)(s_0:List GNode)(s_1:List GTie)(s_2:Int)(v3_0 v3_1 v27:List Int)(v29:Int):St:=⟨[(2,.ptr 128 1 0 0),(3,.ptr 192 1 0 0),(27,.ref 896 1 0 v27.length),(28,.lit (.int .i64 v28)),(29,.lit (.int .i64 v29))],[(128,1,.var [.sl (ab GNode.encS s_0),.sl (ab GTie.enc s_1),.lit (.int .i64 s_2)]),(192,1,.var [.sl (ab eI v3_0),.sl (ab eI v3_1)]),(896,1,.row true (ab eI v27))],2⟩
@[go_sem] def vg (v55:List Int)(v56:Int)(s_0:List GNode)(s_1:List GTie)(s_2 v57:Int):St:=⟨[(2,.ptr 128 1 0 0),(55,.sl (ab eI v55)),(56,.lit (.int .i64 v56)),(57,.lit (.int .i64 v57))],[(128,1,.var [.sl (ab GNode.encS s_0),.sl (ab GTie.enc s_1),.lit (.int .i64 s_2)])],2⟩
@[go_sem] def hi156_9:DT:=.r2 0 19 .nil
def IK:Hint where
 acts:=fun _=>[]
 draws:=fun
  | 9=>⟨hi156_9,[[],[0],[],[0,1,2],[0,1,2,3],[],[5],[],[5,6,7],[5,6,7,8],[5,6,7,8,9],[],[11],[],[11,12,13],[11,12,13,14],[11,12,13,14,15],.range 17,.range 18],.range 19⟩
  | _=>⟨.nil,[],[]⟩
theorem VG (i:Nat):IK.acts i=[]:=rfl
theorem VH (i:Nat):IK.views i=none:=rfl
attribute[go_sem] VG VH ntmps156 results156
@[go_sem] theorem ZI:(IK.draws 9).order=hi156_9:=rfl
instance k156 {s:GShow} {v1:GChoice}:Ctr (gg s v1) (fun (res:Bool)=>aj prog 156 [.agg (GShow.encS s),.agg [.sl (ab eI v1.lengths),.sl (ab eI v1.values)]] [] (.lit (.bool res)) []):=⟨by
 intro res h0
 refine co (hi:=IK) func156 rfl rfl ?_
 unfold gg at h0
 obtain⟨r01,g0,h0⟩:=ae h0
 simp(config:=cS)only[go_sem, *]
 have g0:=ctr g0
 refine ai g0 ?_
 obtain⟨_,h0⟩|⟨_,h0⟩:=itB h0
 ·obtain⟨r02,g0,h0⟩:=ae h0
  simp(config:=cS)only[go_sem, *]
  have g0:=ctr g0
  refine ai g0 ?_
  obtain⟨_,h0⟩|⟨_,h0⟩:=itP h0
  ·obtain⟨_,h0⟩|⟨_,h0⟩:=itP h0
   ·obtain⟨q11,l0,h0⟩:=ae h0
    simp(config:=cS)only[go_sem, *]
    refine ag (m1:=.mk) (m2:=.mk) [.nf [2,3,27,28,29] [128,192,896]] (vf (r02.length:Int) s.nodes s.ties s.horizon v1.lengths v1.values r02) l0 ?_ ?_
    ·simp(config:=cS)only[go_sem, *]
    have k0:=h0
    clear h0 l0
    intro _ v29_1 _ h0 gb0
    unfold fD at h0
    try dsimp only at h0
    obtain⟨_,h0⟩|⟨_,h0⟩:=itP h0
    ·exact run
    cases h0
    obtain rfl:=(aE gb0).symm
    clear gb0
    have h0:=k0
    clear k0
    try dsimp only at h0
    obtain⟨q10,l0,h0⟩:=ae h0
    simp(config:=cS)only[go_sem, *]
    refine ag (m1:=.mk) (m2:=.mk) [.nf [2,55,56,57] [128]] (vg v1.values (v1.values.length:Int) s.nodes s.ties s.horizon) l0 ?_ ?_
    ·simp(config:=cS)only[go_sem, *]
    have k0:=h0
    clear h0 l0
    intro _ v57_2 _ h0 gb0
    unfold fE at h0
    try dsimp only at h0
    exact run
   exact run
  exact run
 exact run⟩
@[go_sem] def uA (tie v11:Int)(v4_0 v4_1 v10:List Int)(v12:Int):St:=⟨[(2,.lit (.int .i64 tie)),(4,.ptr 256 1 0 0),(10,.ref 640 1 0 v10.length),(11,.lit (.int .i64 v11)),(12,.lit (.int .i64 v12))],[(256,1,.var [.sl (ab eI v4_0),.sl (ab eI v4_1)]),(640,1,.row true (ab eI v10))],2⟩
instance k158 {s:GShow} {v1:GChoice} {tie:Int}:Ctr (kK s v1 tie) (fun (res:Int)=>aj prog 158 [.agg (GShow.encS s),.agg [.sl (ab eI v1.lengths),.sl (ab eI v1.values)],.lit (.int .i64 tie)] [] (.lit (.int .i64 res)) []):=⟨by
 intro res h0
 refine co (hi:=hi00) func158 rfl rfl ?_
 unfold kK at h0
 obtain⟨r01,g0,h0⟩:=ae h0
 simp(config:=cS)only[go_sem, *]
 have g0:=ctr g0
 refine ai g0 ?_
 obtain⟨q04,l0,h0⟩:=ae h0
 simp(config:=cS)only[go_sem, *]
 refine ag (m1:=.mk) (m2:=.mk) [.nf [2,4,10,11,12] [256,640]] (uA tie (r01.length:Int) v1.lengths v1.values r01) l0 ?_ ?_
 ·simp(config:=cS)only[go_sem, *]
 have k0:=h0
 clear h0 l0
 intro _ v12_1 _ h0 gb0
 unfold eV at h0
 try dsimp only at h0
 exact run⟩
@[go_sem] def sV (v29:List GNode)(v30:Int)(s_1:List GTie)(s_2:Int)(v3_0 v3_1:List Int):(Int × (List Bool) × (List GLink))→St
 | (v31,happens,h100024577)=>⟨[(2,.ptr 128 1 0 0),(3,.ptr 192 1 0 0),(4,.ptr 256 1 0 0),(6,.ptr 384 1 0 0),(7,.ref 1728 1 0 happens.length),(29,.sl (ab GNode.encS v29)),(30,.lit (.int .i64 v30)),(31,.lit (.int .i64 v31))],[(128,1,.var [.sl (ab GNode.encS v29),.sl (ab GTie.enc s_1),.lit (.int .i64 s_2)]),(192,1,.var [.sl (ab eI v3_0),.sl (ab eI v3_1)]),(256,1,.var [.lit (.int .i64 0),.lit (.slice none 0 0)]),(384,1,.var [.lit (.int .i64 v30),.ref 100024577 1 0 h100024577.length]),(100024577,1,.row true (ab GLink.enc h100024577)),(1728,1,.row true (ab eB happens))],2⟩
@[go_sem] def sW (v61:List GTie)(v62:Int)(s_0:List GNode)(s_2:Int)(v3_0 v3_1:List Int)(out_0:Int)(happens:List Bool):(Int × (List GLink))→St
 | (v63,h100024577)=>⟨[(2,.ptr 128 1 0 0),(3,.ptr 192 1 0 0),(4,.ptr 256 1 0 0),(6,.ptr 384 1 0 0),(7,.ref 1728 1 0 happens.length),(61,.sl (ab GTie.enc v61)),(62,.lit (.int .i64 v62)),(63,.lit (.int .i64 v63))],[(128,1,.var [.sl (ab GNode.encS s_0),.sl (ab GTie.enc v61),.lit (.int .i64 s_2)]),(192,1,.var [.sl (ab eI v3_0),.sl (ab eI v3_1)]),(256,1,.var [.lit (.int .i64 0),.lit (.slice none 0 0)]),(384,1,.var [.lit (.int .i64 out_0),.ref 100024577 1 0 h100024577.length]),(100024577,1,.row true (ab GLink.enc h100024577)),(1728,1,.row true (ab eB happens))],2⟩
@[go_sem] def sX (v114:Int)(s_0:List GNode)(s_1:List GTie)(s_2:Int)(happens:List Bool):(Int × (List GLink))→St
 | (v115,h100024577)=>⟨[(2,.ptr 128 1 0 0),(4,.ptr 256 1 0 0),(6,.ptr 384 1 0 0),(7,.ref 1728 1 0 happens.length),(114,.lit (.int .i64 v114)),(115,.lit (.int .i64 v115))],[(128,1,.var [.sl (ab GNode.encS s_0),.sl (ab GTie.enc s_1),.lit (.int .i64 s_2)]),(256,1,.var [.lit (.int .i64 0),.lit (.slice none 0 0)]),(384,1,.var [.lit (.int .i64 v114),.ref 100024577 1 0 h100024577.length]),(100024577,1,.row true (ab GLink.enc h100024577)),(1728,1,.row true (ab eB happens))],2⟩
@[go_sem] def sY (i:Int)(v132:List GNode)(v133:Int)(v140:List Int)(v141:Int)(s_1:List GTie)(s_2:Int)(happens:List Bool):(Int × (List GLink))→St
 | (v142,h100024577)=>⟨[(2,.ptr 128 1 0 0),(4,.ptr 256 1 0 0),(6,.ptr 384 1 0 0),(7,.ref 1728 1 0 happens.length),(14,.lit (.int .i64 i)),(132,.sl (ab GNode.encS v132)),(133,.lit (.int .i64 v133)),(134,.lit (.int .i64 i)),(140,.sl (ab eI v140)),(141,.lit (.int .i64 v141)),(142,.lit (.int .i64 v142))],[(128,1,.var [.sl (ab GNode.encS v132),.sl (ab GTie.enc s_1),.lit (.int .i64 s_2)]),(256,1,.var [.lit (.int .i64 0),.lit (.slice none 0 0)]),(384,1,.var [.lit (.int .i64 v133),.ref 100024577 1 0 h100024577.length]),(100024577,1,.row true (ab GLink.enc h100024577)),(1728,1,.row true (ab eB happens))],2⟩
@[go_sem] def sZ (v132:List GNode)(v133:Int)(s_1:List GTie)(s_2:Int)(happens:List Bool):(Int × (List GLink))→St
 | (v134,h100024577)=>⟨[(2,.ptr 128 1 0 0),(4,.ptr 256 1 0 0),(6,.ptr 384 1 0 0),(7,.ref 1728 1 0 happens.length),(132,.sl (ab GNode.encS v132)),(133,.lit (.int .i64 v133)),(134,.lit (.int .i64 v134))],[(128,1,.var [.sl (ab GNode.encS v132),.sl (ab GTie.enc s_1),.lit (.int .i64 s_2)]),(256,1,.var [.lit (.int .i64 0),.lit (.slice none 0 0)]),(384,1,.var [.lit (.int .i64 v133),.ref 100024577 1 0 h100024577.length]),(100024577,1,.row true (ab GLink.enc h100024577)),(1728,1,.row true (ab eB happens))],2⟩
@[go_sem] def hi60_35:DT:=.i1 0 (.i1 1 (.i1 2 (.i2 3 (.i2 6 (.i2 7 (.i0 4 [0,1,2] (.i0 5 [0,1] (.i2 8 (.i0 9 [0,1] (.r2 10 3 .nil))))))))))
def hi60:Hint where
 acts:=fun _=>[]
 draws:=fun
  | 35=>⟨hi60_35,[[],[0],[],[],[3],[2,3,4],[],[],[2,3,4,5,6,7],[2,3,4,5,6,7,8],.range 10,.range 11,.range 12],.range 13⟩
  | _=>⟨.nil,[],[]⟩
theorem XD (i:Nat):hi60.acts i=[]:=rfl
theorem XE (i:Nat):hi60.views i=none:=rfl
attribute[go_sem] XD XE ntmps60 results60
@[go_sem] theorem ZJ:(hi60.draws 35).order=hi60_35:=rfl
instance k60 {s:GShow} {v1:GChoice}:Ctr (iX s v1) (fun (res:GSimple × Bool)=>aj prog 60 [.agg (GShow.encS s),.agg [.sl (ab eI v1.lengths),.sl (ab eI v1.values)]] [] (.tup [.agg [.lit (.int .i64 res.1.events),.ref 20000 1 0 res.1.links.length],.lit (.bool res.2)]) [(20000,1,.row true (ab GLink.enc res.1.links))]):=⟨by
 intro res h0
 refine aB (ra:=[.homeCell 256 1]) (md:=mdT) hT (hi:=hi60) func60 rfl rfl (by decide +kernel) (by simp) ?_
 unfold iX at h0
 obtain⟨r01,g0,h0⟩:=ae h0
 simp(config:=cS)only[go_sem, *]
 have g0:=ctr g0
 refine ai g0 ?_
 obtain⟨_,h0⟩|⟨_,h0⟩:=itB h0
 ·obtain⟨q20,l0,h0⟩:=ae h0
  simp(config:=cS)only[go_sem, *]
  refine ag (m1:=.mk) (m2:=.mk) [.homeCell 384 1,.nf [2,3,4,6,7,29,30,31] [128,192,256,384,100024577,1728]] (sV s.nodes (s.nodes.length:Int) s.ties s.horizon v1.lengths v1.values) l0 ?_ ?_
  ·simp(config:=cS)only[go_sem, *]
  have k0:=h0
  clear h0 l0
  intro _ s0 _ h0 gb0
  obtain⟨v31_1,happens_1,h100024577_1⟩:=s0
  unfold dD at h0
  try dsimp only at h0
  obtain⟨_,h0⟩|⟨_,h0⟩:=itP h0
  ·obtain⟨x02,_,_,_,h0⟩:=gtI h0
   obtain⟨r03,g0,h0⟩:=ae h0
   simp(config:=cS)only[go_sem, *]
   have g0:=ctr g0
   refine ai g0 ?_
   obtain⟨_,h0⟩:=ckP h0
   obtain⟨_,h0⟩:=ckP h0
   obtain⟨x04,a1,a2,a3,h0⟩:=gtI h0
   try simp only[List.length_append,List.length_cons,List.length_nil,Nat.zero_add,Nat.reduceAdd]at a1
   try simp only[List.length_append,List.length_cons,List.length_nil,Nat.zero_add,Nat.reduceAdd]at a2
   try simp only[List.length_append,List.length_cons,List.length_nil,Nat.zero_add,Nat.reduceAdd]at a3
   exact run
  cases h0
  obtain rfl:=(aE gb0).symm
  clear gb0
  have h0:=k0
  clear k0
  try dsimp only at h0
  obtain⟨q19,l0,h0⟩:=ae h0
  simp(config:=cS)only[go_sem, *]
  refine ag (m1:=.mk) (m2:=.mk) [.nf [2,3,4,6,7,61,62,63] [128,192,256,384,100024577,1728]] (sW s.ties (s.ties.length:Int) s.nodes s.horizon v1.lengths v1.values (s.nodes.length:Int) happens_1) l0 ?_ ?_
  ·simp(config:=cS)only[go_sem, *]
  have k0:=h0
  clear h0 l0
  intro _ s0 _ h0 gb0
  obtain⟨v63_2,h100024577_2⟩:=s0
  unfold dE at h0
  try dsimp only at h0
  obtain⟨_,h0⟩|⟨_,h0⟩:=itP h0
  ·exact run
  cases h0
  obtain rfl:=(aE gb0).symm
  clear gb0
  have h0:=k0
  clear k0
  try dsimp only at h0
  obtain⟨q18,l0,h0⟩:=ae h0
  simp(config:=cS)only[go_sem, *]
  refine ag (m1:=.mk) (m2:=.mk) [.nf [2,4,6,7,114,115] [128,256,384,100024577,1728]] (sX (s.nodes.length:Int) s.nodes s.ties s.horizon happens_1) l0 ?_ ?_
  ·simp(config:=cS)only[go_sem, *]
  have k0:=h0
  clear h0 l0
  intro _ s0 _ h0 gb0
  obtain⟨v115_3,h100024577_3⟩:=s0
  unfold dF at h0
  try dsimp only at h0
  obtain⟨_,h0⟩|⟨_,h0⟩:=itP h0
  ·exact run
  cases h0
  obtain rfl:=(aE gb0).symm
  clear gb0
  have h0:=k0
  clear k0
  try dsimp only at h0
  obtain⟨q17,l0,h0⟩:=ae h0
  simp(config:=cS)only[go_sem, *]
  refine ag (m1:=.mk) (m2:=.mk) [.nf [2,4,6,7,132,133,134] [128,256,384,100024577,1728]] (sZ s.nodes (s.nodes.length:Int) s.ties s.horizon happens_1) l0 ?_ ?_
  ·simp(config:=cS)only[go_sem, *]
  have k0:=h0
  clear h0 l0
  intro _ s0 _ h0 gb0
  obtain⟨v134_4,h100024577_4⟩:=s0
  unfold dH at h0
  try dsimp only at h0
  obtain⟨_,h0⟩|⟨_,h0⟩:=itP h0
  ·obtain⟨x10,_,_,_,h0⟩:=gtI h0
   obtain⟨q15,l0,h0⟩:=ae h0
   simp(config:=cS)only[go_sem, *]
   refine ag (m1:=.mk) (m2:=.mk) [.nf [2,4,6,7,14,132,133,134,140,141,142] [128,256,384,100024577,1728]] (sY v134_4 s.nodes (s.nodes.length:Int) x10.label (x10.label.length:Int) s.ties s.horizon happens_1) l0 ?_ ?_
   ·simp(config:=cS)only[go_sem, *]
   have k0:=h0
   clear h0 l0
   intro _ s0 _ h0 gb0
   obtain⟨v142_5,h100024577_5⟩:=s0
   unfold dG at h0
   try dsimp only at h0
   exact run
  exact run
 exact run⟩
instance k343 {s:GShow} {v1:GChoice}:Ctr (li s v1) (fun (res:Bool)=>aj prog 343 [.agg (GShow.encS s),.agg [.sl (ab eI v1.lengths),.sl (ab eI v1.values)]] [] (.lit (.bool res)) []):=⟨by
 intro res h0
 refine co (hi:=hi00) func343 rfl rfl ?_
 unfold li at h0
 exact run⟩
@[go_sem] def tc (s_0:List GNode)(s_1:List GTie)(s_2 n:Int):St:=⟨[(1,.ptr 64 1 0 0),(3,.lit (.int .i64 n))],[(64,1,.var [.sl (ab GNode.encS s_0),.sl (ab GTie.enc s_1),.lit (.int .i64 s_2)])],2⟩
instance k302 {s:GShow}:Ctr (jo s) (fun (res:Int)=>aj prog 302 [.agg (GShow.encS s)] [] (.lit (.int .i64 res)) []):=⟨by
 intro res h0
 refine co (hi:=hi00) func302 rfl rfl ?_
 unfold jo at h0
 obtain⟨q04,l0,h0⟩:=ae h0
 simp(config:=cS)only[go_sem, *]
 refine ag (m1:=.mk) (m2:=.mk) [.nf [1,3] [64]] (tc s.nodes s.ties s.horizon) l0 ?_ ?_
 ·simp(config:=cS)only[go_sem, *]
 have k0:=h0
 clear h0 l0
 intro _ n_1 _ h0 gb0
 unfold dO at h0
 try dsimp only at h0
 exact run⟩
instance k239 {s:GShow}:Ctr (nS s) (fun (res:Bool)=>aj prog 239 [.agg (GShow.encS s)] [] (.lit (.bool res)) []):=⟨by
 intro res h0
 refine co (hi:=hi00) func239 rfl rfl ?_
 unfold nS at h0
 exact run⟩
instance k149 {s:GShow}:Ctr (iJ s) (fun (res:Int)=>aj prog 149 [.agg (GShow.encS s)] [] (.lit (.int .i64 res)) []):=⟨by
 intro res h0
 refine co (hi:=hi00) func149 rfl rfl ?_
 unfold iJ at h0
 exact run⟩
instance k148 {class_:Int}:Ctr (nc class_) (fun (res:ByteArray)=>aj prog 148 [.lit (.int .i64 class_)] [] (.lit (.string res)) []):=⟨by
 intro res h0
 refine co (hi:=hi00) func148 rfl rfl ?_
 unfold nc at h0
 obtain⟨r01,g0,h0⟩:=ae h0
 simp(config:=cS)only[go_sem, *]
 have g0:=ctr g0
 refine ai g0 ?_
 obtain⟨_,h0⟩|⟨_,h0⟩:=itB h0
 ·obtain⟨x02,a1,a2,a3,h0⟩:=gtI h0
  try simp only[List.length_append,List.length_cons,List.length_nil,Nat.zero_add,Nat.reduceAdd]at a1
  try simp only[List.length_append,List.length_cons,List.length_nil,Nat.zero_add,Nat.reduceAdd]at a2
  try simp only[List.length_append,List.length_cons,List.length_nil,Nat.zero_add,Nat.reduceAdd]at a3
  exact run
 exact run⟩
@[go_sem] def Ao (by_:ByteArray)(v8:List ByteArray)(v9:Int):(ByteArray × Int)→St
 | (s,v10)=>⟨[(1,.lit (.string by_)),(5,.lit (.string s)),(8,.sl (ab eS v8)),(9,.lit (.int .i64 v9)),(10,.lit (.int .i64 v10))],[],2⟩
instance k150 {l:List ByteArray} {by_:ByteArray}:Ctr (mg l by_) (fun (res:ByteArray)=>aj prog 150 [.sl (ab eS l),.lit (.string by_)] [] (.lit (.string res)) []):=⟨by
 intro res h0
 refine co (hi:=hi00) func150 rfl rfl ?_
 unfold mg at h0
 obtain⟨q02,l0,h0⟩:=ae h0
 simp(config:=cS)only[go_sem, *]
 refine ag (m1:=.mk) (m2:=.mk) [.nf [1,5,8,9,10] []] (Ao by_ l (l.length:Int)) l0 ?_ ?_
 ·simp(config:=cS)only[go_sem, *]
 have k0:=h0
 clear h0 l0
 intro _ s0 _ h0 gb0
 obtain⟨s_1,v10_1⟩:=s0
 unfold kC at h0
 try dsimp only at h0
 obtain⟨_,h0⟩|⟨_,h0⟩:=itP h0
 ·obtain⟨x01,_,_,_,h0⟩:=gtI h0
  obtain⟨_,h0⟩|⟨_,h0⟩:=itP h0
  ·obtain⟨_,h0⟩:=ckP h0
   obtain⟨a1,h0⟩:=ckP h0
   try simp(config:=cS)only[go_sem]at a1
   exact run
  exact run
 exact run⟩
@[go_sem] def hi52_3:DT:=.r2 0 3 (.i1 4 (.i1 8 (.i1 9 (.i1 10 (.i1 12 (.i1 16 (.i1 19 (.i0 3 [4,8,9,10,12,16,19] (.i0 5 [8,9,10,12,16,19] (.i2 6 (.i0 7 [8,9,10,12,16,19] (.i0 11 [12,16,19] (.i0 13 [16,19] (.i2 14 (.i0 15 [16,19] (.i0 17 [19] (.i0 18 [19] (.r2 20 4 .nil))))))))))))))))))
def hi52:Hint where
 acts:=fun _=>[]
 draws:=fun
  | 3=>⟨hi52_3,[[],[0],[0,1],[0,1,2],[],.range 5,.range 6,.range 7,[],[8],[8,9],.range 11,[],.range 13,.range 14,.range 15,[],.range 17,.range 18,[],.range 20,.range 21,.range 22,.range 23],.range 24⟩
  | _=>⟨.nil,[],[]⟩
theorem XF (i:Nat):hi52.acts i=[]:=rfl
theorem XG (i:Nat):hi52.views i=none:=rfl
attribute[go_sem] XF XG ntmps52 results52
@[go_sem] theorem aaB:(hi52.draws 3).order=hi52_3:=rfl
instance k52 {s:GShow}:Ctr (lj s) (fun (res:ByteArray)=>aj prog 52 [.agg (GShow.encS s)] [] (.lit (.string res)) []):=⟨by
 intro res h0
 refine co (hi:=hi52) func52 rfl rfl ?_
 unfold lj at h0
 obtain⟨r01,g0,h0⟩:=ae h0
 simp(config:=cS)only[go_sem, *]
 have g0:=ctr g0
 refine ai g0 ?_
 obtain⟨_,h0⟩|⟨_,h0⟩:=itB h0
 ·obtain⟨r02,g0,h0⟩:=ae h0
  simp(config:=cS)only[go_sem, *]
  refine ai (kG g0) ?_
  obtain⟨r03,g0,h0⟩:=ae h0
  simp(config:=cS)only[go_sem, *]
  have g0:=ctr g0
  refine ai g0 ?_
  obtain⟨r04,g0,h0⟩:=ae h0
  simp(config:=cS)only[go_sem, *]
  refine ai (kG g0) ?_
  obtain⟨r05,g0,h0⟩:=ae h0
  simp(config:=cS)only[go_sem, *]
  refine ai (kG g0) ?_
  obtain⟨r06,g0,h0⟩:=ae h0
  simp(config:=cS)only[go_sem, *]
  have g0:=ctr g0
  refine ai g0 ?_
  obtain⟨r07,g0,h0⟩:=ae h0
  simp(config:=cS)only[go_sem, *]
  refine ai (kG g0) ?_
  obtain⟨r08,g0,h0⟩:=ae h0
  simp(config:=cS)only[go_sem, *]
  have g0:=ctr g0
  refine ai g0 ?_
  obtain⟨r09,g0,h0⟩:=ae h0
  simp(config:=cS)only[go_sem, *]
  refine ai (kG g0) ?_
  exact run
 exact run⟩
@[go_sem] def xw (s:ByteArray)(i:Int):St:=⟨[(0,.lit (.string s)),(3,.lit (.int .i64 i))],[],2⟩
@[go_sem] def hi220_4:DT:=.r2 0 22 .nil
def IL:Hint where
 acts:=fun _=>[]
 draws:=fun
  | 4=>⟨hi220_4,[[],[],[0,1],[0,1,2],[0,1,2,3],.range 5,.range 5,.range 7,.range 8,.range 9,[],[],[10,11],[10,11,12],[0,1,2,3,4,10,11,12,13],[0,1,2,3,4,10,11,12,13,14],[0,1,2,3,4,10,11,12,13,14],[0,1,2,3,4,10,11,12,13,14,15,16],[0,1,2,3,4,10,11,12,13,14,15,16,17],[0,1,2,3,4,10,11,12,13,14,15,16,17,18],.range 15,.range 21],[0,1,2,3,4,5,6,7,8,9,10,11,12,13,14,16,17,18,19,20,15,21]⟩
  | _=>⟨.nil,[],[]⟩
theorem VI (i:Nat):IL.acts i=[]:=rfl
theorem VJ (i:Nat):IL.views i=none:=rfl
attribute[go_sem] VI VJ ntmps220 results220
@[go_sem] theorem ZK:(IL.draws 4).order=hi220_4:=rfl
instance k220 {s:ByteArray}:Ctr (nF s) (fun (res:Bool)=>aj prog 220 [.lit (.string s)] [] (.lit (.bool res)) []):=⟨by
 intro res h0
 refine co (hi:=IL) func220 rfl rfl ?_
 unfold nF at h0
 obtain⟨q02,l0,h0⟩:=ae h0
 simp(config:=cS)only[go_sem, *]
 refine ag (m1:=.mk) (m2:=.mk) [.nf [0,3] []] (xw s) l0 ?_ ?_
 ·simp(config:=cS)only[go_sem, *]
 have k0:=h0
 clear h0 l0
 intro _ i_1 _ h0 gb0
 unfold iz at h0
 try dsimp only at h0
 exact run⟩
instance k215 {l:Int}:Ctr (fi l) (fun (res:Int)=>aj prog 215 [.lit (.int .i64 l)] [] (.lit (.int .i64 res)) []):=⟨by
 intro res h0
 refine co (hi:=hi00) func215 rfl rfl ?_
 unfold fi at h0
 exact run⟩
@[go_sem] def wg (l:List Int)(v6 v7:Int):St:=⟨[(0,.sl (ab eI l)),(5,.sl (ab eI l)),(6,.lit (.int .i64 v6)),(7,.lit (.int .i64 v7))],[],2⟩
instance k214 {l:List Int}:Ctr (fH l) (fun (res:Bool)=>aj prog 214 [.sl (ab eI l)] [] (.lit (.bool res)) []):=⟨by
 intro res h0
 refine co (hi:=hi00) func214 rfl rfl ?_
 unfold fH at h0
 obtain⟨q05,l0,h0⟩:=ae h0
 simp(config:=cS)only[go_sem, *]
 refine ag (m1:=.mk) (m2:=.mk) [.nf [0,5,6,7] []] (wg l (l.length:Int)) l0 ?_ ?_
 ·simp(config:=cS)only[go_sem, *]
 have k0:=h0
 clear h0 l0
 intro _ v7_1 _ h0 gb0
 unfold gK at h0
 try dsimp only at h0
 exact run⟩
instance k266 {n:GNode}:Ctr (nG n) (fun (res:Bool)=>aj prog 266 [.agg (GNode.encS n)] [] (.lit (.bool res)) []):=⟨by
 intro res h0
 refine co (hi:=hi00) func266 rfl rfl ?_
 unfold nG at h0
 exact run⟩
@[go_sem] def vh (v35:List GNode)(v36 v37:Int)(v48:List GNode)(v49:Int)(s_1:List GTie)(s_2:Int)(n_0:ByteArray)(n_1:List Int)(n_2 v50:Int):St:=⟨[(1,.ptr 64 1 0 0),(4,.ptr 256 1 0 0),(35,.sl (ab GNode.encS v35)),(36,.lit (.int .i64 v36)),(37,.lit (.int .i64 v37)),(48,.sl (ab GNode.encS v48)),(49,.lit (.int .i64 v49)),(50,.lit (.int .i64 v50))],[(64,1,.var [.sl (ab GNode.encS v35),.sl (ab GTie.enc s_1),.lit (.int .i64 s_2)]),(256,1,.var [.lit (.string n_0),.sl (ab eI n_1),.lit (.int .i64 n_2)])],2⟩
@[go_sem] def vi (v35:List GNode)(v36:Int)(s_1:List GTie)(s_2 v37:Int):St:=⟨[(1,.ptr 64 1 0 0),(35,.sl (ab GNode.encS v35)),(36,.lit (.int .i64 v36)),(37,.lit (.int .i64 v37))],[(64,1,.var [.sl (ab GNode.encS v35),.sl (ab GTie.enc s_1),.lit (.int .i64 s_2)])],2⟩
instance k189 {s:GShow}:Ctr (lF s) (fun (res:Bool)=>aj prog 189 [.agg (GShow.encS s)] [] (.lit (.bool res)) []):=⟨by
 intro res h0
 refine co (hi:=hi00) func189 rfl rfl ?_
 unfold lF at h0
 obtain⟨_,h0⟩|⟨_,h0⟩:=itP h0
 ·exact run
 obtain⟨_,h0⟩|⟨_,h0⟩:=itP h0
 ·exact run
 obtain⟨x01,g1,h0⟩:=ae h0
 have:=fo (k:=0) g1
 obtain⟨_,h0⟩|⟨_,h0⟩:=itP h0
 ·exact run
 obtain⟨_,h0⟩|⟨_,h0⟩:=itP h0
 ·obtain⟨q06,l0,h0⟩:=ae h0
  simp(config:=cS)only[go_sem, *]
  refine ag (m1:=.mk) (m2:=.mk) [.nf [1,35,36,37] [64]] (vi s.nodes (s.nodes.length:Int) s.ties s.horizon) l0 ?_ ?_
  ·simp(config:=cS)only[go_sem, *]
  have k0:=h0
  clear h0 l0
  intro _ v37_1 _ h0 gb0
  unfold fK at h0
  try dsimp only at h0
  obtain⟨_,h0⟩|⟨_,h0⟩:=itP h0
  ·obtain⟨x02,_,_,_,h0⟩:=gtI h0
   obtain⟨r03,g0,h0⟩:=ae h0
   simp(config:=cS)only[go_sem, *]
   have g0:=ctr g0
   refine ai g0 ?_
   obtain⟨_,h0⟩|⟨_,h0⟩:=itB h0
   ·obtain⟨_,h0⟩:=ckP h0
    obtain⟨_,h0⟩:=ckP h0
    obtain⟨q05,l0,h0⟩:=ae h0
    simp(config:=cS)only[go_sem, *]
    refine ag (m1:=.mk) (m2:=.mk) [.nf [1,4,35,36,37,48,49,50] [64,256]] (vh s.nodes (s.nodes.length:Int) v37_1 (s.nodes.take v37_1.toNat) (((s.nodes.take v37_1.toNat).length:Nat):Int) s.ties s.horizon x02.name x02.label x02.watch) l0 ?_ ?_
    ·simp(config:=cS)only[go_sem, *]
    have k0:=h0
    clear h0 l0
    intro _ v50_2 _ h0 gb0
    unfold fJ at h0
    try dsimp only at h0
    exact run
   exact run
  exact run
 exact run⟩
instance k107 {n:Int} {node:Int}:Ctr (cj n node) (fun (res:Bool)=>aj prog 107 [.lit (.int .i64 n),.lit (.int .i64 node)] [] (.lit (.bool res)) []):=⟨by
 intro res h0
 refine co (hi:=hi00) func107 rfl rfl ?_
 unfold cj at h0
 exact run⟩
instance k267 {n:Int}:Ctr (lr n) (fun (res:Bool)=>aj prog 267 [.lit (.int .i64 n)] [] (.lit (.bool res)) []):=⟨by
 intro res h0
 refine co (hi:=hi00) func267 rfl rfl ?_
 unfold lr at h0
 exact run⟩
@[go_sem] def td (v0 v1:List Int)(v12 v13:Int):St:=⟨[(0,.sl (ab eI v0)),(1,.sl (ab eI v1)),(12,.lit (.int .i64 v12)),(13,.lit (.int .i64 v13))],[],2⟩
@[go_sem] def hi268_6:DT:=.r2 0 9 .nil
def IM:Hint where
 acts:=fun _=>[]
 draws:=fun
  | 6=>⟨hi268_6,[[],[],[0,1],[0,1,2],[],[],[4,5],[4,5,6],.range 8],.range 9⟩
  | _=>⟨.nil,[],[]⟩
theorem VK (i:Nat):IM.acts i=[]:=rfl
theorem VL (i:Nat):IM.views i=none:=rfl
attribute[go_sem] VK VL ntmps268 results268
@[go_sem] theorem ZL:(IM.draws 6).order=hi268_6:=rfl
instance k268 {v0:List Int} {v1:List Int}:Ctr (iZ v0 v1) (fun (res:Bool)=>aj prog 268 [.sl (ab eI v0),.sl (ab eI v1)] [] (.lit (.bool res)) []):=⟨by
 intro res h0
 refine co (hi:=IM) func268 rfl rfl ?_
 unfold iZ at h0
 obtain⟨_,h0⟩|⟨_,h0⟩:=itP h0
 ·obtain⟨q03,l0,h0⟩:=ae h0
  simp(config:=cS)only[go_sem, *]
  refine ag (m1:=.mk) (m2:=.mk) [.nf [0,1,12,13] []] (td v0 v1 (v0.length:Int)) l0 ?_ ?_
  ·simp(config:=cS)only[go_sem, *]
  have k0:=h0
  clear h0 l0
  intro _ v13_1 _ h0 gb0
  unfold dJ at h0
  try dsimp only at h0
  exact run
 exact run⟩
@[go_sem] def qK (v0:List GTie)(f_v1:Nat)(k_v1:List AV)(v7 v8:Int):St:=⟨[(0,.sl (ab GTie.enc v0)),(1,.fn f_v1 k_v1),(7,.lit (.int .i64 v7)),(8,.lit (.int .i64 v8))],[],2⟩
theorem ph {v0:List GTie}{v1:GTie→Option Bool}{f_v1:Nat}{k_v1:List AV}(hp_v1:∀ y0 r,v1 y0=some r→aj prog f_v1 ([.agg (GTie.enc y0)]++k_v1) [] (.lit (.bool r)) [])(hc_v1:KC k_v1)(hm_v1:∀ a,mdT f_v1 a=⟨[],false⟩)(hk_v1:spf f_v1=false){res:Int}(h:dv v0 v1=some res):aj prog 187 [.sl (ab GTie.enc v0),.fn f_v1 k_v1] [] (.lit (.int .i64 res)) []:=by
 refine co (hi:=hi00) func187 rfl rfl ?_
 unfold dv at h
 obtain⟨q03,l1,h⟩:=ae h
 simp(config:=cS)only[go_sem,hc_v1.1,hc_v1.2,hm_v1,hk_v1]
 refine ag (m1:=.mk) (m2:=.mk) [.nf [0,1,7,8] []] (qK v0 f_v1 k_v1 (v0.length:Int)) l1 ?_ ?_
 ·simp(config:=cS)only[go_sem,hc_v1.1,hc_v1.2,hm_v1,hk_v1]
 intro nb2 v8_1 bb2 b2 gb2
 unfold cB at b2
 try dsimp only at b2
 obtain⟨h3,b2⟩|⟨h3,b2⟩:=aT b2
 ·obtain⟨x01,g4,b2⟩:=ae b2
  obtain⟨h5,h6,h7⟩:=eO g4
  obtain⟨r02,g8,b2⟩:=ae b2
  simp(config:=cS)only[go_sem,hc_v1.1,hc_v1.2,hm_v1,hk_v1,eqT h3,h5,h6,h7]
  refine ai (hp_v1 _ _ g8) ?_
  obtain⟨h9,b2⟩|⟨h9,b2⟩:=aT b2
  ·cases b2
   obtain rfl:=(aE gb2).symm
   try dsimp only at h
   cases h
   simp(config:=cS)only[go_sem,hc_v1.1,hc_v1.2,hm_v1,hk_v1,eqT h3,h5,h6,h7,eZt h9]
  cases b2
  simp(config:=cS)only[go_sem,hc_v1.1,hc_v1.2,hm_v1,hk_v1,eqT h3,h5,h6,h7,eZf h9]
  refine fz gb2 ?_
  simp(config:=cS)only[go_sem,hc_v1.1,hc_v1.2,hm_v1,hk_v1,eqT h3,h5,h6,h7,eZf h9]
 cases b2
 obtain rfl:=(aE gb2).symm
 try dsimp only at h
 cases h
 simp(config:=cS)only[go_sem,hc_v1.1,hc_v1.2,hm_v1,hk_v1,eqF h3]
theorem oc {v0:List GTie}{v1:GTie→Option Bool}{f_v1:Nat}{k_v1:List AV}(hp_v1:∀ y0 r,v1 y0=some r→aj prog f_v1 ([.agg (GTie.enc y0)]++k_v1) [] (.lit (.bool r)) [])(hc_v1:KC k_v1)(hm_v1:∀ a,mdT f_v1 a=⟨[],false⟩)(hk_v1:spf f_v1=false){res:Bool}(h:bP v0 v1=some res):aj prog 224 [.sl (ab GTie.enc v0),.fn f_v1 k_v1] [] (.lit (.bool res)) []:=by
 refine co (hi:=hi00) func224 rfl rfl ?_
 unfold bP at h
 obtain⟨r01,g1,h⟩:=ae h
 simp(config:=cS)only[go_sem,hc_v1.1,hc_v1.2,hm_v1,hk_v1]
 refine ai (ph hp_v1 hc_v1 hm_v1 hk_v1 g1) ?_
 cases h
 simp(config:=cS)only[go_sem,hc_v1.1,hc_v1.2,hm_v1,hk_v1]
instance k269 {u:GTie} {t:GTie}:Ctr (jG u t) (fun (res:Bool)=>aj prog 269 [.agg (GTie.enc u),.loc [.lit (.int .i64 t.from_),.lit (.int .i64 t.to),.lit (.int .i64 t.low),.lit (.int .i64 t.high),.lit (.bool t.free)]] [] (.lit (.bool res)) []):=⟨by
 intro res h0
 refine co (hi:=hi00) func269 rfl rfl ?_
 unfold jG at h0
 exact run⟩
@[go_sem] def wh (v6:List GTie)(v7:Int)(s_0:List GNode)(s_2 v8:Int):St:=⟨[(1,.ptr 64 1 0 0),(6,.sl (ab GTie.enc v6)),(7,.lit (.int .i64 v7)),(8,.lit (.int .i64 v8))],[(64,1,.var [.sl (ab GNode.encS s_0),.sl (ab GTie.enc v6),.lit (.int .i64 s_2)])],2⟩
@[go_sem] def hi190_7:DT:=.r2 0 36 .nil
def IP:Hint where
 acts:=fun _=>[]
 draws:=fun
  | 7=>⟨hi190_7,[[],[0],[0,1],[0,1,2],[0,1,2,3],.range 5,.range 6,.range 7,.range 8,.range 9,.range 10,.range 9,[0,1,2,3,4,5,6,7,8,11],.range 13,.range 14,.range 15,.range 16,.range 17,.range 18,.range 19,.range 20,.range 19,[0,1,2,3,4,5,6,7,8,9,10,11,12,13,14,15,16,17,18,21],.range 23,.range 24,.range 25,.range 19,[0,1,2,3,4,5,6,7,8,9,10,11,12,13,14,15,16,17,18,26],.range 19,[0,1,2,3,4,5,6,7,8,9,10,11,12,13,14,15,16,17,18,28],[0,1,2,3,4,5,6,7,8,9,10,11,12,13,14,15,16,17,18,26,27,28,29],[0,1,2,3,4,5,6,7,8,9,10,11,12,13,14,15,16,17,18,26,27,28,29,30],[0,1,2,3,4,5,6,7,8,9,10,11,12,13,14,15,16,17,18,26,27,28,29,30,31],.range 33,.range 34,.range 35],.range 36⟩
  | _=>⟨.nil,[],[]⟩
theorem VM (i:Nat):IP.acts i=[]:=rfl
theorem VN (i:Nat):IP.views i=none:=rfl
attribute[go_sem] VM VN ntmps190 results190
@[go_sem] theorem ZM:(IP.draws 7).order=hi190_7:=rfl
instance k190 {s:GShow}:Ctr (mA s) (fun (res:Bool)=>aj prog 190 [.agg (GShow.encS s)] [] (.lit (.bool res)) []):=⟨by
 intro res h0
 refine co (hi:=IP) func190 rfl rfl ?_
 unfold mA at h0
 obtain⟨q10,l0,h0⟩:=ae h0
 simp(config:=cS)only[go_sem, *]
 refine ag (m1:=.mk) (m2:=.mk) [.nf [1,6,7,8] [64]] (wh s.ties (s.ties.length:Int) s.nodes s.horizon) l0 ?_ ?_
 ·simp(config:=cS)only[go_sem, *]
 have k0:=h0
 clear h0 l0
 intro _ v8_1 _ h0 gb0
 unfold gL at h0
 try dsimp only at h0
 obtain⟨_,h0⟩|⟨_,h0⟩:=itP h0
 ·obtain⟨x01,_,_,_,h0⟩:=gtI h0
  obtain⟨r02,g0,h0⟩:=ae h0
  simp(config:=cS)only[go_sem, *]
  have g0:=ctr g0
  refine ai g0 ?_
  obtain⟨_,h0⟩|⟨_,h0⟩:=itB h0
  ·obtain⟨r03,g0,h0⟩:=ae h0
   simp(config:=cS)only[go_sem, *]
   have g0:=ctr g0
   refine ai g0 ?_
   obtain⟨_,h0⟩|⟨_,h0⟩:=itB h0
   ·obtain⟨_,h0⟩|⟨_,h0⟩:=itP h0
    ·exact run
    obtain⟨r04,g0,h0⟩:=ae h0
    simp(config:=cS)only[go_sem, *]
    have g0:=ctr g0
    refine ai g0 ?_
    obtain⟨_,h0⟩|⟨_,h0⟩:=itB h0
    ·obtain⟨r05,g0,h0⟩:=ae h0
     simp(config:=cS)only[go_sem, *]
     have g0:=ctr g0
     refine ai g0 ?_
     obtain⟨_,h0⟩|⟨_,h0⟩:=itB h0
     ·obtain⟨_,h0⟩|⟨_,h0⟩:=itP h0
      ·exact run
      obtain⟨_,h0⟩|⟨_,h0⟩:=itB h0
      ·obtain⟨_,h0⟩|⟨_,h0⟩:=itP h0
       ·exact run
       obtain⟨_,h0⟩|⟨_,h0⟩:=itP h0
       ·exact run
       obtain⟨x06,_,_,_,h0⟩:=gtI h0
       obtain⟨_,h0⟩|⟨_,h0⟩:=itP h0
       ·obtain⟨x07,_,_,_,h0⟩:=gtI h0
        obtain⟨r08,g0,h0⟩:=ae h0
        simp(config:=cS)only[go_sem, *]
        have g0:=ctr g0
        refine ai g0 ?_
        obtain⟨_,h0⟩|⟨_,h0⟩:=itB h0
        ·obtain⟨_,h0⟩:=ckP h0
         obtain⟨_,h0⟩:=ckP h0
         obtain⟨r09,g0,h0⟩:=ae h0
         simp(config:=cS)only[go_sem, *]
         refine ai (oc (by exact fun _ _ hr=>by have q:=ctr hr;exact q) (by refine⟨fun _=>?_,fun _=>?_⟩ <;> simp only[go_sem]) (fun _=>rfl) rfl g0) ?_
         exact run
        exact run
       exact run
      exact run
     exact run
    exact run
   exact run
  exact run
 exact run⟩
@[go_sem] def qL (v0:List Int)(f_v1:Nat)(k_v1:List AV)(v7 v8:Int):St:=⟨[(0,.sl (ab eI v0)),(1,.fn f_v1 k_v1),(7,.lit (.int .i64 v7)),(8,.lit (.int .i64 v8))],[],2⟩
theorem pi {v0:List Int}{v1:Int→Option Bool}{f_v1:Nat}{k_v1:List AV}(hp_v1:∀ y0 r,v1 y0=some r→aj prog f_v1 ([.lit (.int .i64 y0)]++k_v1) [] (.lit (.bool r)) [])(hc_v1:KC k_v1)(hm_v1:∀ a,mdT f_v1 a=⟨[],false⟩)(hk_v1:spf f_v1=false){res:Int}(h:dw v0 v1=some res):aj prog 223 [.sl (ab eI v0),.fn f_v1 k_v1] [] (.lit (.int .i64 res)) []:=by
 refine co (hi:=hi00) func223 rfl rfl ?_
 unfold dw at h
 obtain⟨q03,l1,h⟩:=ae h
 simp(config:=cS)only[go_sem,hc_v1.1,hc_v1.2,hm_v1,hk_v1]
 refine ag (m1:=.mk) (m2:=.mk) [.nf [0,1,7,8] []] (qL v0 f_v1 k_v1 (v0.length:Int)) l1 ?_ ?_
 ·simp(config:=cS)only[go_sem,hc_v1.1,hc_v1.2,hm_v1,hk_v1]
 intro nb2 v8_1 bb2 b2 gb2
 unfold cC at b2
 try dsimp only at b2
 obtain⟨h3,b2⟩|⟨h3,b2⟩:=aT b2
 ·obtain⟨x01,g4,b2⟩:=ae b2
  obtain⟨h5,h6,h7⟩:=eO g4
  obtain⟨r02,g8,b2⟩:=ae b2
  simp(config:=cS)only[go_sem,hc_v1.1,hc_v1.2,hm_v1,hk_v1,eqT h3,h5,h6,h7]
  refine ai (hp_v1 _ _ g8) ?_
  obtain⟨h9,b2⟩|⟨h9,b2⟩:=aT b2
  ·cases b2
   obtain rfl:=(aE gb2).symm
   try dsimp only at h
   cases h
   simp(config:=cS)only[go_sem,hc_v1.1,hc_v1.2,hm_v1,hk_v1,eqT h3,h5,h6,h7,eZt h9]
  cases b2
  simp(config:=cS)only[go_sem,hc_v1.1,hc_v1.2,hm_v1,hk_v1,eqT h3,h5,h6,h7,eZf h9]
  refine fz gb2 ?_
  simp(config:=cS)only[go_sem,hc_v1.1,hc_v1.2,hm_v1,hk_v1,eqT h3,h5,h6,h7,eZf h9]
 cases b2
 obtain rfl:=(aE gb2).symm
 try dsimp only at h
 cases h
 simp(config:=cS)only[go_sem,hc_v1.1,hc_v1.2,hm_v1,hk_v1,eqF h3]
theorem kf {v0:List Int}{v1:Int→Option Bool}{f_v1:Nat}{k_v1:List AV}(hp_v1:∀ y0 r,v1 y0=some r→aj prog f_v1 ([.lit (.int .i64 y0)]++k_v1) [] (.lit (.bool r)) [])(hc_v1:KC k_v1)(hm_v1:∀ a,mdT f_v1 a=⟨[],false⟩)(hk_v1:spf f_v1=false){res:Bool}(h:bC v0 v1=some res):aj prog 124 [.sl (ab eI v0),.fn f_v1 k_v1] [] (.lit (.bool res)) []:=by
 refine co (hi:=hi00) func124 rfl rfl ?_
 unfold bC at h
 obtain⟨r01,g1,h⟩:=ae h
 simp(config:=cS)only[go_sem,hc_v1.1,hc_v1.2,hm_v1,hk_v1]
 refine ai (pi hp_v1 hc_v1 hm_v1 hk_v1 g1) ?_
 cases h
 simp(config:=cS)only[go_sem,hc_v1.1,hc_v1.2,hm_v1,hk_v1]
end Go.Proofs.Qh
