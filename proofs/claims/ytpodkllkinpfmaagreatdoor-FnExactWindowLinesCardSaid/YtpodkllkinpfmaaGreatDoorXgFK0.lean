/- Functions. -/
import Derived.Test.YtpodkllkinpfmaaGreatDoorXgX
import Derived.Test.YtpodkllkinpfmaaGreatDoorXg37
set_option linter.all false
set_option maxRecDepth 100000
set_option maxHeartbeats 4000000
namespace Go.Proofs.Qg
open Go Tryz
theorem co {hi:Hint}{f:FuncId}{fn:Func}{c:Code}{args:List AV}{h0 h':Hp}{r:AV}(hf:Tryz.prog.funcs[f]?=some fn)(hn:(fn.name == "runtime.NumGoroutine")=false) (hb:fn.body=some c) (h:bH prog mdT T fn.ntmps hi c ⟨lT 0 args,h0,1⟩ (retK T [] fn.results.toList (h0.map (·.1)) (fun r1 h1=>r1=r∧h1=h'))) (hc:hP hi c=true:=by decide +kernel) (hlen:args.length≤fn.ntmps:=by simp):aj prog f args h0 r h':=bd (ra:=[]) (md:=mdT) hT hf hn hb hc hlen h
attribute[go_sem] ntmps59 results59 ntmps155 results155 ntmps57 results57 ntmps58 results58 ntmps9 results9 ntmps10 results10 ntmps67 results67 ntmps169 results169 ntmps65 results65 ntmps170 results170 ntmps66 results66 ntmps12 results12 ntmps13 results13 ntmps164 results164 ntmps331 results331 ntmps160 results160 ntmps332 results332 ntmps294 results294 ntmps295 results295 ntmps159 results159 ntmps296 results296 ntmps297 results297 ntmps298 results298 ntmps236 results236 ntmps144 results144 ntmps201 results201 ntmps157 results157 ntmps158 results158 ntmps167 results167 ntmps161 results161 ntmps247 results247 ntmps163 results163 ntmps245 results245 ntmps61 results61 ntmps248 results248 ntmps249 results249 ntmps250 results250 ntmps251 results251 ntmps63 results63 ntmps168 results168 ntmps215 results215 ntmps214 results214 ntmps266 results266 ntmps189 results189 ntmps107 results107 ntmps267 results267 ntmps187 results187 ntmps224 results224 ntmps269 results269 ntmps223 results223 ntmps124 results124 ntmps193 results193 ntmps194 results194 ntmps88 results88 ntmps93 results93 ntmps195 results195 ntmps311 results311 ntmps270 results270 ntmps191 results191 ntmps86 results86 ntmps87 results87 ntmps90 results90 ntmps308 results308 ntmps256 results256 ntmps257 results257 ntmps173 results173 ntmps252 results252 ntmps110 results110 ntmps113 results113 ntmps272 results272 ntmps254 results254 ntmps177 results177 ntmps255 results255 ntmps172 results172 ntmps68 results68 ntmps261 results261 ntmps175 results175 ntmps344 results344 ntmps309 results309 ntmps265 results265 ntmps310 results310 ntmps258 results258 ntmps313 results313 ntmps275 results275 ntmps108 results108 ntmps37 results37
instance k59 {a:List Int} {left:Int}:Ctr (fT a left) (fun (res:Int)=>aj prog 59 [.sl (ab eI a),.lit (.int .i64 left)] [] (.lit (.int .i64 res)) []):=⟨by
 intro res h0
 refine co (hi:=hi00) func59 rfl rfl ?_
 unfold fT at h0
 exact run⟩
instance k155 {a:GNode} {left:Int}:Ctr (jo a left) (fun (res:Int)=>aj prog 155 [.agg (GNode.encS a),.lit (.int .i64 left)] [] (.lit (.int .i64 res)) []):=⟨by
 intro res h0
 refine co (hi:=hi00) func155 rfl rfl ?_
 unfold jo at h0
 exact run⟩
def lV (a:List GNode):(Int × Int)→St
 | (b,i)=>⟨[(0,.sl (ab GNode.encS a)),(1,.lit (.int .i64 b)),(5,.lit (.int .i64 i))],[],2⟩
attribute[go_sem] lV
instance k57 {a:List GNode} {left:Int}:Ctr (iH a left) (fun (res:Int)=>aj prog 57 [.sl (ab GNode.encS a),.lit (.int .i64 left)] [] (.lit (.int .i64 res)) []):=⟨by
 intro res h0
 refine co (hi:=hi00) func57 rfl rfl ?_
 unfold iH at h0
 obtain⟨_,h0⟩|⟨_,h0⟩:=itP h0
 ·exact run
 ·obtain⟨q03,l0,h0⟩:=ae h0
  simp(config:=cS)only[go_sem, *]
  refine ah (m1:=.mk) (m2:=.mk) [.nf [0,1,5] []] (lV a) l0 ?_ ?_
  ·simp(config:=cS)only[go_sem, *]
  ·have k0:=h0
   clear h0 l0
   intro _ s0 _ h0 gb0
   obtain⟨left_1,i_1⟩:=s0
   unfold fX at h0
   try dsimp only at h0
   exact run⟩
instance k58 {a:List GTie} {left:Int}:Ctr (jp a left) (fun (res:Int)=>aj prog 58 [.sl (ab GTie.enc a),.lit (.int .i64 left)] [] (.lit (.int .i64 res)) []):=⟨by
 intro res h0
 refine co (hi:=hi00) func58 rfl rfl ?_
 unfold jp at h0
 exact run⟩
instance k9 {a:GShow} {left:Int}:Ctr (jq a left) (fun (res:Int)=>aj prog 9 [.agg (GShow.encS a),.lit (.int .i64 left)] [] (.lit (.int .i64 res)) []):=⟨by
 intro res h0
 refine co (hi:=hi00) func9 rfl rfl ?_
 unfold jq at h0
 exact run⟩
instance k10 {a:GChoice} {left:Int}:Ctr (hZ a left) (fun (res:Int)=>aj prog 10 [.agg [.sl (ab eI a.lengths),.sl (ab eI a.values)],.lit (.int .i64 left)] [] (.lit (.int .i64 res)) []):=⟨by
 intro res h0
 refine co (hi:=hi00) func10 rfl rfl ?_
 unfold hZ at h0
 exact run⟩
def mJ (a:List Int):(Int × (List Int))→St
 | (i,b)=>⟨[(0,.sl (ab eI a)),(3,.ref 448 1 0 b.length),(4,.lit (.int .i64 i))],[(448,1,.row true (ab eI b))],2⟩
attribute[go_sem] mJ
instance k67 {a:List Int}:Ctr (fU a) (fun (res:List Int)=>aj prog 67 [.sl (ab eI a)] [] (.ref 20000 1 0 res.length) [(20000,1,.row true (ab eI res))]):=⟨by
 intro res h0
 refine bd (ra:=[.home 2]) (md:=mdT) hT (hi:=hi00) func67 rfl rfl (by decide +kernel) (by simp) ?_
 unfold fU at h0
 obtain⟨_,h0⟩:=ckP h0
 obtain⟨_,h0⟩:=ckP h0
 obtain⟨q03,l0,h0⟩:=ae h0
 simp(config:=cS)only[go_sem, *]
 refine ah (m1:=.mk) (m2:=.mk) [.nf [0,3,4] [448]] (mJ a) l0 ?_ ?_
 ·simp(config:=cS)only[go_sem, *]
 ·have k0:=h0
  clear h0 l0
  intro _ s0 _ h0 gb0
  obtain⟨i_1,out_1⟩:=s0
  unfold gO at h0
  try dsimp only at h0
  exact run⟩
instance k169 {a:GNode}:Ctr (jr a) (fun (res:GNode)=>aj prog 169 [.agg (GNode.encS a)] [] (.agg [.lit (.string res.name),.ref 20000 1 0 res.label.length,.lit (.int .i64 res.watch)]) [(20000,1,.row true (ab eI res.label))]):=⟨by
 intro res h0
 refine bd (ra:=[.homeCell 128 1]) (md:=mdT) hT (hi:=hi00) func169 rfl rfl (by decide +kernel) (by simp) ?_
 unfold jr at h0
 exact run⟩
def lW (a:List GNode):(Int × (List GNode))→St
 | (i,b)=>⟨[(0,.sl (ab GNode.encS a)),(3,.ref 448 1 0 b.length),(4,.lit (.int .i64 i))],[(448,1,.row true (ab GNode.encO b))],2⟩
attribute[go_sem] lW
instance k65 {a:List GNode}:Ctr (iI a) (fun (res:List GNode)=>aj prog 65 [.sl (ab GNode.encS a)] [] (.ref 20000 1 0 res.length) [(20000,1,.row true (ab GNode.encO res))]):=⟨by
 intro res h0
 refine bd (ra:=[.home 2]) (md:=mdT) hT (hi:=hi00) func65 rfl rfl (by decide +kernel) (by simp) ?_
 unfold iI at h0
 obtain⟨_,h0⟩:=ckP h0
 obtain⟨_,h0⟩:=ckP h0
 obtain⟨q04,l0,h0⟩:=ae h0
 simp(config:=cS)only[go_sem, *]
 refine ah (m1:=.mk) (m2:=.mk) [.nf [0,3,4] [448]] (lW a) l0 ?_ ?_
 ·simp(config:=cS)only[go_sem, *]
 ·have k0:=h0
  clear h0 l0
  intro _ s0 _ h0 gb0
  obtain⟨i_1,out_1⟩:=s0
  unfold fY at h0
  try dsimp only at h0
  exact run⟩
instance k170 {a:GTie}:Ctr (mw a) (fun (res:GTie)=>aj prog 170 [.agg (GTie.enc a)] [] (.agg (GTie.enc res)) []):=⟨by
 intro res h0
 refine co (hi:=hi00) func170 rfl rfl ?_
 unfold mw at h0
 exact run⟩
def mK (a:List GTie):(Int × (List GTie))→St
 | (i,b)=>⟨[(0,.sl (ab GTie.enc a)),(3,.ref 448 1 0 b.length),(4,.lit (.int .i64 i))],[(448,1,.row true (ab GTie.enc b))],2⟩
attribute[go_sem] mK
instance k66 {a:List GTie}:Ctr (js a) (fun (res:List GTie)=>aj prog 66 [.sl (ab GTie.enc a)] [] (.ref 20000 1 0 res.length) [(20000,1,.row true (ab GTie.enc res))]):=⟨by
 intro res h0
 refine bd (ra:=[.home 2]) (md:=mdT) hT (hi:=hi00) func66 rfl rfl (by decide +kernel) (by simp) ?_
 unfold js at h0
 obtain⟨_,h0⟩:=ckP h0
 obtain⟨_,h0⟩:=ckP h0
 obtain⟨q04,l0,h0⟩:=ae h0
 simp(config:=cS)only[go_sem, *]
 refine ah (m1:=.mk) (m2:=.mk) [.nf [0,3,4] [448]] (mK a) l0 ?_ ?_
 ·simp(config:=cS)only[go_sem, *]
 ·have k0:=h0
  clear h0 l0
  intro _ s0 _ h0 gb0
  obtain⟨i_1,out_1⟩:=s0
  unfold gP at h0
  try dsimp only at h0
  exact run⟩
instance k12 {a:GShow}:Ctr (eP a) (fun (res:GShow)=>aj prog 12 [.agg (GShow.encS a)] [] (.agg [.ref 20000 1 0 res.nodes.length,.ref 20001 1 0 res.ties.length,.lit (.int .i64 res.horizon)]) [(20000,1,.row true (ab GNode.encO res.nodes)),(20001,1,.row true (ab GTie.enc res.ties))]):=⟨by
 intro res h0
 refine bd (ra:=[.homeCell 128 0,.homeCell 128 1]) (md:=mdT) hT (hi:=hi00) func12 rfl rfl (by decide +kernel) (by simp) ?_
 unfold eP at h0
 exact run⟩
instance k13 {a:GChoice}:Ctr (dc a) (fun (res:GChoice)=>aj prog 13 [.agg [.sl (ab eI a.lengths),.sl (ab eI a.values)]] [] (.agg [.ref 20000 1 0 res.lengths.length,.ref 20001 1 0 res.values.length]) [(20000,1,.row true (ab eI res.lengths)),(20001,1,.row true (ab eI res.values))]):=⟨by
 intro res h0
 refine bd (ra:=[.homeCell 128 0,.homeCell 128 1]) (md:=mdT) hT (hi:=hi00) func13 rfl rfl (by decide +kernel) (by simp) ?_
 unfold dc at h0
 exact run⟩
instance k164 {n:Int} {lo:Int} {hi:Int}:Ctr (aN n lo hi) (fun (res:Bool)=>aj prog 164 [.lit (.int .i64 n),.lit (.int .i64 lo),.lit (.int .i64 hi)] [] (.lit (.bool res)) []):=⟨by
 intro res h0
 refine co (hi:=hi00) func164 rfl rfl ?_
 unfold aN at h0
 exact run⟩
def mL (s:ByteArray)(i:Int):St:=⟨[(0,.lit (.string s)),(3,.lit (.int .i64 i))],[],2⟩
attribute[go_sem] mL
instance k331 {s:ByteArray}:Ctr (jt s) (fun (res:Bool)=>aj prog 331 [.lit (.string s)] [] (.lit (.bool res)) []):=⟨by
 intro res h0
 refine co (hi:=hi00) func331 rfl rfl ?_
 unfold jt at h0
 obtain⟨q03,l0,h0⟩:=ae h0
 simp(config:=cS)only[go_sem, *]
 refine ah (m1:=.mk) (m2:=.mk) [.nf [0,3] []] (mL s) l0 ?_ ?_
 ·simp(config:=cS)only[go_sem, *]
 ·have k0:=h0
  clear h0 l0
  intro _ i_1 _ h0 gb0
  unfold ff at h0
  try dsimp only at h0
  exact run⟩
instance k160 {n:Int}:Ctr (ck n) (fun (res:Int)=>aj prog 160 [.lit (.int .i64 n)] [] (.lit (.int .i64 res)) []):=⟨by
 intro res h0
 refine co (hi:=hi00) func160 rfl rfl ?_
 unfold ck at h0
 exact run⟩
def lX (l:List Int)(a b:Int):St:=⟨[(0,.sl (ab eI l)),(5,.sl (ab eI l)),(6,.lit (.int .i64 a)),(7,.lit (.int .i64 b))],[],2⟩
attribute[go_sem] lX
instance k332 {l:List Int}:Ctr (fg l) (fun (res:Bool)=>aj prog 332 [.sl (ab eI l)] [] (.lit (.bool res)) []):=⟨by
 intro res h0
 refine co (hi:=hi00) func332 rfl rfl ?_
 unfold fg at h0
 obtain⟨q06,l0,h0⟩:=ae h0
 simp(config:=cS)only[go_sem, *]
 refine ah (m1:=.mk) (m2:=.mk) [.nf [0,5,6,7] []] (lX l ((l.length:Nat):Int)) l0 ?_ ?_
 ·simp(config:=cS)only[go_sem, *]
 ·have k0:=h0
  clear h0 l0
  intro _ v7_1 _ h0 gb0
  unfold ez at h0
  try dsimp only at h0
  exact run⟩
instance k294 {n:GNode}:Ctr (ju n) (fun (res:Bool)=>aj prog 294 [.agg (GNode.encS n)] [] (.lit (.bool res)) []):=⟨by
 intro res h0
 refine co (hi:=hi00) func294 rfl rfl ?_
 unfold ju at h0
 exact run⟩
def kL (a:ByteArray)(c:List GNode)(d b:Int):St:=⟨[(1,.lit (.string a)),(8,.sl (ab GNode.encS c)),(9,.lit (.int .i64 d)),(10,.lit (.int .i64 b))],[],2⟩
attribute[go_sem] kL
instance k295 {s:GShow} {name:ByteArray}:Ctr (gQ s name) (fun (res:Int)=>aj prog 295 [.agg (GShow.encS s),.lit (.string name)] [] (.lit (.int .i64 res)) []):=⟨by
 intro res h0
 refine co (hi:=hi00) func295 rfl rfl ?_
 unfold gQ at h0
 obtain⟨q02,l0,h0⟩:=ae h0
 simp(config:=cS)only[go_sem, *]
 refine ah (m1:=.mk) (m2:=.mk) [.nf [1,8,9,10] []] (kL name s.nodes ((s.nodes.length:Nat):Int)) l0 ?_ ?_
 ·simp(config:=cS)only[go_sem, *]
 ·have k0:=h0
  clear h0 l0
  intro _ v10_1 _ h0 gb0
  unfold dh at h0
  try dsimp only at h0
  exact run⟩
def kA (p:Int)(b:List GNode)(c a:Int):St:=⟨[(1,.lit (.int .i64 p)),(8,.sl (ab GNode.encS b)),(9,.lit (.int .i64 c)),(10,.lit (.int .i64 a))],[],2⟩
attribute[go_sem] kA
instance k159 {s:GShow} {p:Int}:Ctr (bB s p) (fun (res:Int)=>aj prog 159 [.agg (GShow.encS s),.lit (.int .i64 p)] [] (.lit (.int .i64 res)) []):=⟨by
 intro res h0
 refine co (hi:=hi00) func159 rfl rfl ?_
 unfold bB at h0
 obtain⟨q02,l0,h0⟩:=ae h0
 simp(config:=cS)only[go_sem, *]
 refine ah (m1:=.mk) (m2:=.mk) [.nf [1,8,9,10] []] (kA p s.nodes ((s.nodes.length:Nat):Int)) l0 ?_ ?_
 ·simp(config:=cS)only[go_sem, *]
 ·have k0:=h0
  clear h0 l0
  intro _ v10_1 _ h0 gb0
  unfold cM at h0
  try dsimp only at h0
  exact run⟩
def mM (n:Int)(a:List Int)(b c:Int):St:=⟨[(1,.lit (.int .i64 n)),(7,.sl (ab eI a)),(8,.lit (.int .i64 b)),(9,.lit (.int .i64 c))],[],2⟩
attribute[go_sem] mM
instance k296 {l:List Int} {n:Int}:Ctr (dy l n) (fun (res:Bool)=>aj prog 296 [.sl (ab eI l),.lit (.int .i64 n)] [] (.lit (.bool res)) []):=⟨by
 intro res h0
 refine co (hi:=hi00) func296 rfl rfl ?_
 unfold dy at h0
 obtain⟨q02,l0,h0⟩:=ae h0
 simp(config:=cS)only[go_sem, *]
 refine ah (m1:=.mk) (m2:=.mk) [.nf [1,7,8,9] []] (mM n l ((l.length:Nat):Int)) l0 ?_ ?_
 ·simp(config:=cS)only[go_sem, *]
 ·have k0:=h0
  clear h0 l0
  intro _ v9_1 _ h0 gb0
  unfold fh at h0
  try dsimp only at h0
  exact run⟩
def jK (a b:List Int)(c d:Int):St:=⟨[(0,.sl (ab eI a)),(15,.sl (ab eI b)),(16,.lit (.int .i64 c)),(17,.lit (.int .i64 d))],[],2⟩
attribute[go_sem] jK
instance k297 {a:List Int} {b:List Int}:Ctr (di a b) (fun (res:Bool)=>aj prog 297 [.sl (ab eI a),.sl (ab eI b)] [] (.lit (.bool res)) []):=⟨by
 intro res h0
 refine co (hi:=hi00) func297 rfl rfl ?_
 unfold di at h0
 obtain⟨r01,g0,h0⟩:=ae h0
 simp(config:=cS)only[go_sem, *]
 have g0:=ctr g0
 refine am g0 ?_
 obtain⟨_,h0⟩|⟨_,h0⟩:=itB h0
 ·obtain⟨r02,g0,h0⟩:=ae h0
  simp(config:=cS)only[go_sem, *]
  have g0:=ctr g0
  refine am g0 ?_
  obtain⟨_,h0⟩|⟨_,h0⟩:=itB h0
  ·obtain⟨q05,l0,h0⟩:=ae h0
   simp(config:=cS)only[go_sem, *]
   refine ah (m1:=.mk) (m2:=.mk) [.nf [0,15,16,17] []] (jK a b ((b.length:Nat):Int)) l0 ?_ ?_
   ·simp(config:=cS)only[go_sem, *]
   ·have k0:=h0
    clear h0 l0
    intro _ v17_1 _ h0 gb0
    unfold cm at h0
    try dsimp only at h0
    exact run
  ·exact run
 ·exact run⟩
def lm (a:List GNode)(b:Int)(c:List GTie)(d e:Int):St:=⟨[(1,.ptr 64 1 0 0),(33,.sl (ab GNode.encS a)),(34,.lit (.int .i64 b)),(35,.lit (.int .i64 e))],[(64,1,.var [.sl (ab GNode.encS a),.sl (ab GTie.enc c),.lit (.int .i64 d)])],2⟩
attribute[go_sem] lm
def ln (a:List GNode)(c d:Int)(b:List Int)(e:Int)(f:List GTie)(g:Int)(h:ByteArray)(i j:Int):St:=⟨[(1,.ptr 64 1 0 0),(6,.ptr 384 1 0 0),(66,.sl (ab GNode.encS a)),(67,.lit (.int .i64 c)),(68,.lit (.int .i64 d)),(73,.sl (ab eI b)),(74,.lit (.int .i64 e)),(75,.lit (.int .i64 j))],[(64,1,.var [.sl (ab GNode.encS a),.sl (ab GTie.enc f),.lit (.int .i64 g)]),(384,1,.var [.lit (.string h),.sl (ab eI b),.lit (.int .i64 i)])],2⟩
attribute[go_sem] ln
def lp (a:List GNode)(b:Int)(c:List GTie)(d e:Int):St:=⟨[(1,.ptr 64 1 0 0),(66,.sl (ab GNode.encS a)),(67,.lit (.int .i64 b)),(68,.lit (.int .i64 e))],[(64,1,.var [.sl (ab GNode.encS a),.sl (ab GTie.enc c),.lit (.int .i64 d)])],2⟩
attribute[go_sem] lp
@[go_sem] def hi234_16:DT:=.r2 0 35 .nil
@[go_sem] def hi234_15:DT:=.i1 0 (.i2 1 (.i0 2 [0] (.i2 3 (.i2 4 .nil))))
def wS:Hint where
 acts:=fun _=>[]
 draws:=fun
  | 15=>⟨hi234_15,[[],[],[1],[0,1,2],[0,1,2,3]],.range 5⟩
  | 16=>⟨hi234_16,[[],[0],[0,1],[0,1,2],[0,1,2,3],[0,1,2],.range 6,.range 7,.range 8,[0,1,2],.range 10,.range 11,.range 12,.range 13,.range 14,.range 13,.range 16,.range 17,.range 18,.range 13,[0,1,2,3,4,5,6,7,8,9,10,11,12,19],.range 21,.range 22,.range 23,.range 24,.range 25,.range 24,[0,1,2,3,4,5,6,7,8,9,10,11,12,13,14,15,16,17,18,19,20,21,22,23,26],.range 24,[0,1,2,3,4,5,6,7,8,9,10,11,12,13,14,15,16,17,18,19,20,21,22,23,26,27,28],[0,1,2,3,4,5,6,7,8,9,10,11,12,13,14,15,16,17,18,19,20,21,22,23,26,27,28,29],[0,1,2,3,4,5,6,7,8,9,10,11,12,13,14,15,16,17,18,19,20,21,22,23,26,27,28,29,30],.range 32,.range 33,.range 34],.range 35⟩
  | _=>⟨.nil,[],[]⟩
theorem KV (i:Nat):wS.acts i=[]:=rfl
theorem KW (i:Nat):wS.views i=none:=rfl
attribute[go_sem] KV KW ntmps234 results234
@[go_sem] theorem Ns:(wS.draws 15).order=hi234_15:=rfl
@[go_sem] theorem Nt:(wS.draws 16).order=hi234_16:=rfl
instance k234 {s:GShow}:Ctr (ia s) (fun (res:Bool)=>aj prog 234 [.agg (GShow.encS s)] [] (.lit (.bool res)) []):=⟨by
 intro res h0
 refine co (hi:=wS) func234 rfl rfl ?_
 unfold ia at h0
 obtain⟨r01,g0,h0⟩:=ae h0
 simp(config:=cS)only[go_sem, *]
 have g0:=ctr g0
 refine am g0 ?_
 obtain⟨_,h0⟩|⟨_,h0⟩:=itB h0
 ·obtain⟨x02,g1,h0⟩:=ae h0
  have:=uK (k:=0) g1
  obtain⟨_,h0⟩|⟨_,h0⟩:=itP h0
  ·exact run
  ·obtain⟨_,h0⟩|⟨_,h0⟩:=itP h0
   ·obtain⟨q17,l0,h0⟩:=ae h0
    simp(config:=cS)only[go_sem, *]
    refine ah (m1:=.mk) (m2:=.mk) [.nf [1,33,34,35] [64]] (lm s.nodes ((s.nodes.length:Nat):Int) s.ties s.horizon) l0 ?_ ?_
    ·simp(config:=cS)only[go_sem, *]
    ·have k0:=h0
     clear h0 l0
     intro _ v35_1 _ h0 gb0
     unfold dF at h0
     try dsimp only at h0
     obtain⟨_,h0⟩|⟨_,h0⟩:=itP h0
     ·exact run
     ·cases h0
      obtain rfl:=(aP gb0).symm
      clear gb0
      have h0:=k0
      clear k0
      try dsimp only at h0
      obtain⟨q16,l0,h0⟩:=ae h0
      simp(config:=cS)only[go_sem, *]
      refine ah (m1:=.mk) (m2:=.mk) [.nf [1,66,67,68] [64]] (lp s.nodes ((s.nodes.length:Nat):Int) s.ties s.horizon) l0 ?_ ?_
      ·simp(config:=cS)only[go_sem, *]
      ·have k0:=h0
       clear h0 l0
       intro _ v68_2 _ h0 gb0
       unfold dH at h0
       try dsimp only at h0
       obtain⟨_,h0⟩|⟨_,h0⟩:=itP h0
       ·obtain⟨x07,_,_,_,h0⟩:=gtI h0
        obtain⟨q15,l0,h0⟩:=ae h0
        simp(config:=cS)only[go_sem, *]
        refine ah (m1:=.mk) (m2:=.mk) [.nf [1,6,66,67,68,73,74,75] [64,384]] (ln s.nodes ((s.nodes.length:Nat):Int) v68_2 x07.label ((x07.label.length:Nat):Int) s.ties s.horizon x07.name x07.watch) l0 ?_ ?_
        ·simp(config:=cS)only[go_sem, *]
        ·have k0:=h0
         clear h0 l0
         intro _ v75_3 _ h0 gb0
         unfold dG at h0
         try dsimp only at h0
         exact run
       ·exact run
   ·exact run
 ·exact run⟩
def lY (b a:List Int)(c d:Int):St:=⟨[(1,.sl (ab eI b)),(12,.sl (ab eI a)),(13,.lit (.int .i64 c)),(14,.lit (.int .i64 d))],[],2⟩
attribute[go_sem] lY
instance k298 {a:List Int} {b:List Int}:Ctr (iJ a b) (fun (res:Bool)=>aj prog 298 [.sl (ab eI a),.sl (ab eI b)] [] (.lit (.bool res)) []):=⟨by
 intro res h0
 refine co (hi:=hi00) func298 rfl rfl ?_
 unfold iJ at h0
 obtain⟨_,h0⟩|⟨_,h0⟩:=itP h0
 ·obtain⟨q03,l0,h0⟩:=ae h0
  simp(config:=cS)only[go_sem, *]
  refine ah (m1:=.mk) (m2:=.mk) [.nf [1,12,13,14] []] (lY b a ((a.length:Nat):Int)) l0 ?_ ?_
  ·simp(config:=cS)only[go_sem, *]
  ·have k0:=h0
   clear h0 l0
   intro _ v14_1 _ h0 gb0
   unfold eA at h0
   try dsimp only at h0
   exact run
 ·exact run⟩
def lZ (a:Int)(c:List GTie)(d b:Int):St:=⟨[(1,.lit (.int .i64 a)),(8,.sl (ab GTie.enc c)),(9,.lit (.int .i64 d)),(10,.lit (.int .i64 b))],[],2⟩
attribute[go_sem] lZ
instance k236 {s:GShow} {node:Int}:Ctr (iK s node) (fun (res:Int)=>aj prog 236 [.agg (GShow.encS s),.lit (.int .i64 node)] [] (.lit (.int .i64 res)) []):=⟨by
 intro res h0
 refine co (hi:=hi00) func236 rfl rfl ?_
 unfold iK at h0
 obtain⟨q02,l0,h0⟩:=ae h0
 simp(config:=cS)only[go_sem, *]
 refine ah (m1:=.mk) (m2:=.mk) [.nf [1,8,9,10] []] (lZ node s.ties ((s.ties.length:Nat):Int)) l0 ?_ ?_
 ·simp(config:=cS)only[go_sem, *]
 ·have k0:=h0
  clear h0 l0
  intro _ v10_1 _ h0 gb0
  unfold eC at h0
  try dsimp only at h0
  exact run⟩
@[go_sem] def hi235_5:DT:=.r2 0 43 (.i2 44 (.i2 43 (.r2 45 4 .nil)))
def AF:Hint where
 acts:=fun _=>[]
 draws:=fun
  | 5=>⟨hi235_5,[[],[0],[0,1],[0,1,2],[0,1,2,3],.range 5,.range 6,.range 7,.range 8,.range 9,.range 10,.range 11,.range 12,.range 13,.range 14,.range 13,[0,1,2,3,4,5,6,7,8,9,10,11,12,15],.range 17,.range 18,.range 19,.range 20,.range 21,.range 22,.range 23,.range 24,.range 23,[0,1,2,3,4,5,6,7,8,9,10,11,12,13,14,15,16,17,18,19,20,21,22,25],.range 27,.range 28,.range 29,.range 23,[0,1,2,3,4,5,6,7,8,9,10,11,12,13,14,15,16,17,18,19,20,21,22,30],.range 23,[0,1,2,3,4,5,6,7,8,9,10,11,12,13,14,15,16,17,18,19,20,21,22,32],[0,1,2,3,4,5,6,7,8,9,10,11,12,13,14,15,16,17,18,19,20,21,22,30,31,32,33],[0,1,2,3,4,5,6,7,8,9,10,11,12,13,14,15,16,17,18,19,20,21,22,30,31,32,33,34],[0,1,2,3,4,5,6,7,8,9,10,11,12,13,14,15,16,17,18,19,20,21,22,30,31,32,33,34,35],.range 37,.range 38,.range 39,.range 40,.range 40,[0,1,2,3,4,5,6,7,8,9,10,11,12,13,14,15,16,17,18,19,20,21,22,23,24,25,26,27,28,29,30,31,32,33,34,35,36,37,38,39,41],.range 43,.range 40,.range 45,.range 46,.range 47,.range 48],.range 49⟩
  | _=>⟨.nil,[],[]⟩
theorem KX (i:Nat):AF.acts i=[]:=rfl
theorem KY (i:Nat):AF.views i=none:=rfl
attribute[go_sem] KX KY ntmps235 results235
@[go_sem] theorem On:(AF.draws 5).order=hi235_5:=rfl
instance k235 {s:GShow} {i:Int}:Ctr (jv s i) (fun (res:Bool)=>aj prog 235 [.agg (GShow.encS s),.lit (.int .i64 i)] [] (.lit (.bool res)) []):=⟨by
 intro res h0
 refine co (hi:=AF) func235 rfl rfl ?_
 unfold jv at h0
 exact run⟩
def mN (a:Int)(b:List GNode)(c:List GTie)(d e:Int):St:=⟨[(1,.ptr 64 1 0 0),(21,.lit (.int .i64 a)),(22,.lit (.int .i64 e))],[(64,1,.var [.sl (ab GNode.encS b),.sl (ab GTie.enc c),.lit (.int .i64 d)])],2⟩
attribute[go_sem] mN
instance k144 {s:GShow}:Ctr (jw s) (fun (res:Bool)=>aj prog 144 [.agg (GShow.encS s)] [] (.lit (.bool res)) []):=⟨by
 intro res h0
 refine co (hi:=hi00) func144 rfl rfl ?_
 unfold jw at h0
 obtain⟨r01,g0,h0⟩:=ae h0
 simp(config:=cS)only[go_sem, *]
 have g0:=ctr g0
 refine am g0 ?_
 obtain⟨_,h0⟩|⟨_,h0⟩:=itB h0
 ·obtain⟨_,h0⟩|⟨_,h0⟩:=itP h0
  ·exact run
  ·obtain⟨r02,g0,h0⟩:=ae h0
   simp(config:=cS)only[go_sem, *]
   have g0:=ctr g0
   refine am g0 ?_
   obtain⟨_,h0⟩|⟨_,h0⟩:=itB h0
   ·obtain⟨q04,l0,h0⟩:=ae h0
    simp(config:=cS)only[go_sem, *]
    refine ah (m1:=.mk) (m2:=.mk) [.nf [1,21,22] [64]] (mN ((s.ties.length:Nat):Int) s.nodes s.ties s.horizon) l0 ?_ ?_
    ·simp(config:=cS)only[go_sem, *]
    ·have k0:=h0
     clear h0 l0
     intro _ v22_1 _ h0 gb0
     unfold fi at h0
     try dsimp only at h0
     exact run
   ·exact run
 ·exact run⟩
def ma (c:List GTie)(d:Int):(Int × (List Int))→St
 | (b,a)=>⟨[(3,.ref 384 1 0 a.length),(8,.sl (ab GTie.enc c)),(9,.lit (.int .i64 d)),(10,.lit (.int .i64 b))],[(384,1,.row true (ab eI a))],2⟩
attribute[go_sem] ma
instance k201 {s:GShow}:Ctr (gI s) (fun (res:List Int)=>aj prog 201 [.agg (GShow.encS s)] [] (.ref 20000 1 0 res.length) [(20000,1,.row true (ab eI res))]):=⟨by
 intro res h0
 refine bd (ra:=[.home 2]) (md:=mdT) hT (hi:=hi00) func201 rfl rfl (by decide +kernel) (by simp) ?_
 unfold gI at h0
 obtain⟨q02,l0,h0⟩:=ae h0
 simp(config:=cS)only[go_sem, *]
 refine ah (m1:=.mk) (m2:=.mk) [.nf [3,8,9,10] [384]] (ma s.ties ((s.ties.length:Nat):Int)) l0 ?_ ?_
 ·simp(config:=cS)only[go_sem, *]
 ·have k0:=h0
  clear h0 l0
  intro _ s0 _ h0 gb0
  obtain⟨v10_1,out_1⟩:=s0
  unfold fZ at h0
  try dsimp only at h0
  exact run⟩
def lq (d:Int)(e:List GNode)(f:List GTie)(g:Int)(b c a:List Int)(h:Int):St:=⟨[(2,.ptr 128 1 0 0),(3,.ptr 192 1 0 0),(27,.ref 896 1 0 a.length),(28,.lit (.int .i64 d)),(29,.lit (.int .i64 h))],[(128,1,.var [.sl (ab GNode.encS e),.sl (ab GTie.enc f),.lit (.int .i64 g)]),(192,1,.var [.sl (ab eI b),.sl (ab eI c)]),(896,1,.row true (ab eI a))],2⟩
attribute[go_sem] lq
def lr (a:List Int)(b:Int)(c:List GNode)(d:List GTie)(e f:Int):St:=⟨[(2,.ptr 128 1 0 0),(55,.sl (ab eI a)),(56,.lit (.int .i64 b)),(57,.lit (.int .i64 f))],[(128,1,.var [.sl (ab GNode.encS c),.sl (ab GTie.enc d),.lit (.int .i64 e)])],2⟩
attribute[go_sem] lr
@[go_sem] def hi156_9:DT:=.r2 0 19 .nil
def AG:Hint where
 acts:=fun _=>[]
 draws:=fun
  | 9=>⟨hi156_9,[[],[0],[],[0,1,2],[0,1,2,3],[],[5],[],[5,6,7],[5,6,7,8],[5,6,7,8,9],[],[11],[],[11,12,13],[11,12,13,14],[11,12,13,14,15],.range 17,.range 18],.range 19⟩
  | _=>⟨.nil,[],[]⟩
theorem KZ (i:Nat):AG.acts i=[]:=rfl
theorem La (i:Nat):AG.views i=none:=rfl
attribute[go_sem] KZ La ntmps156 results156
@[go_sem] theorem Oo:(AG.draws 9).order=hi156_9:=rfl
instance k156 {s:GShow} {v1:GChoice}:Ctr (dd s v1) (fun (res:Bool)=>aj prog 156 [.agg (GShow.encS s),.agg [.sl (ab eI v1.lengths),.sl (ab eI v1.values)]] [] (.lit (.bool res)) []):=⟨by
 intro res h0
 refine co (hi:=AG) func156 rfl rfl ?_
 unfold dd at h0
 obtain⟨r01,g0,h0⟩:=ae h0
 simp(config:=cS)only[go_sem, *]
 have g0:=ctr g0
 refine am g0 ?_
 obtain⟨_,h0⟩|⟨_,h0⟩:=itB h0
 ·obtain⟨r02,g0,h0⟩:=ae h0
  simp(config:=cS)only[go_sem, *]
  have g0:=ctr g0
  refine am g0 ?_
  obtain⟨_,h0⟩|⟨_,h0⟩:=itP h0
  ·obtain⟨_,h0⟩|⟨_,h0⟩:=itP h0
   ·obtain⟨q11,l0,h0⟩:=ae h0
    simp(config:=cS)only[go_sem, *]
    refine ah (m1:=.mk) (m2:=.mk) [.nf [2,3,27,28,29] [128,192,896]] (lq ((r02.length:Nat):Int) s.nodes s.ties s.horizon v1.lengths v1.values r02) l0 ?_ ?_
    ·simp(config:=cS)only[go_sem, *]
    ·have k0:=h0
     clear h0 l0
     intro _ v29_1 _ h0 gb0
     unfold dI at h0
     try dsimp only at h0
     obtain⟨_,h0⟩|⟨_,h0⟩:=itP h0
     ·exact run
     ·cases h0
      obtain rfl:=(aP gb0).symm
      clear gb0
      have h0:=k0
      clear k0
      try dsimp only at h0
      obtain⟨q10,l0,h0⟩:=ae h0
      simp(config:=cS)only[go_sem, *]
      refine ah (m1:=.mk) (m2:=.mk) [.nf [2,55,56,57] [128]] (lr v1.values ((v1.values.length:Nat):Int) s.nodes s.ties s.horizon) l0 ?_ ?_
      ·simp(config:=cS)only[go_sem, *]
      ·have k0:=h0
       clear h0 l0
       intro _ v57_2 _ h0 gb0
       unfold dJ at h0
       try dsimp only at h0
       exact run
   ·exact run
  ·exact run
 ·exact run⟩
def lu (v d:List Int)(a:Int):(Int × Int)→St
 | (b,c)=>⟨[(1,.sl (ab eI v)),(5,.lit (.int .i64 b)),(9,.sl (ab eI d)),(10,.lit (.int .i64 a)),(11,.lit (.int .i64 c))],[],2⟩
attribute[go_sem] lu
instance k157 {l:List Int} {v:List Int}:Ctr (fO l v) (fun (res:Int)=>aj prog 157 [.sl (ab eI l),.sl (ab eI v)] [] (.lit (.int .i64 res)) []):=⟨by
 intro res h0
 refine co (hi:=hi00) func157 rfl rfl ?_
 unfold fO at h0
 obtain⟨q04,l0,h0⟩:=ae h0
 simp(config:=cS)only[go_sem, *]
 refine ah (m1:=.mk) (m2:=.mk) [.nf [1,5,9,10,11] []] (lu v l ((l.length:Nat):Int)) l0 ?_ ?_
 ·simp(config:=cS)only[go_sem, *]
 ·have k0:=h0
  clear h0 l0
  intro _ s0 _ h0 gb0
  obtain⟨out_1,v11_1⟩:=s0
  unfold fD at h0
  try dsimp only at h0
  exact run⟩
def kM (d e:Int)(b c a:List Int)(f:Int):St:=⟨[(2,.lit (.int .i64 d)),(4,.ptr 256 1 0 0),(10,.ref 640 1 0 a.length),(11,.lit (.int .i64 e)),(12,.lit (.int .i64 f))],[(256,1,.var [.sl (ab eI b),.sl (ab eI c)]),(640,1,.row true (ab eI a))],2⟩
attribute[go_sem] kM
instance k158 {s:GShow} {v1:GChoice} {tie:Int}:Ctr (gR s v1 tie) (fun (res:Int)=>aj prog 158 [.agg (GShow.encS s),.agg [.sl (ab eI v1.lengths),.sl (ab eI v1.values)],.lit (.int .i64 tie)] [] (.lit (.int .i64 res)) []):=⟨by
 intro res h0
 refine co (hi:=hi00) func158 rfl rfl ?_
 unfold gR at h0
 obtain⟨r01,g0,h0⟩:=ae h0
 simp(config:=cS)only[go_sem, *]
 have g0:=ctr g0
 refine am g0 ?_
 obtain⟨q04,l0,h0⟩:=ae h0
 simp(config:=cS)only[go_sem, *]
 refine ah (m1:=.mk) (m2:=.mk) [.nf [2,4,10,11,12] [256,640]] (kM tie ((r01.length:Nat):Int) v1.lengths v1.values r01) l0 ?_ ?_
 ·simp(config:=cS)only[go_sem, *]
 ·have k0:=h0
  clear h0 l0
  intro _ v12_1 _ h0 gb0
  unfold dj at h0
  try dsimp only at h0
  exact run⟩
instance k167 {i:ap}:Ctr (cV i) (fun (res:Bool)=>aj prog 167 [.agg [.lit (.int .i64 i.low),.lit (.int .i64 i.high)]] [] (.lit (.bool res)) []):=⟨by
 intro res h0
 refine co (hi:=hi00) func167 rfl rfl ?_
 unfold cV at h0
 exact run⟩
def lv (a:List GLink)(b c d:Int):St:=⟨[(1,.ptr 64 1 0 0),(16,.sl (ab GLink.enc a)),(17,.lit (.int .i64 b)),(18,.lit (.int .i64 d))],[(64,1,.var [.lit (.int .i64 c),.sl (ab GLink.enc a)])],2⟩
attribute[go_sem] lv
instance k161 {s:ag}:Ctr (ej s) (fun (res:Bool)=>aj prog 161 [.agg [.lit (.int .i64 s.events),.sl (ab GLink.enc s.links)]] [] (.lit (.bool res)) []):=⟨by
 intro res h0
 refine co (hi:=hi00) func161 rfl rfl ?_
 unfold ej at h0
 obtain⟨r01,g0,h0⟩:=ae h0
 simp(config:=cS)only[go_sem, *]
 have g0:=ctr g0
 refine am g0 ?_
 obtain⟨_,h0⟩|⟨_,h0⟩:=itB h0
 ·obtain⟨_,h0⟩|⟨_,h0⟩:=itP h0
  ·exact run
  ·obtain⟨q06,l0,h0⟩:=ae h0
   simp(config:=cS)only[go_sem, *]
   refine ah (m1:=.mk) (m2:=.mk) [.nf [1,16,17,18] [64]] (lv s.links ((s.links.length:Nat):Int) s.events) l0 ?_ ?_
   ·simp(config:=cS)only[go_sem, *]
   ·have k0:=h0
    clear h0 l0
    intro _ v18_1 _ h0 gb0
    unfold dK at h0
    try dsimp only at h0
    exact run
 ·exact run⟩
def jV (c:List GNode)(d:Int)(g:List GTie)(h:Int)(e f:List Int):(Int × (List Bool) × (List GLink))→St
 | (i,b,a)=>⟨[(2,.ptr 128 1 0 0),(3,.ptr 192 1 0 0),(4,.ptr 256 1 0 0),(6,.ptr 384 1 0 0),(7,.ref 1728 1 0 b.length),(29,.sl (ab GNode.encS c)),(30,.lit (.int .i64 d)),(31,.lit (.int .i64 i))],[(128,1,.var [.sl (ab GNode.encS c),.sl (ab GTie.enc g),.lit (.int .i64 h)]),(192,1,.var [.sl (ab eI e),.sl (ab eI f)]),(256,1,.var [.lit (.int .i64 0),.lit (.slice none 0 0)]),(384,1,.var [.lit (.int .i64 d),.ref 100024577 1 0 a.length]),(100024577,1,.row true (ab GLink.enc a)),(1728,1,.row true (ab eB b))],2⟩
attribute[go_sem] jV
def jW (d:List GTie)(g:Int)(h:List GNode)(i:Int)(e f:List Int)(c:Int)(b:List Bool):(Int × (List GLink))→St
 | (j,a)=>⟨[(2,.ptr 128 1 0 0),(3,.ptr 192 1 0 0),(4,.ptr 256 1 0 0),(6,.ptr 384 1 0 0),(7,.ref 1728 1 0 b.length),(61,.sl (ab GTie.enc d)),(62,.lit (.int .i64 g)),(63,.lit (.int .i64 j))],[(128,1,.var [.sl (ab GNode.encS h),.sl (ab GTie.enc d),.lit (.int .i64 i)]),(192,1,.var [.sl (ab eI e),.sl (ab eI f)]),(256,1,.var [.lit (.int .i64 0),.lit (.slice none 0 0)]),(384,1,.var [.lit (.int .i64 c),.ref 100024577 1 0 a.length]),(100024577,1,.row true (ab GLink.enc a)),(1728,1,.row true (ab eB b))],2⟩
attribute[go_sem] jW
def jX (c:Int)(e:List GNode)(f:List GTie)(g:Int)(b:List Bool):(Int × (List GLink))→St
 | (d,a)=>⟨[(2,.ptr 128 1 0 0),(4,.ptr 256 1 0 0),(6,.ptr 384 1 0 0),(7,.ref 1728 1 0 b.length),(114,.lit (.int .i64 c)),(115,.lit (.int .i64 d))],[(128,1,.var [.sl (ab GNode.encS e),.sl (ab GTie.enc f),.lit (.int .i64 g)]),(256,1,.var [.lit (.int .i64 0),.lit (.slice none 0 0)]),(384,1,.var [.lit (.int .i64 c),.ref 100024577 1 0 a.length]),(100024577,1,.row true (ab GLink.enc a)),(1728,1,.row true (ab eB b))],2⟩
attribute[go_sem] jX
def jY (i:Int)(c:List GNode)(d:Int)(e:List Int)(f:Int)(h:List GTie)(j:Int)(b:List Bool):(Int × (List GLink))→St
 | (g,a)=>⟨[(2,.ptr 128 1 0 0),(4,.ptr 256 1 0 0),(6,.ptr 384 1 0 0),(7,.ref 1728 1 0 b.length),(14,.lit (.int .i64 i)),(132,.sl (ab GNode.encS c)),(133,.lit (.int .i64 d)),(134,.lit (.int .i64 i)),(140,.sl (ab eI e)),(141,.lit (.int .i64 f)),(142,.lit (.int .i64 g))],[(128,1,.var [.sl (ab GNode.encS c),.sl (ab GTie.enc h),.lit (.int .i64 j)]),(256,1,.var [.lit (.int .i64 0),.lit (.slice none 0 0)]),(384,1,.var [.lit (.int .i64 d),.ref 100024577 1 0 a.length]),(100024577,1,.row true (ab GLink.enc a)),(1728,1,.row true (ab eB b))],2⟩
attribute[go_sem] jY
def jZ (c:List GNode)(d:Int)(f:List GTie)(g:Int)(b:List Bool):(Int × (List GLink))→St
 | (e,a)=>⟨[(2,.ptr 128 1 0 0),(4,.ptr 256 1 0 0),(6,.ptr 384 1 0 0),(7,.ref 1728 1 0 b.length),(132,.sl (ab GNode.encS c)),(133,.lit (.int .i64 d)),(134,.lit (.int .i64 e))],[(128,1,.var [.sl (ab GNode.encS c),.sl (ab GTie.enc f),.lit (.int .i64 g)]),(256,1,.var [.lit (.int .i64 0),.lit (.slice none 0 0)]),(384,1,.var [.lit (.int .i64 d),.ref 100024577 1 0 a.length]),(100024577,1,.row true (ab GLink.enc a)),(1728,1,.row true (ab eB b))],2⟩
attribute[go_sem] jZ
@[go_sem] def hi60_35:DT:=.i1 0 (.i1 1 (.i1 2 (.i2 3 (.i2 6 (.i2 7 (.i0 4 [0,1,2] (.i0 5 [0,1] (.i2 8 (.i0 9 [0,1] (.r2 10 3 .nil))))))))))
def hi60:Hint where
 acts:=fun _=>[]
 draws:=fun
  | 35=>⟨hi60_35,[[],[0],[],[],[3],[2,3,4],[],[],[2,3,4,5,6,7],[2,3,4,5,6,7,8],.range 10,.range 11,.range 12],.range 13⟩
  | _=>⟨.nil,[],[]⟩
theorem ME (i:Nat):hi60.acts i=[]:=rfl
theorem MF (i:Nat):hi60.views i=none:=rfl
attribute[go_sem] ME MF ntmps60 results60
@[go_sem] theorem Oq:(hi60.draws 35).order=hi60_35:=rfl
instance k60 {s:GShow} {v1:GChoice}:Ctr (fE s v1) (fun (res:ag × Bool)=>aj prog 60 [.agg (GShow.encS s),.agg [.sl (ab eI v1.lengths),.sl (ab eI v1.values)]] [] (.tup [.agg [.lit (.int .i64 res.1.events),.ref 20000 1 0 res.1.links.length],.lit (.bool res.2)]) [(20000,1,.row true (ab GLink.enc res.1.links))]):=⟨by
 intro res h0
 refine bd (ra:=[.homeCell 256 1]) (md:=mdT) hT (hi:=hi60) func60 rfl rfl (by decide +kernel) (by simp) ?_
 unfold fE at h0
 obtain⟨r01,g0,h0⟩:=ae h0
 simp(config:=cS)only[go_sem, *]
 have g0:=ctr g0
 refine am g0 ?_
 obtain⟨_,h0⟩|⟨_,h0⟩:=itB h0
 ·obtain⟨q20,l0,h0⟩:=ae h0
  simp(config:=cS)only[go_sem, *]
  refine ah (m1:=.mk) (m2:=.mk) [.homeCell 384 1,.nf [2,3,4,6,7,29,30,31] [128,192,256,384,100024577,1728]] (jV s.nodes ((s.nodes.length:Nat):Int) s.ties s.horizon v1.lengths v1.values) l0 ?_ ?_
  ·simp(config:=cS)only[go_sem, *]
  ·have k0:=h0
   clear h0 l0
   intro _ s0 _ h0 gb0
   obtain⟨v31_1,happens_1,h100024577_1⟩:=s0
   unfold cw at h0
   try dsimp only at h0
   obtain⟨_,h0⟩|⟨_,h0⟩:=itP h0
   ·obtain⟨x02,_,_,_,h0⟩:=gtI h0
    obtain⟨r03,g0,h0⟩:=ae h0
    simp(config:=cS)only[go_sem, *]
    have g0:=ctr g0
    refine am g0 ?_
    obtain⟨_,h0⟩:=ckP h0
    obtain⟨_,h0⟩:=ckP h0
    obtain⟨x04,a1,a2,a3,h0⟩:=gtI h0
    try simp only[List.length_append,List.length_cons,List.length_nil,Nat.zero_add,Nat.reduceAdd]at a1
    try simp only[List.length_append,List.length_cons,List.length_nil,Nat.zero_add,Nat.reduceAdd]at a2
    try simp only[List.length_append,List.length_cons,List.length_nil,Nat.zero_add,Nat.reduceAdd]at a3
    exact run
   ·cases h0
    obtain rfl:=(aP gb0).symm
    clear gb0
    have h0:=k0
    clear k0
    try dsimp only at h0
    obtain⟨q19,l0,h0⟩:=ae h0
    simp(config:=cS)only[go_sem, *]
    refine ah (m1:=.mk) (m2:=.mk) [.nf [2,3,4,6,7,61,62,63] [128,192,256,384,100024577,1728]] (jW s.ties ((s.ties.length:Nat):Int) s.nodes s.horizon v1.lengths v1.values ((s.nodes.length:Nat):Int) happens_1) l0 ?_ ?_
    ·simp(config:=cS)only[go_sem, *]
    ·have k0:=h0
     clear h0 l0
     intro _ s0 _ h0 gb0
     obtain⟨v63_2,h100024577_2⟩:=s0
     unfold cy at h0
     try dsimp only at h0
     obtain⟨_,h0⟩|⟨_,h0⟩:=itP h0
     ·exact run
     ·cases h0
      obtain rfl:=(aP gb0).symm
      clear gb0
      have h0:=k0
      clear k0
      try dsimp only at h0
      obtain⟨q18,l0,h0⟩:=ae h0
      simp(config:=cS)only[go_sem, *]
      refine ah (m1:=.mk) (m2:=.mk) [.nf [2,4,6,7,114,115] [128,256,384,100024577,1728]] (jX ((s.nodes.length:Nat):Int) s.nodes s.ties s.horizon happens_1) l0 ?_ ?_
      ·simp(config:=cS)only[go_sem, *]
      ·have k0:=h0
       clear h0 l0
       intro _ s0 _ h0 gb0
       obtain⟨v115_3,h100024577_3⟩:=s0
       unfold cz at h0
       try dsimp only at h0
       obtain⟨_,h0⟩|⟨_,h0⟩:=itP h0
       ·exact run
       ·cases h0
        obtain rfl:=(aP gb0).symm
        clear gb0
        have h0:=k0
        clear k0
        try dsimp only at h0
        obtain⟨q17,l0,h0⟩:=ae h0
        simp(config:=cS)only[go_sem, *]
        refine ah (m1:=.mk) (m2:=.mk) [.nf [2,4,6,7,132,133,134] [128,256,384,100024577,1728]] (jZ s.nodes ((s.nodes.length:Nat):Int) s.ties s.horizon happens_1) l0 ?_ ?_
        ·simp(config:=cS)only[go_sem, *]
        ·have k0:=h0
         clear h0 l0
         intro _ s0 _ h0 gb0
         obtain⟨v134_4,h100024577_4⟩:=s0
         unfold cB at h0
         try dsimp only at h0
         obtain⟨_,h0⟩|⟨_,h0⟩:=itP h0
         ·obtain⟨x10,_,_,_,h0⟩:=gtI h0
          obtain⟨q15,l0,h0⟩:=ae h0
          simp(config:=cS)only[go_sem, *]
          refine ah (m1:=.mk) (m2:=.mk) [.nf [2,4,6,7,14,132,133,134,140,141,142] [128,256,384,100024577,1728]] (jY v134_4 s.nodes ((s.nodes.length:Nat):Int) x10.label ((x10.label.length:Nat):Int) s.ties s.horizon happens_1) l0 ?_ ?_
          ·simp(config:=cS)only[go_sem, *]
          ·have k0:=h0
           clear h0 l0
           intro _ s0 _ h0 gb0
           obtain⟨v142_5,h100024577_5⟩:=s0
           unfold cA at h0
           try dsimp only at h0
           exact run
         ·exact run
 ·exact run⟩
def lw (c:List GLink)(d:Int):(Int × (List GEdge) × (List Int))→St
 | (e,b,a)=>⟨[(4,.ref 512 1 0 b.length),(5,.ref 576 1 0 a.length),(11,.sl (ab GLink.enc c)),(12,.lit (.int .i64 d)),(13,.lit (.int .i64 e))],[(512,1,.row true (ab GEdge.enc b)),(576,1,.row true (ab eI a))],2⟩
attribute[go_sem] lw
instance k247 {s:ag}:Ctr (ib s) (fun (res:(List GEdge) × (List Int))=>aj prog 247 [.agg [.lit (.int .i64 s.events),.sl (ab GLink.enc s.links)]] [] (.tup [.ref 20000 1 0 res.1.length,.ref 20001 1 0 res.2.length]) [(20000,1,.row true (ab GEdge.enc res.1)),(20001,1,.row true (ab eI res.2))]):=⟨by
 intro res h0
 refine bd (ra:=[.home 2,.home 3]) (md:=mdT) hT (hi:=hi00) func247 rfl rfl (by decide +kernel) (by simp) ?_
 unfold ib at h0
 obtain⟨q02,l0,h0⟩:=ae h0
 simp(config:=cS)only[go_sem, *]
 refine ah (m1:=.mk) (m2:=.mk) [.nf [4,5,11,12,13] [512,576]] (lw s.links ((s.links.length:Nat):Int)) l0 ?_ ?_
 ·simp(config:=cS)only[go_sem, *]
 ·have k0:=h0
  clear h0 l0
  intro _ s0 _ h0 gb0
  obtain⟨v13_1,out_1,from__1⟩:=s0
  unfold dL at h0
  try dsimp only at h0
  obtain⟨_,h0⟩|⟨_,h0⟩:=itP h0
  ·obtain⟨x01,_,_,_,h0⟩:=gtI h0
   obtain⟨_,h0⟩|⟨_,h0⟩:=itP h0
   ·exact run
   ·obtain⟨_,h0⟩:=ckP h0
    obtain⟨_,h0⟩:=ckP h0
    obtain⟨_,h0⟩:=ckP h0
    obtain⟨_,h0⟩:=ckP h0
    obtain⟨_,h0⟩|⟨_,h0⟩:=itP h0
    ·exact run
    ·obtain⟨a1,h0⟩:=ckP h0
     try simp(config:=cS)only[go_sem]at a1
     obtain⟨a2,h0⟩:=ckP h0
     try simp(config:=cS)only[go_sem]at a2
     obtain⟨a3,h0⟩:=ckP h0
     try simp(config:=cS)only[go_sem]at a3
     obtain⟨a4,h0⟩:=ckP h0
     try simp(config:=cS)only[go_sem]at a4
     exact run
  ·exact run⟩
instance k163 {s:ag}:Ctr (gJ s) (fun (res:GGraph)=>aj prog 163 [.agg [.lit (.int .i64 s.events),.sl (ab GLink.enc s.links)]] [] (.agg [.lit (.int .i64 res.nodes),.ref 20000 1 0 res.edges.length]) [(20000,1,.row true (ab GEdge.enc res.edges))]):=⟨by
 intro res h0
 refine bd (ra:=[.homeCell 128 1]) (md:=mdT) hT (hi:=hi00) func163 rfl rfl (by decide +kernel) (by simp) ?_
 unfold gJ at h0
 exact run⟩
def mb (a:List GEdge)(b c d:Int):St:=⟨[(1,.ptr 64 1 0 0),(16,.sl (ab GEdge.enc a)),(17,.lit (.int .i64 b)),(18,.lit (.int .i64 d))],[(64,1,.var [.lit (.int .i64 c),.sl (ab GEdge.enc a)])],2⟩
attribute[go_sem] mb
instance k245 {g:GGraph}:Ctr (fj g) (fun (res:Bool)=>aj prog 245 [.agg [.lit (.int .i64 g.nodes),.sl (ab GEdge.enc g.edges)]] [] (.lit (.bool res)) []):=⟨by
 intro res h0
 refine co (hi:=hi00) func245 rfl rfl ?_
 unfold fj at h0
 obtain⟨r01,g0,h0⟩:=ae h0
 simp(config:=cS)only[go_sem, *]
 have g0:=ctr g0
 refine am g0 ?_
 obtain⟨_,h0⟩|⟨_,h0⟩:=itB h0
 ·obtain⟨_,h0⟩|⟨_,h0⟩:=itP h0
  ·exact run
  ·obtain⟨q06,l0,h0⟩:=ae h0
   simp(config:=cS)only[go_sem, *]
   refine ah (m1:=.mk) (m2:=.mk) [.nf [1,16,17,18] [64]] (mb g.edges ((g.edges.length:Nat):Int) g.nodes) l0 ?_ ?_
   ·simp(config:=cS)only[go_sem, *]
   ·have k0:=h0
    clear h0 l0
    intro _ v18_1 _ h0 gb0
    unfold eD at h0
    try dsimp only at h0
    exact run
 ·exact run⟩
def lx (e f g:Bool)(h:List GEdge)(i:Int):(Int × Int × (List Int) × (List Int) × (List Bool))→St
 | (b,j,d,c,a)=>⟨[(1,.ref 10000 0 0 d.length),(2,.ref 10001 0 0 c.length),(3,.ref 10002 0 0 a.length),(9,.lit (.int .i64 b)),(13,.sl (ab GEdge.enc h)),(14,.lit (.int .i64 i)),(15,.lit (.int .i64 j))],[(10000,0,.row e (ab eI d)),(10001,0,.row f (ab eI c)),(10002,0,.row g (ab eB a))],2⟩
attribute[go_sem] lx
@[go_sem] def hi246_6:DT:=.r2 0 13 .nil
@[go_sem] def hi246_5:DT:=.r2 0 29 .nil
def wT:Hint where
 acts:=fun _=>[]
 draws:=fun
  | 5=>⟨hi246_5,[[],[],[1],[0,1,2],[0,1,2,3],.range 5,.range 6,.range 6,[0,1,2,3,4,5,7],.range 9,.range 10,.range 11,.range 12,.range 13,.range 13,[0,1,2,3,4,5,6,7,8,9,10,11,12,14],.range 16,.range 17,.range 13,[0,1,2,3,4,5,6,7,8,9,10,11,12,18],.range 20,.range 13,.range 13,[0,1,2,3,4,5,6,7,8,9,10,11,12,22],[0,1,2,3,4,5,6,7,8,9,10,11,12,21,22,23],[0,1,2,3,4,5,6,7,8,9,10,11,12,21,22,23,24],.range 26,.range 27,.range 28],.range 29⟩
  | 6=>⟨hi246_6,[[],[],[1],[],[],[4],[3,4,5],[3,4,5,6],[],[8],[3,4,5,6,7,8,9],.range 11,.range 12],.range 13⟩
  | _=>⟨.nil,[],[]⟩
theorem Lb (i:Nat):wT.acts i=[]:=rfl
theorem Lc (i:Nat):wT.views i=none:=rfl
attribute[go_sem] Lb Lc ntmps246 results246
@[go_sem] theorem Ot:(wT.draws 5).order=hi246_5:=rfl
@[go_sem] theorem Ou:(wT.draws 6).order=hi246_6:=rfl
theorem oZ {g:GGraph}{d last:List Int}{known:List Bool}{zb0 zb1 zb2:Bool}{res:Int × (List Int) × (List Int) × (List Bool)}(h0:fP g d last known=some res):aj prog 246 [.agg [.lit (.int .i64 g.nodes),.sl (ab GEdge.enc g.edges)],.ref 10000 0 0 d.length,.ref 10001 0 0 last.length,.ref 10002 0 0 known.length] [(10000,0,.row zb0 (ab eI d)),(10001,0,.row zb1 (ab eI last)),(10002,0,.row zb2 (ab eB known))] (.lit (.int .i64 res.1)) [(10000,0,.row zb0 (ab eI res.2.1)),(10001,0,.row zb1 (ab eI res.2.2.1)),(10002,0,.row zb2 (ab eB res.2.2.2))]:=by
 refine co (hi:=wT) func246 rfl rfl ?_
 unfold fP at h0
 obtain⟨q10,l0,h0⟩:=ae h0
 simp(config:=cS)only[go_sem, *]
 refine ah (m1:=.mk) (m2:=.mk) [.nf [1,2,3,9,13,14,15] [10000,10001,10002]] (lx zb0 zb1 zb2 g.edges ((g.edges.length:Nat):Int)) l0 ?_ ?_
 ·simp(config:=cS)only[go_sem, *]
 ·have k0:=h0
  clear h0 l0
  intro _ s0 _ h0 gb0
  obtain⟨changed_1,v15_1,d_1,last_1,known_1⟩:=s0
  unfold fF at h0
  try dsimp only at h0
  exact run
def jj (c e:Int)(f:List GEdge)(d:List Int):(Int × (List Int) × (List Bool))→St
 | (g,b,a)=>⟨[(1,.ptr 64 1 0 0),(3,.ref 1472 1 0 d.length),(4,.ref 1664 1 0 b.length),(5,.ref 1856 1 0 a.length),(31,.lit (.int .i64 c)),(32,.lit (.int .i64 g))],[(64,1,.var [.lit (.int .i64 e),.sl (ab GEdge.enc f)]),(1472,1,.row true (ab eI d)),(1664,1,.row true (ab eI b)),(1856,1,.row true (ab eB a))],2⟩
attribute[go_sem] jj
def jk (e:Int)(f:List GEdge):(Int × Int × (List Int) × (List Int) × (List Bool))→St
 | (b,i,d,c,a)=>⟨[(1,.ptr 64 1 0 0),(3,.ref 1472 1 0 d.length),(4,.ref 1664 1 0 c.length),(5,.ref 1856 1 0 a.length),(7,.lit (.int .i64 b)),(8,.lit (.int .i64 i))],[(64,1,.var [.lit (.int .i64 e),.sl (ab GEdge.enc f)]),(1472,1,.row true (ab eI d)),(1664,1,.row true (ab eI c)),(1856,1,.row true (ab eB a))],2⟩
attribute[go_sem] jk
def jl (b:Int)(c:List GEdge)(a:List Int):(Int × Int)→St
 | (d,i)=>⟨[(1,.ptr 64 1 0 0),(4,.ref 1664 1 0 a.length),(9,.lit (.int .i64 d)),(10,.lit (.int .i64 i))],[(64,1,.var [.lit (.int .i64 b),.sl (ab GEdge.enc c)]),(1664,1,.row true (ab eI a))],2⟩
attribute[go_sem] jl
def jm (c d:Int)(e:List GEdge)(a:List Int):(Int × (List Int))→St
 | (k,b)=>⟨[(1,.ptr 64 1 0 0),(4,.ref 1664 1 0 a.length),(9,.lit (.int .i64 c)),(11,.ref 4864 1 0 b.length),(12,.lit (.int .i64 k))],[(64,1,.var [.lit (.int .i64 d),.sl (ab GEdge.enc e)]),(1664,1,.row true (ab eI a)),(4864,1,.row true (ab eI b))],2⟩
attribute[go_sem] jm
@[go_sem] def hi162_28:DT:=.r2 0 10 .nil
@[go_sem] def hi162_23:DT:=.r2 0 10 .nil
def wU:Hint where
 acts:=fun _=>[]
 draws:=fun
  | 23=>⟨hi162_23,[[],[0],[],[],[2,3],[2,3,4],.range 6,.range 7,.range 8,.range 9],.range 10⟩
  | 28=>⟨hi162_28,[[],[0],[],[],[2,3],[2,3,4],.range 6,.range 7,.range 8,.range 9],.range 10⟩
  | _=>⟨.nil,[],[]⟩
theorem Ld (i:Nat):wU.acts i=[]:=rfl
theorem Le (i:Nat):wU.views i=none:=rfl
attribute[go_sem] Ld Le ntmps162 results162
@[go_sem] theorem Nu:(wU.draws 23).order=hi162_23:=rfl
@[go_sem] theorem Nv:(wU.draws 28).order=hi162_28:=rfl
instance k162 {g:GGraph}:Ctr (ek g) (fun (res:List Int)=>aj prog 162 [.agg [.lit (.int .i64 g.nodes),.sl (ab GEdge.enc g.edges)]] [] (.ref 20000 1 0 res.length) [(20000,1,.row true (ab eI res))]):=⟨by
 intro res h0
 refine bd (ra:=[.home 2]) (md:=mdT) hT (hi:=wU) func162 rfl rfl (by decide +kernel) (by simp) ?_
 unfold ek at h0
 obtain⟨r01,g0,h0⟩:=ae h0
 simp(config:=cS)only[go_sem, *]
 have g0:=ctr g0
 refine am g0 ?_
 obtain⟨_,h0⟩|⟨_,h0⟩:=itB h0
 ·obtain⟨_,h0⟩|⟨_,h0⟩:=itP h0
  ·exact run
  ·obtain⟨_,h0⟩:=ckP h0
   obtain⟨_,h0⟩:=ckP h0
   obtain⟨_,h0⟩:=ckP h0
   obtain⟨_,h0⟩:=ckP h0
   obtain⟨q15,l0,h0⟩:=ae h0
   simp(config:=cS)only[go_sem, *]
   refine ah (m1:=.mk) (m2:=.mk) [.nf [1,3,4,5,31,32] [64,1472,1664,1856]] (jj ((g.nodes.toNat:Nat):Int) g.nodes g.edges (List.replicate g.nodes.toNat 0)) l0 ?_ ?_
   ·simp(config:=cS)only[go_sem, *]
   ·have k0:=h0
    clear h0 l0
    intro _ s0 _ h0 gb0
    obtain⟨v32_1,last_1,known_1⟩:=s0
    unfold bW at h0
    try dsimp only at h0
    obtain⟨_,h0⟩|⟨_,h0⟩:=itP h0
    ·exact run
    ·cases h0
     obtain rfl:=(aP gb0).symm
     clear gb0
     have h0:=k0
     clear k0
     try dsimp only at h0
     obtain⟨q14,l0,h0⟩:=ae h0
     simp(config:=cS)only[go_sem, *]
     refine ah (m1:=.mk) (m2:=.mk) [.nf [1,3,4,5,7,8] [64,1472,1664,1856]] (jk g.nodes g.edges) l0 ?_ ?_
     ·simp(config:=cS)only[go_sem, *]
     ·have k0:=h0
      clear h0 l0
      intro _ s0 _ h0 gb0
      obtain⟨changed_2,i_2,d_2,last_2,known_2⟩:=s0
      unfold bX at h0
      try dsimp only at h0
      obtain⟨_,h0⟩|⟨_,h0⟩:=itP h0
      ·obtain⟨r04,g0,h0⟩:=ae h0
       simp(config:=cS)only[go_sem, *]
       refine am (oZ g0) ?_
       exact run
      ·cases h0
       obtain rfl:=(aP gb0).symm
       clear gb0
       have h0:=k0
       clear k0
       try dsimp only at h0
       obtain⟨_,h0⟩|⟨_,h0⟩:=itP h0
       ·exact run
       ·obtain⟨x05,_,_,_,h0⟩:=gtI h0
        obtain⟨q13,l0,h0⟩:=ae h0
        simp(config:=cS)only[go_sem, *]
        refine ah (m1:=.mk) (m2:=.mk) [.nf [1,4,9,10] [64,1664]] (jl g.nodes g.edges last_2) l0 ?_ ?_
        ·simp(config:=cS)only[go_sem, *]
        ·have k0:=h0
         clear h0 l0
         intro _ s0 _ h0 gb0
         obtain⟨at__3,i_3⟩:=s0
         unfold bY at h0
         try dsimp only at h0
         obtain⟨_,h0⟩|⟨_,h0⟩:=itP h0
         ·exact run
         ·cases h0
          obtain rfl:=(aP gb0).symm
          clear gb0
          have h0:=k0
          clear k0
          try dsimp only at h0
          obtain⟨q12,l0,h0⟩:=ae h0
          simp(config:=cS)only[go_sem, *]
          refine ah (m1:=.mk) (m2:=.mk) [.nfp [1,4,9,11,12] [(64,64),(1664,1664),(5760,4864),(4864,4864)] []] (jm at__3 g.nodes g.edges last_2) l0 ?_ ?_
          ·simp(config:=cS)only[go_sem, *]
          ·have k0:=h0
           clear h0 l0
           intro _ s0 _ h0 gb0
           obtain⟨k_4,out_4⟩:=s0
           unfold bZ at h0
           try dsimp only at h0
           exact run
 ·exact run⟩
instance k61 {s:ag}:Ctr (dl s) (fun (res:Bool)=>aj prog 61 [.agg [.lit (.int .i64 s.events),.sl (ab GLink.enc s.links)]] [] (.lit (.bool res)) []):=⟨by
 intro res h0
 refine co (hi:=hi00) func61 rfl rfl ?_
 unfold dl at h0
 exact run⟩
@[go_sem] def hi62_1:DT:=.r2 0 24 .nil
def hi62:Hint where
 acts:=fun _=>[]
 draws:=fun
  | 1=>⟨hi62_1,[[],[],[0,1],[0,1,2],[0,1,2,3],[0,1,2,3],[0,1,2,3,5],[0,1,2,3,5,6],[0,1,2,3,5,6,7],.range 9,.range 10,.range 11,.range 12,.range 13,.range 12,.range 15,.range 16,.range 17,.range 12,[0,1,2,3,4,5,6,7,8,9,10,11,18],.range 20,.range 21,.range 22,.range 23],.range 24⟩
  | _=>⟨.nil,[],[]⟩
theorem MG (i:Nat):hi62.acts i=[]:=rfl
theorem MH (i:Nat):hi62.views i=none:=rfl
attribute[go_sem] MG MH ntmps62 results62
@[go_sem] theorem OY:(hi62.draws 1).order=hi62_1:=rfl
instance k62 {s:GShow} {v1:GChoice} {node:Int}:Ctr (gS s v1 node) (fun (res:Bool)=>aj prog 62 [.agg (GShow.encS s),.agg [.sl (ab eI v1.lengths),.sl (ab eI v1.values)],.lit (.int .i64 node)] [] (.lit (.bool res)) []):=⟨by
 intro res h0
 refine co (hi:=hi62) func62 rfl rfl ?_
 unfold gS at h0
 exact run⟩
def jL (b:Int)(a:List Bool):(Int × (List Int))→St
 | (c,d)=>⟨[(6,.ref 1536 1 0 d.length),(8,.ref 1920 1 0 a.length),(47,.lit (.int .i64 b)),(48,.lit (.int .i64 c))],[(1536,1,.row true (ab eI d)),(1920,1,.row true (ab eB a))],2⟩
attribute[go_sem] jL
def jM (c:Int)(e:List GEdge):(Int × (List Int) × (List Int) × (List Bool))→St
 | (i,d,b,a)=>⟨[(2,.ptr 128 1 0 0),(6,.ref 1536 1 0 d.length),(7,.ref 1728 1 0 b.length),(8,.ref 1920 1 0 a.length),(9,.lit (.int .i64 i))],[(128,1,.var [.lit (.int .i64 c),.sl (ab GEdge.enc e)]),(1536,1,.row true (ab eI d)),(1728,1,.row true (ab eI b)),(1920,1,.row true (ab eB a))],2⟩
attribute[go_sem] jM
instance k248 {g:GGraph} {source:Int}:Ctr (dm g source) (fun (res:(List Int) × Bool)=>aj prog 248 [.agg [.lit (.int .i64 g.nodes),.sl (ab GEdge.enc g.edges)],.lit (.int .i64 source)] [] (.tup [.ref 20000 1 0 res.1.length,.lit (.bool res.2)]) [(20000,1,.row true (ab eI res.1))]):=⟨by
 intro res h0
 refine bd (ra:=[.home 4]) (md:=mdT) hT (hi:=hi00) func248 rfl rfl (by decide +kernel) (by simp) ?_
 unfold dm at h0
 obtain⟨r01,g0,h0⟩:=ae h0
 simp(config:=cS)only[go_sem, *]
 have g0:=ctr g0
 refine am g0 ?_
 obtain⟨_,h0⟩|⟨_,h0⟩:=itB h0
 ·obtain⟨r02,g0,h0⟩:=ae h0
  simp(config:=cS)only[go_sem, *]
  have g0:=ctr g0
  refine am g0 ?_
  obtain⟨_,h0⟩|⟨_,h0⟩:=itB h0
  ·obtain⟨_,h0⟩:=ckP h0
   obtain⟨_,h0⟩:=ckP h0
   obtain⟨_,h0⟩:=ckP h0
   obtain⟨_,h0⟩:=ckP h0
   obtain⟨x03,_,_,_,h0⟩:=gtI h0
   obtain⟨q09,l0,h0⟩:=ae h0
   simp(config:=cS)only[go_sem, *]
   refine ah (m1:=.mk) (m2:=.mk) [.nf [2,6,7,8,9] [128,1536,1728,1920]] (jM g.nodes g.edges) l0 ?_ ?_
   ·simp(config:=cS)only[go_sem, *]
   ·have k0:=h0
    clear h0 l0
    intro _ s0 _ h0 gb0
    obtain⟨i_1,d_1,last_1,known_1⟩:=s0
    unfold bz at h0
    try dsimp only at h0
    obtain⟨_,h0⟩|⟨_,h0⟩:=itP h0
    ·obtain⟨r04,g0,h0⟩:=ae h0
     simp(config:=cS)only[go_sem, *]
     refine am (oZ g0) ?_
     obtain⟨_,h0⟩:=ckL h0
     obtain⟨_,h0⟩:=ckL h0
     obtain⟨_,h0⟩:=ckL h0
     obtain⟨_,h0⟩|⟨_,h0⟩:=itP h0
     ·obtain⟨q08,l0,h0⟩:=ae h0
      simp(config:=cS)only[go_sem, *]
      refine ah (m1:=.mk) (m2:=.mk) [.nf [6,8,47,48] [1536,1920]] (jL ((r04.2.1.length:Nat):Int) r04.2.2.2) l0 ?_ ?_
      ·simp(config:=cS)only[go_sem, *]
      ·have k0:=h0
       clear h0 l0
       intro _ s0 _ h0 gb0
       obtain⟨v48_2,d_2⟩:=s0
       unfold cn at h0
       try dsimp only at h0
       exact run
     ·exact run
    ·exact run
  ·exact run
 ·exact run⟩
instance k249 {n:Int}:Ctr (cW n) (fun (res:Int)=>aj prog 249 [.lit (.int .i64 n)] [] (.lit (.int .i64 res)) []):=⟨by
 intro res h0
 refine co (hi:=hi00) func249 rfl rfl ?_
 unfold cW at h0
 exact run⟩
def kB (i d b:Int)(e:List GEdge)(c:List Int):(Int × (List Int))→St
 | (f,a)=>⟨[(1,.ptr 64 1 0 0),(2,.ptr 128 1 0 0),(4,.ptr 256 1 0 0),(5,.lit (.int .i64 i)),(32,.ref 1664 1 0 c.length),(33,.lit (.int .i64 d)),(34,.lit (.int .i64 f))],[(64,1,.var [.lit (.int .i64 b),.sl (ab GEdge.enc e)]),(128,1,.var [.lit (.int .i64 0),.lit (.slice none 0 0)]),(256,1,.var [.lit (.int .i64 b),.ref 100016385 1 0 a.length]),(100016385,1,.row true (ab eI a)),(1664,1,.row true (ab eI c))],2⟩
attribute[go_sem] kB
def kC (b:Int)(c:List GEdge):(Int × (List Int))→St
 | (i,a)=>⟨[(1,.ptr 64 1 0 0),(2,.ptr 128 1 0 0),(4,.ptr 256 1 0 0),(5,.lit (.int .i64 i))],[(64,1,.var [.lit (.int .i64 b),.sl (ab GEdge.enc c)]),(128,1,.var [.lit (.int .i64 0),.lit (.slice none 0 0)]),(256,1,.var [.lit (.int .i64 b),.ref 100016385 1 0 a.length]),(100016385,1,.row true (ab eI a))],2⟩
attribute[go_sem] kC
@[go_sem] def hi165_13:DT:=.i1 0 (.i1 1 (.i2 2 (.i0 3 [0,1] (.i0 4 [0,1] (.r2 5 3 .nil)))))
def AH:Hint where
 acts:=fun _=>[]
 draws:=fun
  | 13=>⟨hi165_13,[[],[0],[],[2],[2,3],.range 5,.range 6,.range 7],.range 8⟩
  | _=>⟨.nil,[],[]⟩
theorem Lf (i:Nat):AH.acts i=[]:=rfl
theorem Lg (i:Nat):AH.views i=none:=rfl
attribute[go_sem] Lf Lg ntmps165 results165
@[go_sem] theorem Nw:(AH.draws 13).order=hi165_13:=rfl
instance k165 {g:GGraph}:Ctr (cX g) (fun (res:ay × Bool)=>aj prog 165 [.agg [.lit (.int .i64 g.nodes),.sl (ab GEdge.enc g.edges)]] [] (.tup [.agg [.lit (.int .i64 res.1.size),.ref 20000 1 0 res.1.cells.length],.lit (.bool res.2)]) [(20000,1,.row true (ab eI res.1.cells))]):=⟨by
 intro res h0
 refine bd (ra:=[.homeCell 128 1]) (md:=mdT) hT (hi:=AH) func165 rfl rfl (by decide +kernel) (by simp) ?_
 unfold cX at h0
 obtain⟨r01,g0,h0⟩:=ae h0
 simp(config:=cS)only[go_sem, *]
 have g0:=ctr g0
 refine am g0 ?_
 obtain⟨_,h0⟩|⟨_,h0⟩:=itB h0
 ·obtain⟨q06,l0,h0⟩:=ae h0
  simp(config:=cS)only[go_sem, *]
  refine ah (m1:=.mk) (m2:=.mk) [.homeCell 256 1,.nf [1,2,4,5] [64,128,256,100016385]] (kC g.nodes g.edges) l0 ?_ ?_
  ·simp(config:=cS)only[go_sem, *]
  ·have k0:=h0
   clear h0 l0
   intro _ s0 _ h0 gb0
   obtain⟨i_1,h100016385_1⟩:=s0
   unfold ce at h0
   try dsimp only at h0
   obtain⟨_,h0⟩|⟨_,h0⟩:=itP h0
   ·obtain⟨r02,g0,h0⟩:=ae h0
    simp(config:=cS)only[go_sem, *]
    have g0:=ctr g0
    refine am g0 ?_
    obtain⟨_,h0⟩|⟨_,h0⟩:=itB h0
    ·obtain⟨q05,l0,h0⟩:=ae h0
     simp(config:=cS)only[go_sem, *]
     refine ah (m1:=.mk) (m2:=.mk) [.homeCell 256 1,.nf [1,2,4,5,32,33,34] [64,128,256,100016385,1664]] (kB i_1 ((r02.1.length:Nat):Int) g.nodes g.edges r02.1) l0 ?_ ?_
     ·simp(config:=cS)only[go_sem, *]
     ·have k0:=h0
      clear h0 l0
      intro _ s0 _ h0 gb0
      obtain⟨v34_2,h100016385_2⟩:=s0
      unfold cd at h0
      try dsimp only at h0
      exact run
    ·exact run
   ·exact run
 ·exact run⟩
def mc (a:List Int)(b c d:Int):St:=⟨[(1,.ptr 64 1 0 0),(21,.sl (ab eI a)),(22,.lit (.int .i64 b)),(23,.lit (.int .i64 d))],[(64,1,.var [.lit (.int .i64 c),.sl (ab eI a)])],2⟩
attribute[go_sem] mc
instance k250 {t:ay}:Ctr (iL t) (fun (res:Bool)=>aj prog 250 [.agg [.lit (.int .i64 t.size),.sl (ab eI t.cells)]] [] (.lit (.bool res)) []):=⟨by
 intro res h0
 refine co (hi:=hi00) func250 rfl rfl ?_
 unfold iL at h0
 obtain⟨r01,g0,h0⟩:=ae h0
 simp(config:=cS)only[go_sem, *]
 have g0:=ctr g0
 refine am g0 ?_
 obtain⟨_,h0⟩|⟨_,h0⟩:=itB h0
 ·obtain⟨_,h0⟩|⟨_,h0⟩:=itP h0
  ·obtain⟨q04,l0,h0⟩:=ae h0
   simp(config:=cS)only[go_sem, *]
   refine ah (m1:=.mk) (m2:=.mk) [.nf [1,21,22,23] [64]] (mc t.cells ((t.cells.length:Nat):Int) t.size) l0 ?_ ?_
   ·simp(config:=cS)only[go_sem, *]
   ·have k0:=h0
    clear h0 l0
    intro _ v23_1 _ h0 gb0
    unfold eE at h0
    try dsimp only at h0
    exact run
  ·exact run
 ·exact run⟩
instance k251 {t:ay} {i:Int} {k:Int}:Ctr (kg t i k) (fun (res:Int)=>aj prog 251 [.agg [.lit (.int .i64 t.size),.sl (ab eI t.cells)],.lit (.int .i64 i),.lit (.int .i64 k)] [] (.lit (.int .i64 res)) []):=⟨by
 intro res h0
 refine co (hi:=hi00) func251 rfl rfl ?_
 unfold kg at h0
 exact run⟩
@[go_sem] def hi166_3:DT:=.i1 0 (.i2 1 (.i2 2 (.i1 5 (.i2 6 (.i2 7 (.fork (.i0 3 [5] (.i2 4 (.fork (.i2 8 (.i2 9 (.i0 10 [0,5] (.i2 11 .nil)))) (.i0 10 [0,5] (.i2 8 (.i2 9 (.i2 11 .nil))))))) (.i0 10 [0,5] (.i0 3 [5] (.i2 4 (.i2 8 (.i2 9 (.i2 11 .nil))))))))))))
def AI:Hint where
 acts:=fun _=>[]
 draws:=fun
  | 3=>⟨hi166_3,[[],[],[],[0,1,2],[0,1,2,3],[],[],[],[0,1,2,3,5,6,7],.range 9,[],.range 11],.range 12⟩
  | _=>⟨.nil,[],[]⟩
theorem Lh (i:Nat):AI.acts i=[]:=rfl
theorem Li (i:Nat):AI.views i=none:=rfl
attribute[go_sem] Lh Li ntmps166 results166
@[go_sem] theorem Ov:(AI.draws 3).order=hi166_3:=rfl
instance k166 {t:ay} {i:Int} {k:Int}:Ctr (cN t i k) (fun (res:ap × Bool)=>aj prog 166 [.agg [.lit (.int .i64 t.size),.sl (ab eI t.cells)],.lit (.int .i64 i),.lit (.int .i64 k)] [] (.tup [.agg [.lit (.int .i64 res.1.low),.lit (.int .i64 res.1.high)],.lit (.bool res.2)]) []):=⟨by
 intro res h0
 refine co (hi:=AI) func166 rfl rfl ?_
 unfold cN at h0
 obtain⟨r01,g0,h0⟩:=ae h0
 simp(config:=cS)only[go_sem, *]
 have g0:=ctr g0
 refine am g0 ?_
 obtain⟨_,h0⟩|⟨_,h0⟩:=itB h0
 ·obtain⟨r02,g0,h0⟩:=ae h0
  simp(config:=cS)only[go_sem, *]
  have g0:=ctr g0
  refine am g0 ?_
  obtain⟨_,h0⟩|⟨_,h0⟩:=itB h0
  ·obtain⟨r03,g0,h0⟩:=ae h0
   simp(config:=cS)only[go_sem, *]
   have g0:=ctr g0
   refine am g0 ?_
   obtain⟨_,h0⟩|⟨_,h0⟩:=itB h0
   ·try simp(config:=cS)only[go_sem, *]
    refine pC ?_ ?_
    ·obtain⟨r04,g0,h0⟩:=ae h0
     simp(config:=cS)only[go_sem, *]
     have g0:=ctr g0
     refine am g0 ?_
     try simp(config:=cS)only[go_sem, *]
     refine pC ?_ ?_
     ·exact run
     ·exact run
    ·exact run
   ·exact run
  ·exact run
 ·exact run⟩
instance k63 {s:ag} {event:Int}:Ctr (fQ s event) (fun (res:ap × Bool)=>aj prog 63 [.agg [.lit (.int .i64 s.events),.sl (ab GLink.enc s.links)],.lit (.int .i64 event)] [] (.tup [.agg [.lit (.int .i64 res.1.low),.lit (.int .i64 res.1.high)],.lit (.bool res.2)]) []):=⟨by
 intro res h0
 refine co (hi:=hi00) func63 rfl rfl ?_
 unfold fQ at h0
 exact run⟩
def kN  : (Int × ByteArray)→St
 | (n,s)=>⟨[(0,.lit (.int .i64 n)),(3,.lit (.string s))],[],2⟩
attribute[go_sem] kN
@[go_sem] def hi145_4:DT:=.i2 0 (.i2 1 (.i2 3 (.i2 4 (.i2 5 (.i1 6 (.fork (.i0 2 [6] (.i2 7 (.i1 8 (.i2 9 (.i2 10 .nil))))) (.i2 7 (.i1 8 (.i0 2 [6,8] (.i2 9 (.i2 10 .nil)))))))))))
def AJ:Hint where
 acts:=fun _=>[]
 draws:=fun
  | 4=>⟨hi145_4,[[],[0],[0,1],[],[3],[3,4],[3,4,5],[3,4,5,6],[3,4,5,6,7],.range 9,.range 10],.range 11⟩
  | _=>⟨.nil,[],[]⟩
theorem Lj (i:Nat):AJ.acts i=[]:=rfl
theorem Lk (i:Nat):AJ.views i=none:=rfl
attribute[go_sem] Lj Lk ntmps145 results145
@[go_sem] theorem Ow:(AJ.draws 4).order=hi145_4:=rfl
theorem rj {rec:Int→Option ByteArray}(hrec:∀ {n:Int} {res:ByteArray},rec n=some res→aj prog 145 [.lit (.int .i64 n)] [] (.lit (.string res)) []){n:Int}{res:ByteArray}(h:bU rec n=some res):aj prog 145 [.lit (.int .i64 n)] [] (.lit (.string res)) []:=by
 refine co (hi:=AJ) func145 rfl rfl ?_
 unfold bU at h
 obtain⟨h1,h⟩|⟨h1,h⟩:=dA h
 ·obtain⟨h2,h⟩|⟨h2,h⟩:=dA h
  ·obtain⟨h3,h⟩:=fS h
   cases h
   simp(config:=cS)only[go_sem,eqT h1,eqT h2,eqT h3]
  ·try simp(config:=cS)only[go_sem,eqT h1,eqF h2]
   refine pC ?_ ?_
   ·obtain⟨r01,g4,h⟩:=ae h
    simp(config:=cS)only[go_sem,eqT h1,eqF h2]
    refine am (hrec g4) ?_
    obtain⟨h5,h⟩:=fS h
    cases h
    simp(config:=cS)only[go_sem,eqT h1,eqF h2,eqT h5]
   ·obtain⟨r02,g6,h⟩:=ae h
    simp(config:=cS)only[go_sem,eqT h1,eqF h2]
    refine am (hrec g6) ?_
    obtain⟨h7,h⟩:=fS h
    cases h
    simp(config:=cS)only[go_sem,eqT h1,eqF h2,eqT h7]
 ·obtain⟨q03,l8,h⟩:=ae h
  simp(config:=cS)only[go_sem,eqF h1]
  refine ah (m1:=.mk) (m2:=.mk) [.nf [0,3] []] (kN) l8 ?_ ?_
  ·simp(config:=cS)only[go_sem,eqF h1]
  ·intro nb9 sb9 bb9 b9 gb9
   obtain⟨n_1,s_1⟩:=sb9
   unfold eR at b9
   try dsimp only at b9
   obtain⟨h10,b9⟩|⟨h10,b9⟩:=dA b9
   ·obtain⟨h11,b9⟩:=fS b9
    cases b9
    simp(config:=cS)only[go_sem,eqF h1,eqT h10,eqT h11]
    refine mZ gb9 ?_
    simp(config:=cS)only[go_sem,eqF h1,eqT h10,eqT h11]
   ·cases b9
    obtain rfl:=(aP gb9).symm
    try dsimp only at h
    obtain⟨h13,h⟩:=fS h
    cases h
    simp(config:=cS)only[go_sem,eqF h1,eqF h10,eqT h13]
theorem pH (fu:Nat):∀ {n:Int} {res:ByteArray},cC fu n=some res→aj prog 145 [.lit (.int .i64 n)] [] (.lit (.string res)) []:=by
 induction fu with
 | zero=>intro _ _ h;cases h
 | succ fu ih=>intro _ _ h;exact rj (@ih) h
theorem uM {n:Int}{res:ByteArray}(h:jc n=some res):aj prog 145 [.lit (.int .i64 n)] [] (.lit (.string res)) []:=pH 40 h
instance k168 {n:Int}:Ctr (gK n) (fun (res:ByteArray)=>aj prog 168 [.lit (.int .i64 n)] [] (.lit (.string res)) []):=⟨by
 intro res h0
 refine co (hi:=hi00) func168 rfl rfl ?_
 unfold gK at h0
 obtain⟨_,h0⟩|⟨_,h0⟩:=itP h0
 ·exact run
 ·obtain⟨_,h0⟩|⟨_,h0⟩:=itP h0
  ·exact run
  ·obtain⟨r01,g0,h0⟩:=ae h0
   simp(config:=cS)only[go_sem, *]
   refine am (uM g0) ?_
   exact run⟩
@[go_sem] def hi64_3:DT:=.i2 0 (.i2 1 (.i1 4 (.i1 5 (.i0 2 [4,5] (.i2 3 (.r2 6 3 .nil))))))
def hi64:Hint where
 acts:=fun _=>[]
 draws:=fun
  | 3=>⟨hi64_3,[[],[0],[0,1],[0,1,2],[],[4],[0,1,2,4,5],.range 7,.range 8],.range 9⟩
  | _=>⟨.nil,[],[]⟩
theorem MI (i:Nat):hi64.acts i=[]:=rfl
theorem MJ (i:Nat):hi64.views i=none:=rfl
attribute[go_sem] MI MJ ntmps64 results64
@[go_sem] theorem OZ:(hi64.draws 3).order=hi64_3:=rfl
instance k64 {i:ap}:Ctr (cD i) (fun (res:ByteArray)=>aj prog 64 [.agg [.lit (.int .i64 i.low),.lit (.int .i64 i.high)]] [] (.lit (.string res)) []):=⟨by
 intro res h0
 refine co (hi:=hi64) func64 rfl rfl ?_
 unfold cD at h0
 obtain⟨r01,g0,h0⟩:=ae h0
 simp(config:=cS)only[go_sem, *]
 have g0:=ctr g0
 refine am g0 ?_
 obtain⟨_,h0⟩|⟨_,h0⟩:=itB h0
 ·obtain⟨r02,g0,h0⟩:=ae h0
  simp(config:=cS)only[go_sem, *]
  have g0:=ctr g0
  refine am g0 ?_
  obtain⟨_,h0⟩:=ckP h0
  obtain⟨r03,g0,h0⟩:=ae h0
  simp(config:=cS)only[go_sem, *]
  have g0:=ctr g0
  refine am g0 ?_
  obtain⟨a1,h0⟩:=ckP h0
  try simp(config:=cS)only[go_sem]at a1
  exact run
 ·exact run⟩
def ka (b:List GNode)(f:Int)(g:List GTie)(h:Int)(d e:List Int)(i:Int)(a:List GLink):(Int × (List ByteArray))→St
 | (j,c)=>⟨[(2,.ptr 128 1 0 0),(3,.ptr 192 1 0 0),(5,.ptr 320 1 0 0),(7,.ref 1600 1 0 c.length),(27,.sl (ab GNode.encS b)),(28,.lit (.int .i64 f)),(29,.lit (.int .i64 j))],[(128,1,.var [.sl (ab GNode.encS b),.sl (ab GTie.enc g),.lit (.int .i64 h)]),(192,1,.var [.sl (ab eI d),.sl (ab eI e)]),(320,1,.var [.lit (.int .i64 i),.ref 960 1 0 a.length]),(960,1,.row true (ab GLink.enc a)),(1600,1,.row true (ab eS c))],2⟩
attribute[go_sem] ka
@[go_sem] def hi11_10:DT:=.i2 0 (.i1 1 (.i1 2 (.i2 3 (.i2 4 (.i0 5 [1,2] (.r2 6 4 .nil))))))
def hi11:Hint where
 acts:=fun _=>[]
 draws:=fun
  | 10=>⟨hi11_10,[[],[],[1],[1,2],[],[4],[1,2,3,4,5],[1,2,3,4,5,6],.range 8,.range 9],.range 10⟩
  | _=>⟨.nil,[],[]⟩
theorem MK (i:Nat):hi11.acts i=[]:=rfl
theorem ML (i:Nat):hi11.views i=none:=rfl
attribute[go_sem] MK ML ntmps11 results11
@[go_sem] theorem Ox:(hi11.draws 10).order=hi11_10:=rfl
instance k11 {s:GShow} {v1:GChoice}:Ctr (fG s v1) (fun (res:List ByteArray)=>aj prog 11 [.agg (GShow.encS s),.agg [.sl (ab eI v1.lengths),.sl (ab eI v1.values)]] [] (.ref 20000 1 0 res.length) [(20000,1,.row true (ab eS res))]):=⟨by
 intro res h0
 refine bd (ra:=[.home 4]) (md:=mdT) hT (hi:=hi11) func11 rfl rfl (by decide +kernel) (by simp) ?_
 unfold fG at h0
 obtain⟨r01,g0,h0⟩:=ae h0
 simp(config:=cS)only[go_sem, *]
 have g0:=ctr g0
 refine am g0 ?_
 obtain⟨_,h0⟩|⟨_,h0⟩:=itB h0
 ·obtain⟨r02,g0,h0⟩:=ae h0
  simp(config:=cS)only[go_sem, *]
  have g0:=ctr g0
  refine am g0 ?_
  obtain⟨_,h0⟩|⟨_,h0⟩:=itB h0
  ·obtain⟨q07,l0,h0⟩:=ae h0
   simp(config:=cS)only[go_sem, *]
   refine ah (m1:=.mk) (m2:=.mk) [.nf [2,3,5,7,27,28,29] [128,192,320,960,1600]] (ka s.nodes ((s.nodes.length:Nat):Int) s.ties s.horizon v1.lengths v1.values r01.1.events r01.1.links) l0 ?_ ?_
   ·simp(config:=cS)only[go_sem, *]
   ·have k0:=h0
    clear h0 l0
    intro _ s0 _ h0 gb0
    obtain⟨v29_1,out_1⟩:=s0
    unfold cE at h0
    try dsimp only at h0
    obtain⟨_,h0⟩|⟨_,h0⟩:=itP h0
    ·obtain⟨x03,_,_,_,h0⟩:=gtI h0
     obtain⟨r04,g0,h0⟩:=ae h0
     simp(config:=cS)only[go_sem, *]
     have g0:=ctr g0
     refine am g0 ?_
     obtain⟨_,h0⟩|⟨_,h0⟩:=itB h0
     ·obtain⟨r05,g0,h0⟩:=ae h0
      simp(config:=cS)only[go_sem, *]
      have g0:=ctr g0
      refine am g0 ?_
      obtain⟨_,h0⟩:=ckP h0
      obtain⟨r06,g0,h0⟩:=ae h0
      simp(config:=cS)only[go_sem, *]
      have g0:=ctr g0
      refine am g0 ?_
      obtain⟨a1,h0⟩:=ckP h0
      try simp(config:=cS)only[go_sem]at a1
      exact run
     ·exact run
    ·exact run
  ·exact run
 ·exact run⟩
def mO (s:ByteArray)(i:Int):St:=⟨[(0,.lit (.string s)),(3,.lit (.int .i64 i))],[],2⟩
attribute[go_sem] mO
@[go_sem] def hi220_4:DT:=.r2 0 22 .nil
def AK:Hint where
 acts:=fun _=>[]
 draws:=fun
  | 4=>⟨hi220_4,[[],[],[0,1],[0,1,2],[0,1,2,3],.range 5,.range 5,.range 7,.range 8,.range 9,[],[],[10,11],[10,11,12],[0,1,2,3,4,10,11,12,13],[0,1,2,3,4,10,11,12,13,14],[0,1,2,3,4,10,11,12,13,14],[0,1,2,3,4,10,11,12,13,14,15,16],[0,1,2,3,4,10,11,12,13,14,15,16,17],[0,1,2,3,4,10,11,12,13,14,15,16,17,18],.range 15,.range 21],[0,1,2,3,4,5,6,7,8,9,10,11,12,13,14,16,17,18,19,20,15,21]⟩
  | _=>⟨.nil,[],[]⟩
theorem Ll (i:Nat):AK.acts i=[]:=rfl
theorem Lm (i:Nat):AK.views i=none:=rfl
attribute[go_sem] Ll Lm ntmps220 results220
@[go_sem] theorem Oy:(AK.draws 4).order=hi220_4:=rfl
instance k220 {s:ByteArray}:Ctr (jx s) (fun (res:Bool)=>aj prog 220 [.lit (.string s)] [] (.lit (.bool res)) []):=⟨by
 intro res h0
 refine co (hi:=AK) func220 rfl rfl ?_
 unfold jx at h0
 obtain⟨q02,l0,h0⟩:=ae h0
 simp(config:=cS)only[go_sem, *]
 refine ah (m1:=.mk) (m2:=.mk) [.nf [0,3] []] (mO s) l0 ?_ ?_
 ·simp(config:=cS)only[go_sem, *]
 ·have k0:=h0
  clear h0 l0
  intro _ i_1 _ h0 gb0
  unfold fk at h0
  try dsimp only at h0
  exact run⟩
instance k215 {l:Int}:Ctr (dz l) (fun (res:Int)=>aj prog 215 [.lit (.int .i64 l)] [] (.lit (.int .i64 res)) []):=⟨by
 intro res h0
 refine co (hi:=hi00) func215 rfl rfl ?_
 unfold dz at h0
 exact run⟩
def mf (l:List Int)(a b:Int):St:=⟨[(0,.sl (ab eI l)),(5,.sl (ab eI l)),(6,.lit (.int .i64 a)),(7,.lit (.int .i64 b))],[],2⟩
attribute[go_sem] mf
instance k214 {l:List Int}:Ctr (dM l) (fun (res:Bool)=>aj prog 214 [.sl (ab eI l)] [] (.lit (.bool res)) []):=⟨by
 intro res h0
 refine co (hi:=hi00) func214 rfl rfl ?_
 unfold dM at h0
 obtain⟨q05,l0,h0⟩:=ae h0
 simp(config:=cS)only[go_sem, *]
 refine ah (m1:=.mk) (m2:=.mk) [.nf [0,5,6,7] []] (mf l ((l.length:Nat):Int)) l0 ?_ ?_
 ·simp(config:=cS)only[go_sem, *]
 ·have k0:=h0
  clear h0 l0
  intro _ v7_1 _ h0 gb0
  unfold eF at h0
  try dsimp only at h0
  exact run⟩
instance k266 {n:GNode}:Ctr (jy n) (fun (res:Bool)=>aj prog 266 [.agg (GNode.encS n)] [] (.lit (.bool res)) []):=⟨by
 intro res h0
 refine co (hi:=hi00) func266 rfl rfl ?_
 unfold jy at h0
 exact run⟩
def ly (a:List GNode)(b c:Int)(d:List GNode)(e:Int)(f:List GTie)(g:Int)(h:ByteArray)(i:List Int)(j k:Int):St:=⟨[(1,.ptr 64 1 0 0),(4,.ptr 256 1 0 0),(35,.sl (ab GNode.encS a)),(36,.lit (.int .i64 b)),(37,.lit (.int .i64 c)),(48,.sl (ab GNode.encS d)),(49,.lit (.int .i64 e)),(50,.lit (.int .i64 k))],[(64,1,.var [.sl (ab GNode.encS a),.sl (ab GTie.enc f),.lit (.int .i64 g)]),(256,1,.var [.lit (.string h),.sl (ab eI i),.lit (.int .i64 j)])],2⟩
attribute[go_sem] ly
def lz (a:List GNode)(b:Int)(c:List GTie)(d e:Int):St:=⟨[(1,.ptr 64 1 0 0),(35,.sl (ab GNode.encS a)),(36,.lit (.int .i64 b)),(37,.lit (.int .i64 e))],[(64,1,.var [.sl (ab GNode.encS a),.sl (ab GTie.enc c),.lit (.int .i64 d)])],2⟩
attribute[go_sem] lz
instance k189 {s:GShow}:Ctr (ic s) (fun (res:Bool)=>aj prog 189 [.agg (GShow.encS s)] [] (.lit (.bool res)) []):=⟨by
 intro res h0
 refine co (hi:=hi00) func189 rfl rfl ?_
 unfold ic at h0
 obtain⟨_,h0⟩|⟨_,h0⟩:=itP h0
 ·exact run
 ·obtain⟨_,h0⟩|⟨_,h0⟩:=itP h0
  ·exact run
  ·obtain⟨x01,g1,h0⟩:=ae h0
   have:=uK (k:=0) g1
   obtain⟨_,h0⟩|⟨_,h0⟩:=itP h0
   ·exact run
   ·obtain⟨_,h0⟩|⟨_,h0⟩:=itP h0
    ·obtain⟨q06,l0,h0⟩:=ae h0
     simp(config:=cS)only[go_sem, *]
     refine ah (m1:=.mk) (m2:=.mk) [.nf [1,35,36,37] [64]] (lz s.nodes ((s.nodes.length:Nat):Int) s.ties s.horizon) l0 ?_ ?_
     ·simp(config:=cS)only[go_sem, *]
     ·have k0:=h0
      clear h0 l0
      intro _ v37_1 _ h0 gb0
      unfold dO at h0
      try dsimp only at h0
      obtain⟨_,h0⟩|⟨_,h0⟩:=itP h0
      ·obtain⟨x02,_,_,_,h0⟩:=gtI h0
       obtain⟨r03,g0,h0⟩:=ae h0
       simp(config:=cS)only[go_sem, *]
       have g0:=ctr g0
       refine am g0 ?_
       obtain⟨_,h0⟩|⟨_,h0⟩:=itB h0
       ·obtain⟨_,h0⟩:=ckP h0
        obtain⟨_,h0⟩:=ckP h0
        obtain⟨q05,l0,h0⟩:=ae h0
        simp(config:=cS)only[go_sem, *]
        refine ah (m1:=.mk) (m2:=.mk) [.nf [1,4,35,36,37,48,49,50] [64,256]] (ly s.nodes ((s.nodes.length:Nat):Int) v37_1 (s.nodes.take v37_1.toNat) (((s.nodes.take v37_1.toNat).length:Nat):Int) s.ties s.horizon x02.name x02.label x02.watch) l0 ?_ ?_
        ·simp(config:=cS)only[go_sem, *]
        ·have k0:=h0
         clear h0 l0
         intro _ v50_2 _ h0 gb0
         unfold dN at h0
         try dsimp only at h0
         exact run
       ·exact run
      ·exact run
    ·exact run⟩
instance k107 {n:Int} {node:Int}:Ctr (bC n node) (fun (res:Bool)=>aj prog 107 [.lit (.int .i64 n),.lit (.int .i64 node)] [] (.lit (.bool res)) []):=⟨by
 intro res h0
 refine co (hi:=hi00) func107 rfl rfl ?_
 unfold bC at h0
 exact run⟩
instance k267 {n:Int}:Ctr (hD n) (fun (res:Bool)=>aj prog 267 [.lit (.int .i64 n)] [] (.lit (.bool res)) []):=⟨by
 intro res h0
 refine co (hi:=hi00) func267 rfl rfl ?_
 unfold hD at h0
 exact run⟩
def kb (c d:List Int)(a b:Int):St:=⟨[(0,.sl (ab eI c)),(1,.sl (ab eI d)),(12,.lit (.int .i64 a)),(13,.lit (.int .i64 b))],[],2⟩
attribute[go_sem] kb
@[go_sem] def hi268_6:DT:=.r2 0 9 .nil
def AL:Hint where
 acts:=fun _=>[]
 draws:=fun
  | 6=>⟨hi268_6,[[],[],[0,1],[0,1,2],[],[],[4,5],[4,5,6],.range 8],.range 9⟩
  | _=>⟨.nil,[],[]⟩
theorem Ln (i:Nat):AL.acts i=[]:=rfl
theorem Lo (i:Nat):AL.views i=none:=rfl
attribute[go_sem] Ln Lo ntmps268 results268
@[go_sem] theorem Oz:(AL.draws 6).order=hi268_6:=rfl
instance k268 {v0:List Int} {v1:List Int}:Ctr (fH v0 v1) (fun (res:Bool)=>aj prog 268 [.sl (ab eI v0),.sl (ab eI v1)] [] (.lit (.bool res)) []):=⟨by
 intro res h0
 refine co (hi:=AL) func268 rfl rfl ?_
 unfold fH at h0
 obtain⟨_,h0⟩|⟨_,h0⟩:=itP h0
 ·obtain⟨q03,l0,h0⟩:=ae h0
  simp(config:=cS)only[go_sem, *]
  refine ah (m1:=.mk) (m2:=.mk) [.nf [0,1,12,13] []] (kb v0 v1 ((v0.length:Nat):Int)) l0 ?_ ?_
  ·simp(config:=cS)only[go_sem, *]
  ·have k0:=h0
   clear h0 l0
   intro _ v13_1 _ h0 gb0
   unfold cF at h0
   try dsimp only at h0
   exact run
 ·exact run⟩
def iF (c:List GTie)(a:Nat)(b:List AV)(d e:Int):St:=⟨[(0,.sl (ab GTie.enc c)),(1,.fn a b),(7,.lit (.int .i64 d)),(8,.lit (.int .i64 e))],[],2⟩
attribute[go_sem] iF
theorem pl {v0:List GTie}{v1:GTie→Option Bool}{f_v1:Nat}{k_v1:List AV}(hp_v1:∀ y0 r,v1 y0=some r→aj prog f_v1 ([.agg (GTie.enc y0)]++k_v1) [] (.lit (.bool r)) [])(hc_v1:KC k_v1)(hm_v1:∀ a,mdT f_v1 a=⟨[],false⟩)(hk_v1:spf f_v1=false){res:Int}(h:dn v0 v1=some res):aj prog 187 [.sl (ab GTie.enc v0),.fn f_v1 k_v1] [] (.lit (.int .i64 res)) []:=by
 refine co (hi:=hi00) func187 rfl rfl ?_
 unfold dn at h
 obtain⟨q03,l1,h⟩:=ae h
 simp(config:=cS)only[go_sem,hc_v1.1,hc_v1.2,hm_v1,hk_v1]
 refine ah (m1:=.mk) (m2:=.mk) [.nf [0,1,7,8] []] (iF v0 f_v1 k_v1 ((v0.length:Nat):Int)) l1 ?_ ?_
 ·simp(config:=cS)only[go_sem,hc_v1.1,hc_v1.2,hm_v1,hk_v1]
 ·intro nb2 v8_1 bb2 b2 gb2
  unfold bJ at b2
  try dsimp only at b2
  obtain⟨h3,b2⟩|⟨h3,b2⟩:=dA b2
  ·obtain⟨x01,g4,b2⟩:=ae b2
   obtain⟨h5,h6,h7⟩:=jS g4
   obtain⟨r02,g8,b2⟩:=ae b2
   simp(config:=cS)only[go_sem,hc_v1.1,hc_v1.2,hm_v1,hk_v1,eqT h3,h5,h6,h7]
   refine am (hp_v1 _ _ g8) ?_
   obtain⟨h9,b2⟩|⟨h9,b2⟩:=dA b2
   ·cases b2
    obtain rfl:=(aP gb2).symm
    try dsimp only at h
    cases h
    simp(config:=cS)only[go_sem,hc_v1.1,hc_v1.2,hm_v1,hk_v1,eqT h3,h5,h6,h7,eZt h9]
   ·cases b2
    simp(config:=cS)only[go_sem,hc_v1.1,hc_v1.2,hm_v1,hk_v1,eqT h3,h5,h6,h7,eZf h9]
    refine mZ gb2 ?_
    simp(config:=cS)only[go_sem,hc_v1.1,hc_v1.2,hm_v1,hk_v1,eqT h3,h5,h6,h7,eZf h9]
  ·cases b2
   obtain rfl:=(aP gb2).symm
   try dsimp only at h
   cases h
   simp(config:=cS)only[go_sem,hc_v1.1,hc_v1.2,hm_v1,hk_v1,eqF h3]
theorem oa {v0:List GTie}{v1:GTie→Option Bool}{f_v1:Nat}{k_v1:List AV}(hp_v1:∀ y0 r,v1 y0=some r→aj prog f_v1 ([.agg (GTie.enc y0)]++k_v1) [] (.lit (.bool r)) [])(hc_v1:KC k_v1)(hm_v1:∀ a,mdT f_v1 a=⟨[],false⟩)(hk_v1:spf f_v1=false){res:Bool}(h:bK v0 v1=some res):aj prog 224 [.sl (ab GTie.enc v0),.fn f_v1 k_v1] [] (.lit (.bool res)) []:=by
 refine co (hi:=hi00) func224 rfl rfl ?_
 unfold bK at h
 obtain⟨r01,g1,h⟩:=ae h
 simp(config:=cS)only[go_sem,hc_v1.1,hc_v1.2,hm_v1,hk_v1]
 refine am (pl hp_v1 hc_v1 hm_v1 hk_v1 g1) ?_
 cases h
 simp(config:=cS)only[go_sem,hc_v1.1,hc_v1.2,hm_v1,hk_v1]
instance k269 {u:GTie} {t:GTie}:Ctr (ga u t) (fun (res:Bool)=>aj prog 269 [.agg (GTie.enc u),.loc [.lit (.int .i64 t.from_),.lit (.int .i64 t.to),.lit (.int .i64 t.low),.lit (.int .i64 t.high),.lit (.bool t.free)]] [] (.lit (.bool res)) []):=⟨by
 intro res h0
 refine co (hi:=hi00) func269 rfl rfl ?_
 unfold ga at h0
 exact run⟩
def mg (a:List GTie)(d:Int)(b:List GNode)(c e:Int):St:=⟨[(1,.ptr 64 1 0 0),(6,.sl (ab GTie.enc a)),(7,.lit (.int .i64 d)),(8,.lit (.int .i64 e))],[(64,1,.var [.sl (ab GNode.encS b),.sl (ab GTie.enc a),.lit (.int .i64 c)])],2⟩
attribute[go_sem] mg
@[go_sem] def hi190_7:DT:=.r2 0 36 .nil
def AM:Hint where
 acts:=fun _=>[]
 draws:=fun
  | 7=>⟨hi190_7,[[],[0],[0,1],[0,1,2],[0,1,2,3],.range 5,.range 6,.range 7,.range 8,.range 9,.range 10,.range 9,[0,1,2,3,4,5,6,7,8,11],.range 13,.range 14,.range 15,.range 16,.range 17,.range 18,.range 19,.range 20,.range 19,[0,1,2,3,4,5,6,7,8,9,10,11,12,13,14,15,16,17,18,21],.range 23,.range 24,.range 25,.range 19,[0,1,2,3,4,5,6,7,8,9,10,11,12,13,14,15,16,17,18,26],.range 19,[0,1,2,3,4,5,6,7,8,9,10,11,12,13,14,15,16,17,18,28],[0,1,2,3,4,5,6,7,8,9,10,11,12,13,14,15,16,17,18,26,27,28,29],[0,1,2,3,4,5,6,7,8,9,10,11,12,13,14,15,16,17,18,26,27,28,29,30],[0,1,2,3,4,5,6,7,8,9,10,11,12,13,14,15,16,17,18,26,27,28,29,30,31],.range 33,.range 34,.range 35],.range 36⟩
  | _=>⟨.nil,[],[]⟩
theorem Lp (i:Nat):AM.acts i=[]:=rfl
theorem Lq (i:Nat):AM.views i=none:=rfl
attribute[go_sem] Lp Lq ntmps190 results190
@[go_sem] theorem OA:(AM.draws 7).order=hi190_7:=rfl
instance k190 {s:GShow}:Ctr (iM s) (fun (res:Bool)=>aj prog 190 [.agg (GShow.encS s)] [] (.lit (.bool res)) []):=⟨by
 intro res h0
 refine co (hi:=AM) func190 rfl rfl ?_
 unfold iM at h0
 obtain⟨q10,l0,h0⟩:=ae h0
 simp(config:=cS)only[go_sem, *]
 refine ah (m1:=.mk) (m2:=.mk) [.nf [1,6,7,8] [64]] (mg s.ties ((s.ties.length:Nat):Int) s.nodes s.horizon) l0 ?_ ?_
 ·simp(config:=cS)only[go_sem, *]
 ·have k0:=h0
  clear h0 l0
  intro _ v8_1 _ h0 gb0
  unfold eG at h0
  try dsimp only at h0
  obtain⟨_,h0⟩|⟨_,h0⟩:=itP h0
  ·obtain⟨x01,_,_,_,h0⟩:=gtI h0
   obtain⟨r02,g0,h0⟩:=ae h0
   simp(config:=cS)only[go_sem, *]
   have g0:=ctr g0
   refine am g0 ?_
   obtain⟨_,h0⟩|⟨_,h0⟩:=itB h0
   ·obtain⟨r03,g0,h0⟩:=ae h0
    simp(config:=cS)only[go_sem, *]
    have g0:=ctr g0
    refine am g0 ?_
    obtain⟨_,h0⟩|⟨_,h0⟩:=itB h0
    ·obtain⟨_,h0⟩|⟨_,h0⟩:=itP h0
     ·exact run
     ·obtain⟨r04,g0,h0⟩:=ae h0
      simp(config:=cS)only[go_sem, *]
      have g0:=ctr g0
      refine am g0 ?_
      obtain⟨_,h0⟩|⟨_,h0⟩:=itB h0
      ·obtain⟨r05,g0,h0⟩:=ae h0
       simp(config:=cS)only[go_sem, *]
       have g0:=ctr g0
       refine am g0 ?_
       obtain⟨_,h0⟩|⟨_,h0⟩:=itB h0
       ·obtain⟨_,h0⟩|⟨_,h0⟩:=itP h0
        ·exact run
        ·obtain⟨_,h0⟩|⟨_,h0⟩:=itB h0
         ·obtain⟨_,h0⟩|⟨_,h0⟩:=itP h0
          ·exact run
          ·obtain⟨_,h0⟩|⟨_,h0⟩:=itP h0
           ·exact run
           ·obtain⟨x06,_,_,_,h0⟩:=gtI h0
            obtain⟨_,h0⟩|⟨_,h0⟩:=itP h0
            ·obtain⟨x07,_,_,_,h0⟩:=gtI h0
             obtain⟨r08,g0,h0⟩:=ae h0
             simp(config:=cS)only[go_sem, *]
             have g0:=ctr g0
             refine am g0 ?_
             obtain⟨_,h0⟩|⟨_,h0⟩:=itB h0
             ·obtain⟨_,h0⟩:=ckP h0
              obtain⟨_,h0⟩:=ckP h0
              obtain⟨r09,g0,h0⟩:=ae h0
              simp(config:=cS)only[go_sem, *]
              refine am (oa (by exact fun _ _ hr=>by have q:=ctr hr;exact q) (by refine⟨fun _=>?_,fun _=>?_⟩ <;> simp only[go_sem]) (fun _=>rfl) rfl g0) ?_
              exact run
             ·exact run
            ·exact run
         ·exact run
       ·exact run
      ·exact run
    ·exact run
   ·exact run
  ·exact run⟩
def iG (c:List Int)(a:Nat)(b:List AV)(d e:Int):St:=⟨[(0,.sl (ab eI c)),(1,.fn a b),(7,.lit (.int .i64 d)),(8,.lit (.int .i64 e))],[],2⟩
attribute[go_sem] iG
theorem pm {v0:List Int}{v1:Int→Option Bool}{f_v1:Nat}{k_v1:List AV}(hp_v1:∀ y0 r,v1 y0=some r→aj prog f_v1 ([.lit (.int .i64 y0)]++k_v1) [] (.lit (.bool r)) [])(hc_v1:KC k_v1)(hm_v1:∀ a,mdT f_v1 a=⟨[],false⟩)(hk_v1:spf f_v1=false){res:Int}(h:dq v0 v1=some res):aj prog 223 [.sl (ab eI v0),.fn f_v1 k_v1] [] (.lit (.int .i64 res)) []:=by
 refine co (hi:=hi00) func223 rfl rfl ?_
 unfold dq at h
 obtain⟨q03,l1,h⟩:=ae h
 simp(config:=cS)only[go_sem,hc_v1.1,hc_v1.2,hm_v1,hk_v1]
 refine ah (m1:=.mk) (m2:=.mk) [.nf [0,1,7,8] []] (iG v0 f_v1 k_v1 ((v0.length:Nat):Int)) l1 ?_ ?_
 ·simp(config:=cS)only[go_sem,hc_v1.1,hc_v1.2,hm_v1,hk_v1]
 ·intro nb2 v8_1 bb2 b2 gb2
  unfold bL at b2
  try dsimp only at b2
  obtain⟨h3,b2⟩|⟨h3,b2⟩:=dA b2
  ·obtain⟨x01,g4,b2⟩:=ae b2
   obtain⟨h5,h6,h7⟩:=jS g4
   obtain⟨r02,g8,b2⟩:=ae b2
   simp(config:=cS)only[go_sem,hc_v1.1,hc_v1.2,hm_v1,hk_v1,eqT h3,h5,h6,h7]
   refine am (hp_v1 _ _ g8) ?_
   obtain⟨h9,b2⟩|⟨h9,b2⟩:=dA b2
   ·cases b2
    obtain rfl:=(aP gb2).symm
    try dsimp only at h
    cases h
    simp(config:=cS)only[go_sem,hc_v1.1,hc_v1.2,hm_v1,hk_v1,eqT h3,h5,h6,h7,eZt h9]
   ·cases b2
    simp(config:=cS)only[go_sem,hc_v1.1,hc_v1.2,hm_v1,hk_v1,eqT h3,h5,h6,h7,eZf h9]
    refine mZ gb2 ?_
    simp(config:=cS)only[go_sem,hc_v1.1,hc_v1.2,hm_v1,hk_v1,eqT h3,h5,h6,h7,eZf h9]
  ·cases b2
   obtain rfl:=(aP gb2).symm
   try dsimp only at h
   cases h
   simp(config:=cS)only[go_sem,hc_v1.1,hc_v1.2,hm_v1,hk_v1,eqF h3]
theorem gw {v0:List Int}{v1:Int→Option Bool}{f_v1:Nat}{k_v1:List AV}(hp_v1:∀ y0 r,v1 y0=some r→aj prog f_v1 ([.lit (.int .i64 y0)]++k_v1) [] (.lit (.bool r)) [])(hc_v1:KC k_v1)(hm_v1:∀ a,mdT f_v1 a=⟨[],false⟩)(hk_v1:spf f_v1=false){res:Bool}(h:bf v0 v1=some res):aj prog 124 [.sl (ab eI v0),.fn f_v1 k_v1] [] (.lit (.bool res)) []:=by
 refine co (hi:=hi00) func124 rfl rfl ?_
 unfold bf at h
 obtain⟨r01,g1,h⟩:=ae h
 simp(config:=cS)only[go_sem,hc_v1.1,hc_v1.2,hm_v1,hk_v1]
 refine am (pm hp_v1 hc_v1 hm_v1 hk_v1 g1) ?_
 cases h
 simp(config:=cS)only[go_sem,hc_v1.1,hc_v1.2,hm_v1,hk_v1]
def iw (c:List GNode)(a:Nat)(b:List AV)(d e:Int):St:=⟨[(0,.sl (ab GNode.encS c)),(1,.fn a b),(7,.lit (.int .i64 d)),(8,.lit (.int .i64 e))],[],2⟩
attribute[go_sem] iw
theorem oL {v0:List GNode}{v1:GNode→Option Bool}{f_v1:Nat}{k_v1:List AV}(hp_v1:∀ y0 r,v1 y0=some r→aj prog f_v1 ([.agg (GNode.encS y0)]++k_v1) [] (.lit (.bool r)) [])(hc_v1:KC k_v1)(hm_v1:∀ a,mdT f_v1 a=⟨[],false⟩)(hk_v1:spf f_v1=false){res:Int}(h:cQ v0 v1=some res):aj prog 193 [.sl (ab GNode.encS v0),.fn f_v1 k_v1] [] (.lit (.int .i64 res)) []:=by
 refine co (hi:=hi00) func193 rfl rfl ?_
 unfold cQ at h
 obtain⟨q03,l1,h⟩:=ae h
 simp(config:=cS)only[go_sem,hc_v1.1,hc_v1.2,hm_v1,hk_v1]
 refine ah (m1:=.mk) (m2:=.mk) [.nf [0,1,7,8] []] (iw v0 f_v1 k_v1 ((v0.length:Nat):Int)) l1 ?_ ?_
 ·simp(config:=cS)only[go_sem,hc_v1.1,hc_v1.2,hm_v1,hk_v1]
 ·intro nb2 v8_1 bb2 b2 gb2
  unfold bD at b2
  try dsimp only at b2
  obtain⟨h3,b2⟩|⟨h3,b2⟩:=dA b2
  ·obtain⟨x01,g4,b2⟩:=ae b2
   obtain⟨h5,h6,h7⟩:=jS g4
   obtain⟨r02,g8,b2⟩:=ae b2
   simp(config:=cS)only[go_sem,hc_v1.1,hc_v1.2,hm_v1,hk_v1,eqT h3,h5,h6,h7]
   refine am (hp_v1 _ _ g8) ?_
   obtain⟨h9,b2⟩|⟨h9,b2⟩:=dA b2
   ·cases b2
    obtain rfl:=(aP gb2).symm
    try dsimp only at h
    cases h
    simp(config:=cS)only[go_sem,hc_v1.1,hc_v1.2,hm_v1,hk_v1,eqT h3,h5,h6,h7,eZt h9]
   ·cases b2
    simp(config:=cS)only[go_sem,hc_v1.1,hc_v1.2,hm_v1,hk_v1,eqT h3,h5,h6,h7,eZf h9]
    refine mZ gb2 ?_
    simp(config:=cS)only[go_sem,hc_v1.1,hc_v1.2,hm_v1,hk_v1,eqT h3,h5,h6,h7,eZf h9]
  ·cases b2
   obtain rfl:=(aP gb2).symm
   try dsimp only at h
   cases h
   simp(config:=cS)only[go_sem,hc_v1.1,hc_v1.2,hm_v1,hk_v1,eqF h3]
instance k194 {n:GNode} {p:Int}:Ctr (iA n p) (fun (res:Bool)=>aj prog 194 [.agg (GNode.encS n),.loc [.lit (.int .i64 p)]] [] (.lit (.bool res)) []):=⟨by
 intro res h0
 refine co (hi:=hi00) func194 rfl rfl ?_
 unfold iA at h0
 exact run⟩
instance k88 {s:GShow} {p:Int}:Ctr (cO s p) (fun (res:Int)=>aj prog 88 [.agg (GShow.encS s),.lit (.int .i64 p)] [] (.lit (.int .i64 res)) []):=⟨by
 intro res h0
 refine co (hi:=hi00) func88 rfl rfl ?_
 unfold cO at h0
 obtain⟨r01,g0,h0⟩:=ae h0
 simp(config:=cS)only[go_sem, *]
 refine am (oL (by exact fun _ _ hr=>by have q:=ctr hr;exact q) (by refine⟨fun _=>?_,fun _=>?_⟩ <;> simp only[go_sem]) (fun _=>rfl) rfl g0) ?_
 exact run⟩
def kc (a:List Int)(b c d:Int):St:=⟨[(0,.sl (ab eI a)),(1,.lit (.int .i64 b)),(7,.lit (.int .i64 c)),(8,.lit (.int .i64 d))],[],2⟩
attribute[go_sem] kc
instance k93 {v0:List Int} {v1:Int}:Ctr (dP v0 v1) (fun (res:Int)=>aj prog 93 [.sl (ab eI v0),.lit (.int .i64 v1)] [] (.lit (.int .i64 res)) []):=⟨by
 intro res h0
 refine co (hi:=hi00) func93 rfl rfl ?_
 unfold dP at h0
 obtain⟨q02,l0,h0⟩:=ae h0
 simp(config:=cS)only[go_sem, *]
 refine ah (m1:=.mk) (m2:=.mk) [.nf [0,1,7,8] []] (kc v0 v1 ((v0.length:Nat):Int)) l0 ?_ ?_
 ·simp(config:=cS)only[go_sem, *]
 ·have k0:=h0
  clear h0 l0
  intro _ v8_1 _ h0 gb0
  unfold cG at h0
  try dsimp only at h0
  exact run⟩
instance k195 {v0:List Int} {v1:Int}:Ctr (bQ v0 v1) (fun (res:Bool)=>aj prog 195 [.sl (ab eI v0),.lit (.int .i64 v1)] [] (.lit (.bool res)) []):=⟨by
 intro res h0
 refine co (hi:=hi00) func195 rfl rfl ?_
 unfold bQ at h0
 exact run⟩
instance k311 {v0:Int} {a:List Int}:Ctr (fx v0 a) (fun (res:Bool)=>aj prog 311 [.lit (.int .i64 v0),.loc [.sl (ab eI a)]] [] (.lit (.bool res)) []):=⟨by
 intro res h0
 refine co (hi:=hi00) func311 rfl rfl ?_
 unfold fx at h0
 exact run⟩
instance k270 {a:List Int} {b:List Int}:Ctr (eT a b) (fun (res:Bool)=>aj prog 270 [.sl (ab eI a),.sl (ab eI b)] [] (.lit (.bool res)) []):=⟨by
 intro res h0
 refine co (hi:=hi00) func270 rfl rfl ?_
 unfold eT at h0
 obtain⟨r01,g0,h0⟩:=ae h0
 simp(config:=cS)only[go_sem, *]
 have g0:=ctr g0
 refine am g0 ?_
 obtain⟨_,h0⟩|⟨_,h0⟩:=itB h0
 ·obtain⟨r02,g0,h0⟩:=ae h0
  simp(config:=cS)only[go_sem, *]
  have g0:=ctr g0
  refine am g0 ?_
  obtain⟨_,h0⟩|⟨_,h0⟩:=itB h0
  ·obtain⟨r03,g0,h0⟩:=ae h0
   simp(config:=cS)only[go_sem, *]
   refine am (gw (by exact fun _ _ hr=>by have q:=ctr hr;exact q) (by refine⟨fun _=>?_,fun _=>?_⟩ <;> simp only[go_sem]) (fun _=>rfl) rfl g0) ?_
   exact run
  ·exact run
 ·exact run⟩
@[go_sem] def hi192_1:DT:=.i1 0 (.i2 1 (.i0 2 [0] (.i2 3 (.i2 4 .nil))))
def AN:Hint where
 acts:=fun _=>[]
 draws:=fun
  | 1=>⟨hi192_1,[[],[],[1],[0,1,2],[0,1,2,3]],.range 5⟩
  | _=>⟨.nil,[],[]⟩
theorem Lr (i:Nat):AN.acts i=[]:=rfl
theorem Ls (i:Nat):AN.views i=none:=rfl
attribute[go_sem] Lr Ls ntmps192 results192
@[go_sem] theorem OB:(AN.draws 1).order=hi192_1:=rfl
instance k192 {s:GShow} {label:List Int} {v2:Int}:Ctr (gT s label v2) (fun (res:Bool)=>aj prog 192 [.agg (GShow.encS s),.sl (ab eI label),.lit (.int .i64 v2)] [] (.lit (.bool res)) []):=⟨by
 intro res h0
 refine co (hi:=AN) func192 rfl rfl ?_
 unfold gT at h0
 exact run⟩
instance k191 {v0:Int} {s:GShow} {n:GNode}:Ctr (gU v0 s n) (fun (res:Bool)=>aj prog 191 [.lit (.int .i64 v0),.loc [.sl (ab GNode.encS s.nodes),.sl (ab GTie.enc s.ties),.lit (.int .i64 s.horizon)],.loc [.lit (.string n.name),.sl (ab eI n.label),.lit (.int .i64 n.watch)]] [] (.lit (.bool res)) []):=⟨by
 intro res h0
 refine co (hi:=hi00) func191 rfl rfl ?_
 unfold gU at h0
 exact run⟩
def mP (a:List GNode)(b:Int)(c:List GTie)(d e:Int):St:=⟨[(1,.ptr 64 1 0 0),(24,.sl (ab GNode.encS a)),(25,.lit (.int .i64 b)),(26,.lit (.int .i64 e))],[(64,1,.var [.sl (ab GNode.encS a),.sl (ab GTie.enc c),.lit (.int .i64 d)])],2⟩
attribute[go_sem] mP
instance k86 {s:GShow}:Ctr (jz s) (fun (res:Bool)=>aj prog 86 [.agg (GShow.encS s)] [] (.lit (.bool res)) []):=⟨by
 intro res h0
 refine co (hi:=hi00) func86 rfl rfl ?_
 unfold jz at h0
 obtain⟨r01,g0,h0⟩:=ae h0
 simp(config:=cS)only[go_sem, *]
 have g0:=ctr g0
 refine am g0 ?_
 obtain⟨_,h0⟩|⟨_,h0⟩:=itB h0
 ·obtain⟨r02,g0,h0⟩:=ae h0
  simp(config:=cS)only[go_sem, *]
  have g0:=ctr g0
  refine am g0 ?_
  obtain⟨_,h0⟩|⟨_,h0⟩:=itB h0
  ·obtain⟨_,h0⟩|⟨_,h0⟩:=itP h0
   ·exact run
   ·obtain⟨_,h0⟩|⟨_,h0⟩:=itP h0
    ·exact run
    ·obtain⟨q05,l0,h0⟩:=ae h0
     simp(config:=cS)only[go_sem, *]
     refine ah (m1:=.mk) (m2:=.mk) [.nf [1,24,25,26] [64]] (mP s.nodes ((s.nodes.length:Nat):Int) s.ties s.horizon) l0 ?_ ?_
     ·simp(config:=cS)only[go_sem, *]
     ·have k0:=h0
      clear h0 l0
      intro _ v26_1 _ h0 gb0
      unfold fm at h0
      try dsimp only at h0
      obtain⟨_,h0⟩|⟨_,h0⟩:=itP h0
      ·obtain⟨x03,_,_,_,h0⟩:=gtI h0
       obtain⟨r04,g0,h0⟩:=ae h0
       simp(config:=cS)only[go_sem, *]
       refine am (gw (by exact fun _ _ hr=>by have q:=ctr hr;exact q) (by refine⟨fun _=>?_,fun _=>?_⟩ <;> simp only[go_sem]) (fun _=>rfl) rfl g0) ?_
       exact run
      ·exact run
  ·exact run
 ·exact run⟩
def lA (b:List GTie)(c:Int):(Int × (List Int))→St
 | (d,a)=>⟨[(3,.ref 255 1 0 a.length),(7,.sl (ab GTie.enc b)),(8,.lit (.int .i64 c)),(9,.lit (.int .i64 d))],[(255,1,.row true (ab eI a))],2⟩
attribute[go_sem] lA
instance k87 {s:GShow}:Ctr (fR s) (fun (res:List Int)=>aj prog 87 [.agg (GShow.encS s)] [] (.ref 20000 1 0 res.length) [(20000,1,.row true (ab eI res))]):=⟨by
 intro res h0
 refine bd (ra:=[.home 2]) (md:=mdT) hT (hi:=hi00) func87 rfl rfl (by decide +kernel) (by simp) ?_
 unfold fR at h0
 obtain⟨q02,l0,h0⟩:=ae h0
 simp(config:=cS)only[go_sem, *]
 refine ah (m1:=.mk) (m2:=.mk) [.home 3,.nf [3,7,8,9] [255]] (lA s.ties ((s.ties.length:Nat):Int)) l0 ?_ ?_
 ·simp(config:=cS)only[go_sem, *]
 ·have k0:=h0
  clear h0 l0
  intro _ s0 _ h0 gb0
  obtain⟨v9_1,out_1⟩:=s0
  unfold fI at h0
  try dsimp only at h0
  exact run⟩
def lB (d:Int)(e:List GNode)(f:List GTie)(g:Int)(b c a:List Int)(h:Int):St:=⟨[(2,.ptr 128 1 0 0),(3,.ptr 192 1 0 0),(24,.ref 704 1 0 a.length),(25,.lit (.int .i64 d)),(26,.lit (.int .i64 h))],[(128,1,.var [.sl (ab GNode.encS e),.sl (ab GTie.enc f),.lit (.int .i64 g)]),(192,1,.var [.sl (ab eI b),.sl (ab eI c)]),(704,1,.row true (ab eI a))],2⟩
attribute[go_sem] lB
def lC (a:List Int)(b:Int)(c:List GNode)(d:List GTie)(e f:Int):St:=⟨[(2,.ptr 128 1 0 0),(59,.sl (ab eI a)),(60,.lit (.int .i64 b)),(61,.lit (.int .i64 f))],[(128,1,.var [.sl (ab GNode.encS c),.sl (ab GTie.enc d),.lit (.int .i64 e)])],2⟩
attribute[go_sem] lC
@[go_sem] def hi103_7:DT:=.r2 0 26 .nil
def AO:Hint where
 acts:=fun _=>[]
 draws:=fun
  | 7=>⟨hi103_7,[[],[0],[],[0,1,2],[0,1,2,3],[],[5],[],[5,6,7],[5,6,7,8],[5,6,7,8,9],.range 11,.range 12,.range 13,.range 14,.range 13,.range 16,.range 17,.range 13,[0,1,2,3,4,5,6,7,8,9,10,11,12,18],.range 13,[0,1,2,3,4,5,6,7,8,9,10,11,12,18,19,20],[0,1,2,3,4,5,6,7,8,9,10,11,12,18,19,20,21],[0,1,2,3,4,5,6,7,8,9,10,11,12,18,19,20,21,22],.range 24,.range 25],.range 26⟩
  | _=>⟨.nil,[],[]⟩
theorem Lt (i:Nat):AO.acts i=[]:=rfl
theorem Lu (i:Nat):AO.views i=none:=rfl
attribute[go_sem] Lt Lu ntmps103 results103
@[go_sem] theorem OC:(AO.draws 7).order=hi103_7:=rfl
instance k103 {s:GShow} {v1:GChoice}:Ctr (ie s v1) (fun (res:Bool)=>aj prog 103 [.agg (GShow.encS s),.agg [.sl (ab eI v1.lengths),.sl (ab eI v1.values)]] [] (.lit (.bool res)) []):=⟨by
 intro res h0
 refine co (hi:=AO) func103 rfl rfl ?_
 unfold ie at h0
 obtain⟨r01,g0,h0⟩:=ae h0
 simp(config:=cS)only[go_sem, *]
 have g0:=ctr g0
 refine am g0 ?_
 obtain⟨_,h0⟩|⟨_,h0⟩:=itP h0
 ·obtain⟨_,h0⟩|⟨_,h0⟩:=itP h0
  ·obtain⟨q09,l0,h0⟩:=ae h0
   simp(config:=cS)only[go_sem, *]
   refine ah (m1:=.mk) (m2:=.mk) [.nf [2,3,24,25,26] [128,192,704]] (lB ((r01.length:Nat):Int) s.nodes s.ties s.horizon v1.lengths v1.values r01) l0 ?_ ?_
   ·simp(config:=cS)only[go_sem, *]
   ·have k0:=h0
    clear h0 l0
    intro _ v26_1 _ h0 gb0
    unfold dQ at h0
    try dsimp only at h0
    obtain⟨_,h0⟩|⟨_,h0⟩:=itP h0
    ·exact run
    ·cases h0
     obtain rfl:=(aP gb0).symm
     clear gb0
     have h0:=k0
     clear k0
     try dsimp only at h0
     obtain⟨q08,l0,h0⟩:=ae h0
     simp(config:=cS)only[go_sem, *]
     refine ah (m1:=.mk) (m2:=.mk) [.nf [2,59,60,61] [128]] (lC v1.values ((v1.values.length:Nat):Int) s.nodes s.ties s.horizon) l0 ?_ ?_
     ·simp(config:=cS)only[go_sem, *]
     ·have k0:=h0
      clear h0 l0
      intro _ v61_2 _ h0 gb0
      unfold dR at h0
      try dsimp only at h0
      exact run
  ·exact run
 ·exact run⟩
instance k90 {s:GShow} {v1:GChoice}:Ctr (ig s v1) (fun (res:Bool)=>aj prog 90 [.agg (GShow.encS s),.agg [.sl (ab eI v1.lengths),.sl (ab eI v1.values)]] [] (.lit (.bool res)) []):=⟨by
 intro res h0
 refine co (hi:=hi00) func90 rfl rfl ?_
 unfold ig at h0
 exact run⟩
instance k308 {n:Int}:Ctr (ii n) (fun (res:Bool)=>aj prog 308 [.lit (.int .i64 n)] [] (.lit (.bool res)) []):=⟨by
 intro res h0
 refine co (hi:=hi00) func308 rfl rfl ?_
 unfold ii at h0
 exact run⟩
instance k256 {v:List Int}:Ctr (ij v) (fun (res:Bool)=>aj prog 256 [.sl (ab eI v)] [] (.lit (.bool res)) []):=⟨by
 intro res h0
 refine co (hi:=hi00) func256 rfl rfl ?_
 unfold ij at h0
 obtain⟨_,h0⟩|⟨_,h0⟩:=itP h0
 ·obtain⟨r01,g0,h0⟩:=ae h0
  simp(config:=cS)only[go_sem, *]
  refine am (gw (by exact fun _ _ hr=>by have q:=ctr hr;exact q) (by refine⟨fun _=>?_,fun _=>?_⟩ <;> simp only[go_sem]) (fun _=>rfl) rfl g0) ?_
  exact run
 ·exact run⟩
instance k257 {l:Int} {v:List Int}:Ctr (kh l v) (fun (res:Int)=>aj prog 257 [.lit (.int .i64 l),.sl (ab eI v)] [] (.lit (.int .i64 res)) []):=⟨by
 intro res h0
 refine co (hi:=hi00) func257 rfl rfl ?_
 unfold kh at h0
 exact run⟩
def kD (v a:List Int)(b:Int):(Int × Int)→St
 | (c,d)=>⟨[(1,.sl (ab eI v)),(5,.lit (.int .i64 c)),(16,.sl (ab eI a)),(17,.lit (.int .i64 b)),(18,.lit (.int .i64 d))],[],2⟩
attribute[go_sem] kD
instance k173 {l:List Int} {v:List Int}:Ctr (gb l v) (fun (res:Int)=>aj prog 173 [.sl (ab eI l),.sl (ab eI v)] [] (.lit (.int .i64 res)) []):=⟨by
 intro res h0
 refine co (hi:=hi00) func173 rfl rfl ?_
 unfold gb at h0
 obtain⟨r01,g0,h0⟩:=ae h0
 simp(config:=cS)only[go_sem, *]
 have g0:=ctr g0
 refine am g0 ?_
 obtain⟨_,h0⟩|⟨_,h0⟩:=itB h0
 ·obtain⟨r02,g0,h0⟩:=ae h0
  simp(config:=cS)only[go_sem, *]
  have g0:=ctr g0
  refine am g0 ?_
  obtain⟨_,h0⟩|⟨_,h0⟩:=itB h0
  ·obtain⟨q05,l0,h0⟩:=ae h0
   simp(config:=cS)only[go_sem, *]
   refine ah (m1:=.mk) (m2:=.mk) [.nf [1,5,16,17,18] []] (kD v l ((l.length:Nat):Int)) l0 ?_ ?_
   ·simp(config:=cS)only[go_sem, *]
   ·have k0:=h0
    clear h0 l0
    intro _ s0 _ h0 gb0
    obtain⟨out_1,v18_1⟩:=s0
    unfold eo at h0
    try dsimp only at h0
    exact run
  ·exact run
 ·exact run⟩
@[go_sem] def hi69_1:DT:=.r2 0 11 .nil
def hi69:Hint where
 acts:=fun _=>[]
 draws:=fun
  | 1=>⟨hi69_1,[[],[0],[],[0,1,2],[0,1,2,3],.range 5,[],[6],.range 8,.range 9,.range 10],.range 11⟩
  | _=>⟨.nil,[],[]⟩
theorem MM (i:Nat):hi69.acts i=[]:=rfl
theorem MN (i:Nat):hi69.views i=none:=rfl
attribute[go_sem] MM MN ntmps69 results69
@[go_sem] theorem Pa:(hi69.draws 1).order=hi69_1:=rfl
instance k69 {s:GShow} {v1:GChoice} {node:Int}:Ctr (cp s v1 node) (fun (res:Bool)=>aj prog 69 [.agg (GShow.encS s),.agg [.sl (ab eI v1.lengths),.sl (ab eI v1.values)],.lit (.int .i64 node)] [] (.lit (.bool res)) []):=⟨by
 intro res h0
 refine co (hi:=hi69) func69 rfl rfl ?_
 unfold cp at h0
 exact run⟩
instance k252 {from_:Int} {to:Int} {low:Int} {high:Int} {reason:ByteArray} {out:ag} {reasons:List ByteArray}:Ctr (bO from_ to low high reason out reasons) (fun (res:ag × (List ByteArray))=>aj prog 252 [.lit (.int .i64 from_),.lit (.int .i64 to),.lit (.int .i64 low),.lit (.int .i64 high),.lit (.string reason),.ptr 10000 0 0 0,.ptr 10002 0 0 0] [(10000,0,.var [.lit (.int .i64 out.events),.ref 10001 0 0 out.links.length]),(10001,0,.row true (ab GLink.enc out.links)),(10002,0,.var [.ref 10003 0 0 reasons.length]),(10003,0,.row true (ab eS reasons))] (.tup []) [(10000,0,.var [.lit (.int .i64 res.1.events),.ref 20000 1 0 res.1.links.length]),(10002,0,.var [.ref 20001 1 0 res.2.length]),(20000,1,.row true (ab GLink.enc res.1.links)),(20001,1,.row true (ab eS res.2))]):=⟨by
 intro res h0
 refine co (hi:=hi00) func252 rfl rfl ?_
 unfold bO at h0
 exact run⟩
instance k110 {n:Int}:Ctr (cf n) (fun (res:ByteArray)=>aj prog 110 [.lit (.int .i64 n)] [] (.lit (.string res)) []):=⟨by
 intro res h0
 refine co (hi:=hi00) func110 rfl rfl ?_
 unfold cf at h0
 obtain⟨r01,g0,h0⟩:=ae h0
 simp(config:=cS)only[go_sem, *]
 refine am (zi g0) ?_
 exact run⟩
instance k113 {l:List ByteArray} {by_:ByteArray}:Ctr (iv l by_) (fun (res:ByteArray)=>aj prog 113 [.sl (ab eS l),.lit (.string by_)] [] (.lit (.string res)) []):=⟨by
 intro res h0
 refine co (hi:=hi00) func113 rfl rfl ?_
 unfold iv at h0
 obtain⟨r01,g0,h0⟩:=ae h0
 simp(config:=cS)only[go_sem, *]
 refine am (zj g0) ?_
 exact run⟩
@[go_sem] def hi253_5:DT:=.i2 0 (.i1 1 (.i1 2 (.i1 3 (.i1 4 (.i1 5 (.i1 6 (.i1 7 (.i1 8 (.i1 9 (.i1 10 (.i1 11 (.i1 12 (.i1 13 (.i1 14 (.i2 15 (.i2 16 (.i1 18 (.i1 19 (.i0 17 [1,2,3,4,5,6,7,8,9,10,11,12,13,14,18,19] (.i0 20 [1,2,3,4,5,6,7,8,9,10,11,12,13,14] (.r2 21 3 .nil)))))))))))))))))))))
def AP:Hint where
 acts:=fun _=>[]
 draws:=fun
  | 5=>⟨hi253_5,[[],[],[1],[],[3],[1,2,3,4],[1,2,3,4,5],[1,2,3,4,5,6],[],[8],[],[10],[8,9,10,11],[8,9,10,11,12],[8,9,10,11,12,13],[],[15],[15,16],[],[18],[15,16,17,18,19],.range 21,.range 22,.range 23],.range 24⟩
  | _=>⟨.nil,[],[]⟩
theorem Lv (i:Nat):AP.acts i=[]:=rfl
theorem Lw (i:Nat):AP.views i=none:=rfl
attribute[go_sem] Lv Lw ntmps253 results253
@[go_sem] theorem OD:(AP.draws 5).order=hi253_5:=rfl
instance k253 {s:GShow} {i:Int}:Ctr (gL s i) (fun (res:ByteArray)=>aj prog 253 [.agg (GShow.encS s),.lit (.int .i64 i)] [] (.lit (.string res)) []):=⟨by
 intro res h0
 refine co (hi:=AP) func253 rfl rfl ?_
 unfold gL at h0
 exact run⟩
def mh (d:List GNode)(g:Int)(h:List GTie)(i:Int)(e f:List Int):(Int × Int × (List GLink) × (List ByteArray))→St
 | (j,c,a,b)=>⟨[(2,.ptr 128 1 0 0),(3,.ptr 192 1 0 0),(4,.ptr 256 1 0 0),(6,.ptr 384 1 0 0),(7,.ptr 448 1 0 0),(8,.fn 252 [.ptr 384 1 0 0,.ptr 448 1 0 0]),(28,.sl (ab GNode.encS d)),(29,.lit (.int .i64 g)),(30,.lit (.int .i64 j))],[(128,1,.var [.sl (ab GNode.encS d),.sl (ab GTie.enc h),.lit (.int .i64 i)]),(192,1,.var [.sl (ab eI e),.sl (ab eI f)]),(256,1,.var [.lit (.int .i64 0),.lit (.slice none 0 0)]),(384,1,.var [.lit (.int .i64 c),.ref 100024577 1 0 a.length]),(100024577,1,.row true (ab GLink.enc a)),(448,1,.var [.ref 100028672 1 0 b.length]),(100028672,1,.row true (ab eS b))],2⟩
attribute[go_sem] mh
def mi (e:List GTie)(h:Int)(i:List GNode)(j:Int)(f g c:List Int):(Int × Int × (List GLink) × (List ByteArray))→St
 | (k,d,a,b)=>⟨[(2,.ptr 128 1 0 0),(3,.ptr 192 1 0 0),(4,.ptr 256 1 0 0),(6,.ptr 384 1 0 0),(7,.ptr 448 1 0 0),(8,.fn 252 [.ptr 384 1 0 0,.ptr 448 1 0 0]),(11,.ref 3136 1 0 c.length),(51,.sl (ab GTie.enc e)),(52,.lit (.int .i64 h)),(53,.lit (.int .i64 k))],[(128,1,.var [.sl (ab GNode.encS i),.sl (ab GTie.enc e),.lit (.int .i64 j)]),(192,1,.var [.sl (ab eI f),.sl (ab eI g)]),(256,1,.var [.lit (.int .i64 0),.lit (.slice none 0 0)]),(384,1,.var [.lit (.int .i64 d),.ref 100024577 1 0 a.length]),(100024577,1,.row true (ab GLink.enc a)),(448,1,.var [.ref 100028672 1 0 b.length]),(100028672,1,.row true (ab eS b)),(3136,1,.row true (ab eI c))],2⟩
attribute[go_sem] mi
def mj (d:Int)(h:List GNode)(i:List GTie)(j:Int)(e f:List Int):(Int × Int × (List GLink) × (List ByteArray))→St
 | (g,c,a,b)=>⟨[(2,.ptr 128 1 0 0),(3,.ptr 192 1 0 0),(4,.ptr 256 1 0 0),(6,.ptr 384 1 0 0),(7,.ptr 448 1 0 0),(8,.fn 252 [.ptr 384 1 0 0,.ptr 448 1 0 0]),(100,.lit (.int .i64 d)),(101,.lit (.int .i64 g))],[(128,1,.var [.sl (ab GNode.encS h),.sl (ab GTie.enc i),.lit (.int .i64 j)]),(192,1,.var [.sl (ab eI e),.sl (ab eI f)]),(256,1,.var [.lit (.int .i64 0),.lit (.slice none 0 0)]),(384,1,.var [.lit (.int .i64 c),.ref 100024577 1 0 a.length]),(100024577,1,.row true (ab GLink.enc a)),(448,1,.var [.ref 100028672 1 0 b.length]),(100028672,1,.row true (ab eS b))],2⟩
attribute[go_sem] mj
def ml (i:Int)(c:List GNode)(f:Int)(d:List Int)(g:Int)(l:List GTie)(m:Int)(h j:List Int)(n:ByteArray)(o:Int):(Int × Int × (List GLink) × (List ByteArray))→St
 | (k,e,a,b)=>⟨[(2,.ptr 128 1 0 0),(3,.ptr 192 1 0 0),(4,.ptr 256 1 0 0),(6,.ptr 384 1 0 0),(7,.ptr 448 1 0 0),(8,.fn 252 [.ptr 384 1 0 0,.ptr 448 1 0 0]),(17,.lit (.int .i64 i)),(18,.ptr 1152 1 0 0),(114,.sl (ab GNode.encS c)),(115,.lit (.int .i64 f)),(116,.lit (.int .i64 i)),(122,.sl (ab eI d)),(123,.lit (.int .i64 g)),(124,.lit (.int .i64 k))],[(128,1,.var [.sl (ab GNode.encS c),.sl (ab GTie.enc l),.lit (.int .i64 m)]),(192,1,.var [.sl (ab eI h),.sl (ab eI j)]),(256,1,.var [.lit (.int .i64 0),.lit (.slice none 0 0)]),(384,1,.var [.lit (.int .i64 e),.ref 100024577 1 0 a.length]),(100024577,1,.row true (ab GLink.enc a)),(448,1,.var [.ref 100028672 1 0 b.length]),(100028672,1,.row true (ab eS b)),(1152,1,.var [.lit (.string n),.sl (ab eI d),.lit (.int .i64 o)])],2⟩
attribute[go_sem] ml
def mq (c:List GNode)(e:Int)(i:List GTie)(j:Int)(f g:List Int):(Int × Int × (List GLink) × (List ByteArray))→St
 | (h,d,a,b)=>⟨[(2,.ptr 128 1 0 0),(3,.ptr 192 1 0 0),(4,.ptr 256 1 0 0),(6,.ptr 384 1 0 0),(7,.ptr 448 1 0 0),(8,.fn 252 [.ptr 384 1 0 0,.ptr 448 1 0 0]),(114,.sl (ab GNode.encS c)),(115,.lit (.int .i64 e)),(116,.lit (.int .i64 h))],[(128,1,.var [.sl (ab GNode.encS c),.sl (ab GTie.enc i),.lit (.int .i64 j)]),(192,1,.var [.sl (ab eI f),.sl (ab eI g)]),(256,1,.var [.lit (.int .i64 0),.lit (.slice none 0 0)]),(384,1,.var [.lit (.int .i64 d),.ref 100024577 1 0 a.length]),(100024577,1,.row true (ab GLink.enc a)),(448,1,.var [.ref 100028672 1 0 b.length]),(100028672,1,.row true (ab eS b))],2⟩
attribute[go_sem] mq
@[go_sem] def hi171_38:DT:=.i2 0 (.i1 1 (.i0 2 [1] (.i2 3 .nil)))
@[go_sem] def hi171_35:DT:=.r2 0 15 .nil
@[go_sem] def hi171_34:DT:=.i1 0 (.i2 1 (.i0 2 [0] (.i2 3 (.i2 4 .nil))))
@[go_sem] def hi171_19:DT:=.i2 0 (.i1 1 (.i1 2 (.i1 3 (.i1 4 (.r2 5 4 (.i0 9 [1,2,3,4] (.i2 10 .nil)))))))
@[go_sem] def hi171_17:DT:=.i1 0 (.i1 1 (.i2 2 (.i2 3 (.i0 4 [0,1] (.r2 5 3 .nil)))))
@[go_sem] def hi171_15:DT:=.r2 0 6 .nil
def aU:Hint where
 acts:=fun i=>match i with|8=>[.homeCell 384 1,.homeCell 448 0]|_=>[]
 draws:=fun
  | 15=>⟨hi171_15,[[],[0],[],[2],[0,1],.range 5],[0,1,3,4,2,5]⟩
  | 17=>⟨hi171_17,[[],[0],[],[],[2,3],.range 5,.range 6,.range 7],.range 8⟩
  | 19=>⟨hi171_19,[[],[],[1],[],[3],[],[],[],[],[7,8],.range 10],.range 11⟩
  | 34=>⟨hi171_34,[[],[],[1],[0,1,2],[0,1,2,3]],.range 5⟩
  | 35=>⟨hi171_35,[[],[],[],[],[3],[],[3,4,5],[3,4,5,6],[3,4,5,6,7],[3,4,5,6,7,8],[3,4,5,6,7,8,9],[],[11],[3,4,5,6,7,8,9,10,11,12],.range 14],.range 15⟩
  | 38=>⟨hi171_38,[[],[],[0],[0,1,2]],[0,2,1,3]⟩
  | _=>⟨.nil,[],[]⟩
@[go_sem] theorem OE:aU.acts 0=[]:=rfl
@[go_sem] theorem OF:aU.acts 1=[]:=rfl
@[go_sem] theorem OG:aU.acts 2=[]:=rfl
@[go_sem] theorem OH:aU.acts 3=[]:=rfl
@[go_sem] theorem OI:aU.acts 4=[]:=rfl
@[go_sem] theorem OJ:aU.acts 5=[]:=rfl
@[go_sem] theorem OK:aU.acts 6=[]:=rfl
@[go_sem] theorem OL:aU.acts 7=[]:=rfl
@[go_sem] theorem OM:aU.acts 8=[.homeCell 384 1,.homeCell 448 0]:=rfl
@[go_sem] theorem ON:aU.acts 9=[]:=rfl
@[go_sem] theorem Nx:aU.acts 10=[]:=rfl
@[go_sem] theorem Ny:aU.acts 11=[]:=rfl
@[go_sem] theorem Nz:aU.acts 12=[]:=rfl
@[go_sem] theorem NA:aU.acts 13=[]:=rfl
@[go_sem] theorem NB:aU.acts 14=[]:=rfl
@[go_sem] theorem NC:aU.acts 15=[]:=rfl
@[go_sem] theorem ND:aU.acts 16=[]:=rfl
@[go_sem] theorem NE:aU.acts 17=[]:=rfl
@[go_sem] theorem NF:aU.acts 18=[]:=rfl
@[go_sem] theorem NG:aU.acts 19=[]:=rfl
@[go_sem] theorem NH:aU.acts 20=[]:=rfl
@[go_sem] theorem NI:aU.acts 21=[]:=rfl
@[go_sem] theorem NJ:aU.acts 22=[]:=rfl
@[go_sem] theorem NK:aU.acts 23=[]:=rfl
@[go_sem] theorem NL:aU.acts 24=[]:=rfl
@[go_sem] theorem NM:aU.acts 25=[]:=rfl
@[go_sem] theorem NN:aU.acts 26=[]:=rfl
@[go_sem] theorem NO:aU.acts 27=[]:=rfl
@[go_sem] theorem NP:aU.acts 28=[]:=rfl
@[go_sem] theorem NQ:aU.acts 29=[]:=rfl
@[go_sem] theorem NR:aU.acts 30=[]:=rfl
@[go_sem] theorem NS:aU.acts 31=[]:=rfl
@[go_sem] theorem NT:aU.acts 32=[]:=rfl
@[go_sem] theorem NU:aU.acts 33=[]:=rfl
@[go_sem] theorem NV:aU.acts 34=[]:=rfl
@[go_sem] theorem NW:aU.acts 35=[]:=rfl
@[go_sem] theorem NX:aU.acts 36=[]:=rfl
@[go_sem] theorem NY:aU.acts 37=[]:=rfl
@[go_sem] theorem NZ:aU.acts 38=[]:=rfl
theorem Lx (i:Nat):aU.views i=none:=rfl
attribute[go_sem] Lx ntmps171 results171
@[go_sem] theorem Oa:(aU.draws 15).order=hi171_15:=rfl
@[go_sem] theorem Ob:(aU.draws 17).order=hi171_17:=rfl
@[go_sem] theorem Oc:(aU.draws 19).order=hi171_19:=rfl
@[go_sem] theorem Od:(aU.draws 34).order=hi171_34:=rfl
@[go_sem] theorem Oe:(aU.draws 35).order=hi171_35:=rfl
@[go_sem] theorem Of:(aU.draws 38).order=hi171_38:=rfl
instance k171 {s:GShow} {v1:GChoice}:Ctr (iN s v1) (fun (res:ag × (List ByteArray))=>aj prog 171 [.agg (GShow.encS s),.agg [.sl (ab eI v1.lengths),.sl (ab eI v1.values)]] [] (.tup [.agg [.lit (.int .i64 res.1.events),.ref 20000 1 0 res.1.links.length],.ref 20001 1 0 res.2.length]) [(20000,1,.row true (ab GLink.enc res.1.links)),(20001,1,.row true (ab eS res.2))]):=⟨by
 intro res h0
 refine bd (ra:=[.homeCell 256 1,.home 5]) (md:=mdT) hT (hi:=aU) func171 rfl rfl (by decide +kernel) (by simp) ?_
 unfold iN at h0
 obtain⟨q27,l0,h0⟩:=ae h0
 simp(config:=cS)only[go_sem, *]
 refine ah (m1:=.mk) (m2:=.mk) [.homeCell 384 1,.homeCell 448 0,.nfp [2,3,4,6,7,8,28,29,30] [(128,128),(192,192),(256,256),(384,384),(2944,100024577),(100024577,100024577),(448,448),(2945,100028672),(100028672,100028672)] []] (mh s.nodes ((s.nodes.length:Nat):Int) s.ties s.horizon v1.lengths v1.values) l0 ?_ ?_
 ·simp(config:=cS)only[go_sem, *]
 ·have k0:=h0
  clear h0 l0
  intro _ s0 _ h0 gb0
  obtain⟨v30_1,out_0_1,h100024577_1,h100028672_1⟩:=s0
  unfold gd at h0
  try dsimp only at h0
  obtain⟨_,h0⟩|⟨_,h0⟩:=itP h0
  ·exact run
  ·cases h0
   obtain rfl:=(aP gb0).symm
   clear gb0
   have h0:=k0
   clear k0
   try dsimp only at h0
   obtain⟨r04,g0,h0⟩:=ae h0
   simp(config:=cS)only[go_sem, *]
   have g0:=ctr g0
   refine am g0 ?_
   obtain⟨q26,l0,h0⟩:=ae h0
   simp(config:=cS)only[go_sem, *]
   refine ah (m1:=.mk) (m2:=.mk) [.nfp [2,3,4,6,7,8,11,51,52,53] [(128,128),(192,192),(256,256),(384,384),(6144,100024577),(100024577,100024577),(448,448),(6145,100028672),(100028672,100028672),(3136,3136)] []] (mi s.ties ((s.ties.length:Nat):Int) s.nodes s.horizon v1.lengths v1.values r04) l0 ?_ ?_
   ·simp(config:=cS)only[go_sem, *]
   ·have k0:=h0
    clear h0 l0
    intro _ s0 _ h0 gb0
    obtain⟨v53_2,out_0_2,h100024577_2,h100028672_2⟩:=s0
    unfold gg at h0
    try dsimp only at h0
    obtain⟨_,h0⟩|⟨_,h0⟩:=itP h0
    ·exact run
    ·cases h0
     obtain rfl:=(aP gb0).symm
     clear gb0
     have h0:=k0
     clear k0
     try dsimp only at h0
     obtain⟨q25,l0,h0⟩:=ae h0
     simp(config:=cS)only[go_sem, *]
     refine ah (m1:=.mk) (m2:=.mk) [.nfp [2,3,4,6,7,8,100,101] [(128,128),(192,192),(256,256),(384,384),(7104,100024577),(100024577,100024577),(448,448),(7105,100028672),(100028672,100028672)] []] (mj ((s.nodes.length:Nat):Int) s.nodes s.ties s.horizon v1.lengths v1.values) l0 ?_ ?_
     ·simp(config:=cS)only[go_sem, *]
     ·have k0:=h0
      clear h0 l0
      intro _ s0 _ h0 gb0
      obtain⟨v101_3,out_0_3,h100024577_3,h100028672_3⟩:=s0
      unfold gh at h0
      try dsimp only at h0
      obtain⟨_,h0⟩|⟨_,h0⟩:=itP h0
      ·exact run
      ·cases h0
       obtain rfl:=(aP gb0).symm
       clear gb0
       have h0:=k0
       clear k0
       try dsimp only at h0
       obtain⟨q24,l0,h0⟩:=ae h0
       simp(config:=cS)only[go_sem, *]
       refine ah (m1:=.mk) (m2:=.mk) [.nf [2,3,4,6,7,8,114,115,116] [128,192,256,384,100024577,448,100028672]] (mq s.nodes ((s.nodes.length:Nat):Int) s.ties s.horizon v1.lengths v1.values) l0 ?_ ?_
       ·simp(config:=cS)only[go_sem, *]
       ·have k0:=h0
        clear h0 l0
        intro _ s0 _ h0 gb0
        obtain⟨v116_4,out_0_4,h100024577_4,h100028672_4⟩:=s0
        unfold gj at h0
        try dsimp only at h0
        obtain⟨_,h0⟩|⟨_,h0⟩:=itP h0
        ·obtain⟨x16,_,_,_,h0⟩:=gtI h0
         obtain⟨q23,l0,h0⟩:=ae h0
         simp(config:=cS)only[go_sem, *]
         refine ah (m1:=.mk) (m2:=.mk) [.nfp [2,3,4,6,7,8,17,18,114,115,116,122,123,124] [(128,128),(192,192),(256,256),(384,384),(9600,100024577),(100024577,100024577),(448,448),(9601,100028672),(100028672,100028672),(1152,1152)] []] (ml v116_4 s.nodes ((s.nodes.length:Nat):Int) x16.label ((x16.label.length:Nat):Int) s.ties s.horizon v1.lengths v1.values x16.name x16.watch) l0 ?_ ?_
         ·simp(config:=cS)only[go_sem, *]
         ·have k0:=h0
          clear h0 l0
          intro _ s0 _ h0 gb0
          obtain⟨v124_5,out_0_5,h100024577_5,h100028672_5⟩:=s0
          unfold gi at h0
          try dsimp only at h0
          obtain⟨_,h0⟩|⟨_,h0⟩:=itP h0
          ·obtain⟨x17,_,_,_,h0⟩:=gtI h0
           obtain⟨r18,g0,h0⟩:=ae h0
           simp(config:=cS)only[go_sem, *]
           have g0:=ctr g0
           refine am g0 ?_
           obtain⟨_,h0⟩|⟨_,h0⟩:=itB h0
           ·obtain⟨r19,g0,h0⟩:=ae h0
            simp(config:=cS)only[go_sem, *]
            have g0:=ctr g0
            refine am g0 ?_
            obtain⟨r20,g0,h0⟩:=ae h0
            simp(config:=cS)only[go_sem, *]
            have g0:=ctr g0
            refine am g0 ?_
            obtain⟨x21,_,_,_,h0⟩:=gtI h0
            obtain⟨_,h0⟩:=ckP h0
            obtain⟨a1,h0⟩:=ckP h0
            try simp(config:=cS)only[go_sem]at a1
            obtain⟨a2,h0⟩:=ckP h0
            try simp(config:=cS)only[go_sem]at a2
            exact run
           ·exact run
          ·exact run
        ·exact run⟩
def ix (c:List GLink)(a:Nat)(b:List AV)(d e:Int):St:=⟨[(0,.sl (ab GLink.enc c)),(1,.fn a b),(7,.lit (.int .i64 d)),(8,.lit (.int .i64 e))],[],2⟩
attribute[go_sem] ix
theorem oM {v0:List GLink}{v1:GLink→Option Bool}{f_v1:Nat}{k_v1:List AV}(hp_v1:∀ y0 r,v1 y0=some r→aj prog f_v1 ([.agg (GLink.enc y0)]++k_v1) [] (.lit (.bool r)) [])(hc_v1:KC k_v1)(hm_v1:∀ a,mdT f_v1 a=⟨[],false⟩)(hk_v1:spf f_v1=false){res:Int}(h:cR v0 v1=some res):aj prog 272 [.sl (ab GLink.enc v0),.fn f_v1 k_v1] [] (.lit (.int .i64 res)) []:=by
 refine co (hi:=hi00) func272 rfl rfl ?_
 unfold cR at h
 obtain⟨q03,l1,h⟩:=ae h
 simp(config:=cS)only[go_sem,hc_v1.1,hc_v1.2,hm_v1,hk_v1]
 refine ah (m1:=.mk) (m2:=.mk) [.nf [0,1,7,8] []] (ix v0 f_v1 k_v1 ((v0.length:Nat):Int)) l1 ?_ ?_
 ·simp(config:=cS)only[go_sem,hc_v1.1,hc_v1.2,hm_v1,hk_v1]
 ·intro nb2 v8_1 bb2 b2 gb2
  unfold bE at b2
  try dsimp only at b2
  obtain⟨h3,b2⟩|⟨h3,b2⟩:=dA b2
  ·obtain⟨x01,g4,b2⟩:=ae b2
   obtain⟨h5,h6,h7⟩:=jS g4
   obtain⟨r02,g8,b2⟩:=ae b2
   simp(config:=cS)only[go_sem,hc_v1.1,hc_v1.2,hm_v1,hk_v1,eqT h3,h5,h6,h7]
   refine am (hp_v1 _ _ g8) ?_
   obtain⟨h9,b2⟩|⟨h9,b2⟩:=dA b2
   ·cases b2
    obtain rfl:=(aP gb2).symm
    try dsimp only at h
    cases h
    simp(config:=cS)only[go_sem,hc_v1.1,hc_v1.2,hm_v1,hk_v1,eqT h3,h5,h6,h7,eZt h9]
   ·cases b2
    simp(config:=cS)only[go_sem,hc_v1.1,hc_v1.2,hm_v1,hk_v1,eqT h3,h5,h6,h7,eZf h9]
    refine mZ gb2 ?_
    simp(config:=cS)only[go_sem,hc_v1.1,hc_v1.2,hm_v1,hk_v1,eqT h3,h5,h6,h7,eZf h9]
  ·cases b2
   obtain rfl:=(aP gb2).symm
   try dsimp only at h
   cases h
   simp(config:=cS)only[go_sem,hc_v1.1,hc_v1.2,hm_v1,hk_v1,eqF h3]
theorem nI {v0:List GLink}{v1:GLink→Option Bool}{f_v1:Nat}{k_v1:List AV}(hp_v1:∀ y0 r,v1 y0=some r→aj prog f_v1 ([.agg (GLink.enc y0)]++k_v1) [] (.lit (.bool r)) [])(hc_v1:KC k_v1)(hm_v1:∀ a,mdT f_v1 a=⟨[],false⟩)(hk_v1:spf f_v1=false){res:Bool}(h:cg v0 v1=some res):aj prog 254 [.sl (ab GLink.enc v0),.fn f_v1 k_v1] [] (.lit (.bool res)) []:=by
 refine co (hi:=hi00) func254 rfl rfl ?_
 unfold cg at h
 obtain⟨r01,g1,h⟩:=ae h
 simp(config:=cS)only[go_sem,hc_v1.1,hc_v1.2,hm_v1,hk_v1]
 refine am (oM hp_v1 hc_v1 hm_v1 hk_v1 g1) ?_
 cases h
 simp(config:=cS)only[go_sem,hc_v1.1,hc_v1.2,hm_v1,hk_v1]
instance k177 {i:ap}:Ctr (cY i) (fun (res:Bool)=>aj prog 177 [.agg [.lit (.int .i64 i.low),.lit (.int .i64 i.high)]] [] (.lit (.bool res)) []):=⟨by
 intro res h0
 refine co (hi:=hi00) func177 rfl rfl ?_
 unfold cY at h0
 exact run⟩
instance k255 {l:GLink} {s:ag}:Ctr (fJ l s) (fun (res:Bool)=>aj prog 255 [.agg (GLink.enc l),.loc [.lit (.int .i64 s.events),.sl (ab GLink.enc s.links)]] [] (.lit (.bool res)) []):=⟨by
 intro res h0
 refine co (hi:=hi00) func255 rfl rfl ?_
 unfold fJ at h0
 exact run⟩
instance k172 {s:ag}:Ctr (de s) (fun (res:Bool)=>aj prog 172 [.agg [.lit (.int .i64 s.events),.sl (ab GLink.enc s.links)]] [] (.lit (.bool res)) []):=⟨by
 intro res h0
 refine co (hi:=hi00) func172 rfl rfl ?_
 unfold de at h0
 obtain⟨_,h0⟩|⟨_,h0⟩:=itP h0
 ·exact run
 ·obtain⟨_,h0⟩|⟨_,h0⟩:=itP h0
  ·exact run
  ·obtain⟨_,h0⟩|⟨_,h0⟩:=itP h0
   ·exact run
   ·obtain⟨r01,g0,h0⟩:=ae h0
    simp(config:=cS)only[go_sem, *]
    refine am (nI (by exact fun _ _ hr=>by have q:=ctr hr;exact q) (by refine⟨fun _=>?_,fun _=>?_⟩ <;> simp only[go_sem]) (fun _=>rfl) rfl g0) ?_
    exact run⟩
instance k68 {s:GShow} {v1:GChoice}:Ctr (dS s v1) (fun (res:ag × Bool)=>aj prog 68 [.agg (GShow.encS s),.agg [.sl (ab eI v1.lengths),.sl (ab eI v1.values)]] [] (.tup [.agg [.lit (.int .i64 res.1.events),.ref 20000 1 0 res.1.links.length],.lit (.bool res.2)]) [(20000,1,.row true (ab GLink.enc res.1.links))]):=⟨by
 intro res h0
 refine bd (ra:=[.homeCell 256 1]) (md:=mdT) hT (hi:=hi00) func68 rfl rfl (by decide +kernel) (by simp) ?_
 unfold dS at h0
 exact run⟩
def mr (c:List GLink)(d e:Int):(Int × (List Int) × (List GEdge))→St
 | (f,b,a)=>⟨[(2,.ptr 128 1 0 0),(4,.ptr 256 1 0 0),(5,.ref 383 1 0 b.length),(12,.sl (ab GLink.enc c)),(13,.lit (.int .i64 d)),(14,.lit (.int .i64 f))],[(128,1,.var [.lit (.int .i64 0),.lit (.slice none 0 0)]),(256,1,.var [.lit (.int .i64 e),.ref 100016385 1 0 a.length]),(100016385,1,.row true (ab GEdge.enc a)),(383,1,.row true (ab eI b))],2⟩
attribute[go_sem] mr
instance k261 {s:ag}:Ctr (iO s) (fun (res:GGraph × (List Int))=>aj prog 261 [.agg [.lit (.int .i64 s.events),.sl (ab GLink.enc s.links)]] [] (.tup [.agg [.lit (.int .i64 res.1.nodes),.ref 20000 1 0 res.1.edges.length],.ref 20001 1 0 res.2.length]) [(20000,1,.row true (ab GEdge.enc res.1.edges)),(20001,1,.row true (ab eI res.2))]):=⟨by
 intro res h0
 refine bd (ra:=[.homeCell 128 1,.home 3]) (md:=mdT) hT (hi:=hi00) func261 rfl rfl (by decide +kernel) (by simp) ?_
 unfold iO at h0
 obtain⟨q02,l0,h0⟩:=ae h0
 simp(config:=cS)only[go_sem, *]
 refine ah (m1:=.mk) (m2:=.mk) [.home 5,.homeCell 256 1,.nf [2,4,5,12,13,14] [128,256,100016385,383]] (mr s.links ((s.links.length:Nat):Int) s.events) l0 ?_ ?_
 ·simp(config:=cS)only[go_sem, *]
 ·have k0:=h0
  clear h0 l0
  intro _ s0 _ h0 gb0
  obtain⟨v14_1,links_1,h100016385_1⟩:=s0
  unfold eH at h0
  try dsimp only at h0
  obtain⟨_,h0⟩|⟨_,h0⟩:=itP h0
  ·obtain⟨x01,_,_,_,h0⟩:=gtI h0
   obtain⟨_,h0⟩|⟨_,h0⟩:=itP h0
   ·exact run
   ·obtain⟨_,h0⟩:=ckP h0
    obtain⟨_,h0⟩:=ckP h0
    obtain⟨_,h0⟩:=ckP h0
    obtain⟨_,h0⟩:=ckP h0
    obtain⟨_,h0⟩|⟨_,h0⟩:=itP h0
    ·exact run
    ·obtain⟨a1,h0⟩:=ckP h0
     try simp(config:=cS)only[go_sem]at a1
     obtain⟨a2,h0⟩:=ckP h0
     try simp(config:=cS)only[go_sem]at a2
     obtain⟨a3,h0⟩:=ckP h0
     try simp(config:=cS)only[go_sem]at a3
     obtain⟨a4,h0⟩:=ckP h0
     try simp(config:=cS)only[go_sem]at a4
     exact run
  ·exact run⟩
instance k175 {s:ag}:Ctr (gM s) (fun (res:GGraph)=>aj prog 175 [.agg [.lit (.int .i64 s.events),.sl (ab GLink.enc s.links)]] [] (.agg [.lit (.int .i64 res.nodes),.ref 20000 1 0 res.edges.length]) [(20000,1,.row true (ab GEdge.enc res.edges))]):=⟨by
 intro res h0
 refine bd (ra:=[.homeCell 128 1]) (md:=mdT) hT (hi:=hi00) func175 rfl rfl (by decide +kernel) (by simp) ?_
 unfold gM at h0
 exact run⟩
def iy (c:List GEdge)(a:Nat)(b:List AV)(d e:Int):St:=⟨[(0,.sl (ab GEdge.enc c)),(1,.fn a b),(7,.lit (.int .i64 d)),(8,.lit (.int .i64 e))],[],2⟩
attribute[go_sem] iy
theorem oN {v0:List GEdge}{v1:GEdge→Option Bool}{f_v1:Nat}{k_v1:List AV}(hp_v1:∀ y0 r,v1 y0=some r→aj prog f_v1 ([.agg (GEdge.enc y0)]++k_v1) [] (.lit (.bool r)) [])(hc_v1:KC k_v1)(hm_v1:∀ a,mdT f_v1 a=⟨[],false⟩)(hk_v1:spf f_v1=false){res:Int}(h:cT v0 v1=some res):aj prog 344 [.sl (ab GEdge.enc v0),.fn f_v1 k_v1] [] (.lit (.int .i64 res)) []:=by
 refine co (hi:=hi00) func344 rfl rfl ?_
 unfold cT at h
 obtain⟨q03,l1,h⟩:=ae h
 simp(config:=cS)only[go_sem,hc_v1.1,hc_v1.2,hm_v1,hk_v1]
 refine ah (m1:=.mk) (m2:=.mk) [.nf [0,1,7,8] []] (iy v0 f_v1 k_v1 ((v0.length:Nat):Int)) l1 ?_ ?_
 ·simp(config:=cS)only[go_sem,hc_v1.1,hc_v1.2,hm_v1,hk_v1]
 ·intro nb2 v8_1 bb2 b2 gb2
  unfold bF at b2
  try dsimp only at b2
  obtain⟨h3,b2⟩|⟨h3,b2⟩:=dA b2
  ·obtain⟨x01,g4,b2⟩:=ae b2
   obtain⟨h5,h6,h7⟩:=jS g4
   obtain⟨r02,g8,b2⟩:=ae b2
   simp(config:=cS)only[go_sem,hc_v1.1,hc_v1.2,hm_v1,hk_v1,eqT h3,h5,h6,h7]
   refine am (hp_v1 _ _ g8) ?_
   obtain⟨h9,b2⟩|⟨h9,b2⟩:=dA b2
   ·cases b2
    obtain rfl:=(aP gb2).symm
    try dsimp only at h
    cases h
    simp(config:=cS)only[go_sem,hc_v1.1,hc_v1.2,hm_v1,hk_v1,eqT h3,h5,h6,h7,eZt h9]
   ·cases b2
    simp(config:=cS)only[go_sem,hc_v1.1,hc_v1.2,hm_v1,hk_v1,eqT h3,h5,h6,h7,eZf h9]
    refine mZ gb2 ?_
    simp(config:=cS)only[go_sem,hc_v1.1,hc_v1.2,hm_v1,hk_v1,eqT h3,h5,h6,h7,eZf h9]
  ·cases b2
   obtain rfl:=(aP gb2).symm
   try dsimp only at h
   cases h
   simp(config:=cS)only[go_sem,hc_v1.1,hc_v1.2,hm_v1,hk_v1,eqF h3]
theorem nJ {v0:List GEdge}{v1:GEdge→Option Bool}{f_v1:Nat}{k_v1:List AV}(hp_v1:∀ y0 r,v1 y0=some r→aj prog f_v1 ([.agg (GEdge.enc y0)]++k_v1) [] (.lit (.bool r)) [])(hc_v1:KC k_v1)(hm_v1:∀ a,mdT f_v1 a=⟨[],false⟩)(hk_v1:spf f_v1=false){res:Bool}(h:ch v0 v1=some res):aj prog 309 [.sl (ab GEdge.enc v0),.fn f_v1 k_v1] [] (.lit (.bool res)) []:=by
 refine co (hi:=hi00) func309 rfl rfl ?_
 unfold ch at h
 obtain⟨r01,g1,h⟩:=ae h
 simp(config:=cS)only[go_sem,hc_v1.1,hc_v1.2,hm_v1,hk_v1]
 refine am (oN hp_v1 hc_v1 hm_v1 hk_v1 g1) ?_
 cases h
 simp(config:=cS)only[go_sem,hc_v1.1,hc_v1.2,hm_v1,hk_v1]
instance k265 {n:Int}:Ctr (ik n) (fun (res:Bool)=>aj prog 265 [.lit (.int .i64 n)] [] (.lit (.bool res)) []):=⟨by
 intro res h0
 refine co (hi:=hi00) func265 rfl rfl ?_
 unfold ik at h0
 exact run⟩
instance k310 {e:GEdge} {g:GGraph}:Ctr (gk e g) (fun (res:Bool)=>aj prog 310 [.agg (GEdge.enc e),.loc [.lit (.int .i64 g.nodes),.sl (ab GEdge.enc g.edges)]] [] (.lit (.bool res)) []):=⟨by
 intro res h0
 refine co (hi:=hi00) func310 rfl rfl ?_
 unfold gk at h0
 exact run⟩
instance k258 {g:GGraph}:Ctr (fo g) (fun (res:Bool)=>aj prog 258 [.agg [.lit (.int .i64 g.nodes),.sl (ab GEdge.enc g.edges)]] [] (.lit (.bool res)) []):=⟨by
 intro res h0
 refine co (hi:=hi00) func258 rfl rfl ?_
 unfold fo at h0
 obtain⟨_,h0⟩|⟨_,h0⟩:=itP h0
 ·exact run
 ·obtain⟨_,h0⟩|⟨_,h0⟩:=itP h0
  ·exact run
  ·obtain⟨_,h0⟩|⟨_,h0⟩:=itP h0
   ·exact run
   ·obtain⟨r01,g0,h0⟩:=ae h0
    simp(config:=cS)only[go_sem, *]
    refine am (nJ (by exact fun _ _ hr=>by have q:=ctr hr;exact q) (by refine⟨fun _=>?_,fun _=>?_⟩ <;> simp only[go_sem]) (fun _=>rfl) rfl g0) ?_
    exact run⟩
instance k313 {v0:Int} {y:Int}:Ctr (oA v0 y) (fun (res:Int × Int)=>aj prog 313 [.lit (.int .u64 v0),.lit (.int .u64 y)] [] (.tup [.lit (.int .u64 res.1),.lit (.int .u64 res.2)]) []):=⟨by
 intro res h0
 refine co (hi:=hi00) func313 rfl rfl ?_
 unfold oA at h0
 exact run⟩
instance k275 {v0:Int} {y:Int}:Ctr (fy v0 y) (fun (res:Int × Int)=>aj prog 275 [.lit (.int .u64 v0),.lit (.int .u64 y)] [] (.tup [.lit (.int .u64 res.1),.lit (.int .u64 res.2)]) []):=⟨by
 intro res h0
 refine co (hi:=hi00) func275 rfl rfl ?_
 unfold fy at h0
 exact run⟩
def jN  : (Int × (List Int))→St
 | (b,a)=>⟨[(7,.ref 1920 1 0 a.length),(8,.lit (.int .i64 b))],[(1920,1,.row true (ab eI a))],2⟩
attribute[go_sem] jN
@[go_sem] def hi200_9:DT:=.r2 0 10 .nil
def AQ:Hint where
 acts:=fun _=>[]
 draws:=fun
  | 9=>⟨hi200_9,[[],[],[],[1,2],[],[],[4,5],[1,2,3,4,5,6],.range 8,.range 9],.range 10⟩
  | _=>⟨.nil,[],[]⟩
theorem Ly (i:Nat):AQ.acts i=[]:=rfl
theorem Lz (i:Nat):AQ.views i=none:=rfl
attribute[go_sem] Ly Lz ntmps200 results200
@[go_sem] theorem OO:(AQ.draws 9).order=hi200_9:=rfl
instance k200 {v0:List Int} {v1:Int}:Ctr (aH v0 v1) (fun (res:List Int)=>aj prog 200 [.sl (ab eI v0),.lit (.int .i64 v1)] [] (.ref 20000 1 0 res.length) [(20000,1,.row true (ab eI res))]):=⟨by
 intro res h0
 refine bd (ra:=[.home 4]) (md:=mdT) hT (hi:=AQ) func200 rfl rfl (by decide +kernel) (by simp) ?_
 unfold aH at h0
 obtain⟨_,h0⟩|⟨_,h0⟩:=itP h0
 ·exact run
 ·obtain⟨r01,g0,h0⟩:=ae h0
  simp(config:=cS)only[go_sem, *]
  have g0:=ctr g0
  refine am g0 ?_
  obtain⟨_,h0⟩|⟨_,h0⟩:=itP h0
  ·exact run
  ·obtain⟨_,h0⟩|⟨_,h0⟩:=itP h0
   ·exact run
   ·obtain⟨_,h0⟩:=ckP h0
    obtain⟨_,h0⟩:=ckP h0
    obtain⟨_,h0⟩:=ckP h0
    obtain⟨q02,l0,h0⟩:=ae h0
    simp(config:=cS)only[go_sem, *]
    refine ah (m1:=.mk) (m2:=.mk) [.nf [7,8] [1920]] (jN) l0 ?_ ?_
    ·simp(config:=cS)only[go_sem, *]
    ·have k0:=h0
     clear h0 l0
     intro _ s0 _ h0 gb0
     obtain⟨v8_1,v7_1⟩:=s0
     unfold aq at h0
     try dsimp only at h0
     exact run⟩
def jn (a:Bool)  : (Int × Int × (List Int))→St
 | (c,d,b)=>⟨[(0,.ref 10000 0 0 b.length),(2,.lit (.int .i64 c)),(3,.lit (.int .i64 d))],[(10000,0,.row a (ab eI b))],2⟩
attribute[go_sem] jn
@[go_sem] def hi282_3:DT:=.r2 0 16 .nil
def AR:Hint where
 acts:=fun _=>[]
 draws:=fun
  | 3=>⟨hi282_3,[[],[],[],[],[],[],[4,5],[4,5,6],[],[],[8,9],[8,9,10],[0,1,4,5,6,7,8,9,10,11],[0,1,4,5,6,7,8,9,10,11,12],.range 14,.range 15],[0,1,12,13,2,3,4,5,6,7,8,9,10,11,14,15]⟩
  | _=>⟨.nil,[],[]⟩
theorem LA (i:Nat):AR.acts i=[]:=rfl
theorem LB (i:Nat):AR.views i=none:=rfl
attribute[go_sem] LA LB ntmps282 results282
@[go_sem] theorem OP:(AR.draws 3).order=hi282_3:=rfl
theorem jb {v0:List Int}{zb0:Bool}{res:List Int}(h0:ep v0=some res):aj prog 282 [.ref 10000 0 0 v0.length] [(10000,0,.row zb0 (ab eI v0))] (.tup []) [(10000,0,.row zb0 (ab eI res))]:=by
 refine co (hi:=AR) func282 rfl rfl ?_
 unfold ep at h0
 obtain⟨q04,l0,h0⟩:=ae h0
 simp(config:=cS)only[go_sem, *]
 refine ah (m1:=.mk) (m2:=.mk) [.nf [0,2,3] [10000]] (jn zb0) l0 ?_ ?_
 ·simp(config:=cS)only[go_sem, *]
 ·have k0:=h0
  clear h0 l0
  intro _ s0 _ h0 gb0
  obtain⟨v2_1,v3_1,v0_1⟩:=s0
  unfold cU at h0
  try dsimp only at h0
  exact run
def du (d:Int)(e:List GEdge)(f g:Int):(Int × Int × (List Int) × (List Int))→St
 | (b,h,a,c)=>⟨[(1,.ptr 64 1 0 0),(3,.ref 1216 1 0 a.length),(4,.ref 1472 1 0 c.length),(5,.lit (.int .i64 b)),(6,.lit (.int .i64 d)),(31,.sl (ab GEdge.enc e)),(32,.lit (.int .i64 f)),(33,.lit (.int .i64 h))],[(64,1,.var [.lit (.int .i64 g),.sl (ab GEdge.enc e)]),(1216,1,.row true (ab eI a)),(1472,1,.row true (ab eI c))],2⟩
attribute[go_sem] du
def dv (e:Int)(f:List GEdge):(Int × Int × (List Int) × (List Int))→St
 | (b,d,a,c)=>⟨[(1,.ptr 64 1 0 0),(3,.ref 1216 1 0 a.length),(4,.ref 1472 1 0 c.length),(5,.lit (.int .i64 b)),(6,.lit (.int .i64 d))],[(64,1,.var [.lit (.int .i64 e),.sl (ab GEdge.enc f)]),(1216,1,.row true (ab eI a)),(1472,1,.row true (ab eI c))],2⟩
attribute[go_sem] dv
def dw (c:Int)(d:List GEdge)(a:List Int):(Int × Int)→St
 | (b,i)=>⟨[(1,.ptr 64 1 0 0),(4,.ref 1472 1 0 a.length),(10,.lit (.int .i64 b)),(11,.lit (.int .i64 i))],[(64,1,.var [.lit (.int .i64 c),.sl (ab GEdge.enc d)]),(1472,1,.row true (ab eI a))],2⟩
attribute[go_sem] dw
def dx (c d:Int)(e:List GEdge)(a:List Int):(Int × (List Int))→St
 | (f,b)=>⟨[(1,.ptr 64 1 0 0),(4,.ref 1472 1 0 a.length),(10,.lit (.int .i64 c)),(12,.ref 831 1 0 b.length),(13,.lit (.int .i64 f))],[(64,1,.var [.lit (.int .i64 d),.sl (ab GEdge.enc e)]),(1472,1,.row true (ab eI a)),(831,1,.row true (ab eI b))],2⟩
attribute[go_sem] dx
@[go_sem] def hi211_26:DT:=.r2 0 10 .nil
@[go_sem] def hi211_22:DT:=.r2 0 10 .nil
@[go_sem] def hi211_14:DT:=.r2 0 4 (.i1 4 (.i1 5 (.r2 6 4 (.i0 10 [4,5] (.r2 11 3 .nil)))))
@[go_sem] def hi211_12:DT:=.r2 0 9 .nil
@[go_sem] def hi211_3:DT:=.i1 0 (.i1 1 (.i1 4 (.i1 5 (.fork (.i0 2 [4,5] (.i0 3 [0,1,4,5] (.i0 6 [0,1] (.i2 7 (.i2 8 .nil))))) (.i0 3 [0,1,4,5] (.fork (.i0 2 [4,5] (.i0 6 [0,1] (.i2 7 (.i2 8 .nil)))) (.i0 6 [0,1] (.i0 2 [4,5] (.i2 7 (.i2 8 .nil))))))))))
def pd:Hint where
 acts:=fun _=>[]
 draws:=fun
  | 3=>⟨hi211_3,[[],[0],[0,1],[],[],[4],[3,4,5],.range 7,.range 8],.range 9⟩
  | 12=>⟨hi211_12,[[],[],[1],[0,1,2],[0,1,2,3],[],[5],.range 7,.range 8],.range 9⟩
  | 14=>⟨hi211_14,[[],[],[1],[],[],[4],[],[],[],[0,1,2,6],[0,1,2,6,9],[0,1,2,3,4,5,6,7,9,10],[0,1,2,3,4,5,6,7,9,10,11],.range 13],[0,1,2,6,7,8,3,9,12,4,5,10,11,13]⟩
  | 22=>⟨hi211_22,[[],[0],[],[],[2,3],[2,3,4],.range 6,.range 7,.range 8,.range 9],.range 10⟩
  | 26=>⟨hi211_26,[[],[0],[],[],[2,3],[2,3,4],.range 6,.range 7,.range 8,.range 9],.range 10⟩
  | _=>⟨.nil,[],[]⟩
theorem LC (i:Nat):pd.acts i=[]:=rfl
theorem LD (i:Nat):pd.views i=none:=rfl
attribute[go_sem] LC LD ntmps211 results211
@[go_sem] theorem OQ:(pd.draws 3).order=hi211_3:=rfl
@[go_sem] theorem Og:(pd.draws 12).order=hi211_12:=rfl
@[go_sem] theorem Oh:(pd.draws 14).order=hi211_14:=rfl
@[go_sem] theorem Oi:(pd.draws 22).order=hi211_22:=rfl
@[go_sem] theorem Oj:(pd.draws 26).order=hi211_26:=rfl
instance k211 {g:GGraph}:Ctr (eu g) (fun (res:Option (List Int))=>aj prog 211 [.agg [.lit (.int .i64 g.nodes),.sl (ab GEdge.enc g.edges)]] [] (match res with|none=>.lit (.slice none 0 0)|some l=>.ref 20000 1 0 l.length) (match res with|none=>[]|some l=>[(20000,1,.row true (ab eI l))])):=⟨by
 intro res h0
 refine co (hi:=pd) func211 rfl rfl ?_
 unfold eu at h0
 obtain⟨r01,g0,h0⟩:=ae h0
 simp(config:=cS)only[go_sem, *]
 have g0:=ctr g0
 refine am g0 ?_
 obtain⟨_,h0⟩|⟨_,h0⟩:=itB h0
 ·obtain⟨_,h0⟩:=ckP h0
  obtain⟨_,h0⟩:=ckP h0
  obtain⟨_,h0⟩:=ckP h0
  try simp(config:=cS)only[go_sem, *]
  refine pC ?_ ?_
  ·obtain⟨r02,g0,h0⟩:=ae h0
   simp(config:=cS)only[go_sem, *]
   have g0:=ctr g0
   refine am g0 ?_
   obtain⟨q18,l0,h0⟩:=ae h0
   simp(config:=cS)only[go_sem, *]
   refine ah (m1:=.mk) (m2:=.mk) [.nf [1,3,4,5,6] [64,1216,1472]] (dv g.nodes g.edges) l0 ?_ ?_
   ·simp(config:=cS)only[go_sem, *]
   ·have k0:=h0
    clear h0 l0
    intro _ s0 _ h0 gb0
    obtain⟨changed_1,round_1,numbers_1,last_1⟩:=s0
    unfold bo at h0
    try dsimp only at h0
    obtain⟨_,h0⟩|⟨_,h0⟩:=itP h0
    ·obtain⟨q07,l0,h0⟩:=ae h0
     simp(config:=cS)only[go_sem, *]
     refine ah (m1:=.mk) (m2:=.mk) [.nf [1,3,4,5,6,31,32,33] [64,1216,1472]] (du round_1 g.edges ((g.edges.length:Nat):Int) g.nodes) l0 ?_ ?_
     ·simp(config:=cS)only[go_sem, *]
     ·have k0:=h0
      clear h0 l0
      intro _ s0 _ h0 gb0
      obtain⟨changed_2,v33_2,numbers_2,last_2⟩:=s0
      unfold bn at h0
      try dsimp only at h0
      exact run
    ·cases h0
     obtain rfl:=(aP gb0).symm
     clear gb0
     have h0:=k0
     clear k0
     try dsimp only at h0
     obtain⟨_,h0⟩|⟨_,h0⟩:=itP h0
     ·exact run
     ·obtain⟨x08,_,_,_,h0⟩:=gtI h0
      obtain⟨q17,l0,h0⟩:=ae h0
      simp(config:=cS)only[go_sem, *]
      refine ah (m1:=.mk) (m2:=.mk) [.nf [1,4,10,11] [64,1472]] (dw g.nodes g.edges last_1) l0 ?_ ?_
      ·simp(config:=cS)only[go_sem, *]
      ·have k0:=h0
       clear h0 l0
       intro _ s0 _ h0 gb0
       obtain⟨node_3,i_3⟩:=s0
       unfold bp at h0
       try dsimp only at h0
       obtain⟨_,h0⟩|⟨_,h0⟩:=itP h0
       ·exact run
       ·cases h0
        obtain rfl:=(aP gb0).symm
        clear gb0
        have h0:=k0
        clear k0
        try dsimp only at h0
        obtain⟨q16,l0,h0⟩:=ae h0
        simp(config:=cS)only[go_sem, *]
        refine ah (m1:=.mk) (m2:=.mk) [.home 12,.nf [1,4,10,12,13] [64,1472,831]] (dx node_3 g.nodes g.edges last_1) l0 ?_ ?_
        ·simp(config:=cS)only[go_sem, *]
        ·have k0:=h0
         clear h0 l0
         intro _ s0 _ h0 gb0
         obtain⟨at__4,out_4⟩:=s0
         unfold bq at h0
         try dsimp only at h0
         obtain⟨_,h0⟩|⟨_,h0⟩:=itP h0
         ·exact run
         ·obtain⟨_,h0⟩|⟨_,h0⟩:=itP h0
          ·cases h0
           obtain rfl:=(aP gb0).symm
           clear gb0
           have h0:=k0
           clear k0
           try dsimp only at h0
           obtain⟨r13,g0,h0⟩:=ae h0
           simp(config:=cS)only[go_sem, *]
           refine am (jb g0) ?_
           exact run
          ·exact run
  ·try simp(config:=cS)only[go_sem, *]
   refine pC ?_ ?_
   ·obtain⟨r19,g0,h0⟩:=ae h0
    simp(config:=cS)only[go_sem, *]
    have g0:=ctr g0
    refine am g0 ?_
    obtain⟨q35,l0,h0⟩:=ae h0
    simp(config:=cS)only[go_sem, *]
    refine ah (m1:=.mk) (m2:=.mk) [.nf [1,3,4,5,6] [64,1216,1472]] (dv g.nodes g.edges) l0 ?_ ?_
    ·simp(config:=cS)only[go_sem, *]
    ·have k0:=h0
     clear h0 l0
     intro _ s0 _ h0 gb0
     obtain⟨changed_5,round_5,numbers_5,last_5⟩:=s0
     unfold bo at h0
     try dsimp only at h0
     obtain⟨_,h0⟩|⟨_,h0⟩:=itP h0
     ·obtain⟨q24,l0,h0⟩:=ae h0
      simp(config:=cS)only[go_sem, *]
      refine ah (m1:=.mk) (m2:=.mk) [.nf [1,3,4,5,6,31,32,33] [64,1216,1472]] (du round_5 g.edges ((g.edges.length:Nat):Int) g.nodes) l0 ?_ ?_
      ·simp(config:=cS)only[go_sem, *]
      ·have k0:=h0
       clear h0 l0
       intro _ s0 _ h0 gb0
       obtain⟨changed_6,v33_6,numbers_6,last_6⟩:=s0
       unfold bn at h0
       try dsimp only at h0
       exact run
     ·cases h0
      obtain rfl:=(aP gb0).symm
      clear gb0
      have h0:=k0
      clear k0
      try dsimp only at h0
      obtain⟨_,h0⟩|⟨_,h0⟩:=itP h0
      ·exact run
      ·obtain⟨x25,_,_,_,h0⟩:=gtI h0
       obtain⟨q34,l0,h0⟩:=ae h0
       simp(config:=cS)only[go_sem, *]
       refine ah (m1:=.mk) (m2:=.mk) [.nf [1,4,10,11] [64,1472]] (dw g.nodes g.edges last_5) l0 ?_ ?_
       ·simp(config:=cS)only[go_sem, *]
       ·have k0:=h0
        clear h0 l0
        intro _ s0 _ h0 gb0
        obtain⟨node_7,i_7⟩:=s0
        unfold bp at h0
        try dsimp only at h0
        obtain⟨_,h0⟩|⟨_,h0⟩:=itP h0
        ·exact run
        ·cases h0
         obtain rfl:=(aP gb0).symm
         clear gb0
         have h0:=k0
         clear k0
         try dsimp only at h0
         obtain⟨q33,l0,h0⟩:=ae h0
         simp(config:=cS)only[go_sem, *]
         refine ah (m1:=.mk) (m2:=.mk) [.home 12,.nf [1,4,10,12,13] [64,1472,831]] (dx node_7 g.nodes g.edges last_5) l0 ?_ ?_
         ·simp(config:=cS)only[go_sem, *]
         ·have k0:=h0
          clear h0 l0
          intro _ s0 _ h0 gb0
          obtain⟨at__8,out_8⟩:=s0
          unfold bq at h0
          try dsimp only at h0
          obtain⟨_,h0⟩|⟨_,h0⟩:=itP h0
          ·exact run
          ·obtain⟨_,h0⟩|⟨_,h0⟩:=itP h0
           ·cases h0
            obtain rfl:=(aP gb0).symm
            clear gb0
            have h0:=k0
            clear k0
            try dsimp only at h0
            obtain⟨r30,g0,h0⟩:=ae h0
            simp(config:=cS)only[go_sem, *]
            refine am (jb g0) ?_
            exact run
           ·exact run
   ·obtain⟨r36,g0,h0⟩:=ae h0
    simp(config:=cS)only[go_sem, *]
    have g0:=ctr g0
    refine am g0 ?_
    obtain⟨q52,l0,h0⟩:=ae h0
    simp(config:=cS)only[go_sem, *]
    refine ah (m1:=.mk) (m2:=.mk) [.nf [1,3,4,5,6] [64,1216,1472]] (dv g.nodes g.edges) l0 ?_ ?_
    ·simp(config:=cS)only[go_sem, *]
    ·have k0:=h0
     clear h0 l0
     intro _ s0 _ h0 gb0
     obtain⟨changed_9,round_9,numbers_9,last_9⟩:=s0
     unfold bo at h0
     try dsimp only at h0
     obtain⟨_,h0⟩|⟨_,h0⟩:=itP h0
     ·obtain⟨q41,l0,h0⟩:=ae h0
      simp(config:=cS)only[go_sem, *]
      refine ah (m1:=.mk) (m2:=.mk) [.nf [1,3,4,5,6,31,32,33] [64,1216,1472]] (du round_9 g.edges ((g.edges.length:Nat):Int) g.nodes) l0 ?_ ?_
      ·simp(config:=cS)only[go_sem, *]
      ·have k0:=h0
       clear h0 l0
       intro _ s0 _ h0 gb0
       obtain⟨changed_10,v33_10,numbers_10,last_10⟩:=s0
       unfold bn at h0
       try dsimp only at h0
       exact run
     ·cases h0
      obtain rfl:=(aP gb0).symm
      clear gb0
      have h0:=k0
      clear k0
      try dsimp only at h0
      obtain⟨_,h0⟩|⟨_,h0⟩:=itP h0
      ·exact run
      ·obtain⟨x42,_,_,_,h0⟩:=gtI h0
       obtain⟨q51,l0,h0⟩:=ae h0
       simp(config:=cS)only[go_sem, *]
       refine ah (m1:=.mk) (m2:=.mk) [.nf [1,4,10,11] [64,1472]] (dw g.nodes g.edges last_9) l0 ?_ ?_
       ·simp(config:=cS)only[go_sem, *]
       ·have k0:=h0
        clear h0 l0
        intro _ s0 _ h0 gb0
        obtain⟨node_11,i_11⟩:=s0
        unfold bp at h0
        try dsimp only at h0
        obtain⟨_,h0⟩|⟨_,h0⟩:=itP h0
        ·exact run
        ·cases h0
         obtain rfl:=(aP gb0).symm
         clear gb0
         have h0:=k0
         clear k0
         try dsimp only at h0
         obtain⟨q50,l0,h0⟩:=ae h0
         simp(config:=cS)only[go_sem, *]
         refine ah (m1:=.mk) (m2:=.mk) [.home 12,.nf [1,4,10,12,13] [64,1472,831]] (dx node_11 g.nodes g.edges last_9) l0 ?_ ?_
         ·simp(config:=cS)only[go_sem, *]
         ·have k0:=h0
          clear h0 l0
          intro _ s0 _ h0 gb0
          obtain⟨at__12,out_12⟩:=s0
          unfold bq at h0
          try dsimp only at h0
          obtain⟨_,h0⟩|⟨_,h0⟩:=itP h0
          ·exact run
          ·obtain⟨_,h0⟩|⟨_,h0⟩:=itP h0
           ·cases h0
            obtain rfl:=(aP gb0).symm
            clear gb0
            have h0:=k0
            clear k0
            try dsimp only at h0
            obtain⟨r47,g0,h0⟩:=ae h0
            simp(config:=cS)only[go_sem, *]
            refine am (jb g0) ?_
            exact run
           ·exact run
 ·exact run⟩
instance k108 {s:ag}:Ctr (eU s) (fun (res:Bool)=>aj prog 108 [.agg [.lit (.int .i64 s.events),.sl (ab GLink.enc s.links)]] [] (.lit (.bool res)) []):=⟨by
 intro res h0
 refine co (hi:=hi00) func108 rfl rfl ?_
 unfold eU at h0
 obtain⟨r01,g0,h0⟩:=ae h0
 simp(config:=cS)only[go_sem, *]
 have g0:=ctr g0
 refine am g0 ?_
 obtain⟨_,h0⟩|⟨_,h0⟩:=itB h0
 ·obtain⟨r02,g0,h0⟩:=ae h0
  simp(config:=cS)only[go_sem, *]
  have g0:=ctr g0
  refine am g0 ?_
  obtain⟨r03,g0,h0⟩:=ae h0
  simp(config:=cS)only[go_sem, *]
  have g0:=ctr g0
  refine am g0 ?_
  obtain⟨l1004,_,h0⟩|⟨_,h0⟩:=Ea h0
  ·exact run
  ·exact run
 ·exact run⟩
instance k37 {s:GShow} {v1:GChoice}:Ctr (gV s v1) (fun (res:Bool)=>aj prog 37 [.agg (GShow.encS s),.agg [.sl (ab eI v1.lengths),.sl (ab eI v1.values)]] [] (.lit (.bool res)) []):=⟨by
 intro res h0
 refine co (hi:=hi00) func37 rfl rfl ?_
 unfold gV at h0
 exact run⟩
end Go.Proofs.Qg
