/- Functions. -/
import Derived.Test.YtpodkllkinpfmaaGreatDoorXhFK0
set_option linter.all false
set_option maxRecDepth 100000
set_option maxHeartbeats 4000000
namespace Go.Proofs.Qh
open Go Tryz
@[go_sem] def qz (v0:List GNode)(f_v1:Nat)(k_v1:List AV)(v7 v8:Int):St:=⟨[(0,.sl (ab GNode.encS v0)),(1,.fn f_v1 k_v1),(7,.lit (.int .i64 v7)),(8,.lit (.int .i64 v8))],[],2⟩
attribute[go_sem] ntmps193 results193 ntmps194 results194 ntmps88 results88 ntmps93 results93 ntmps195 results195 ntmps311 results311 ntmps270 results270 ntmps191 results191 ntmps86 results86 ntmps188 results188 ntmps83 results83 ntmps112 results112 ntmps87 results87 ntmps110 results110 ntmps91 results91 ntmps272 results272 ntmps254 results254 ntmps177 results177 ntmps255 results255 ntmps172 results172 ntmps81 results81 ntmps261 results261 ntmps175 results175 ntmps344 results344 ntmps309 results309 ntmps265 results265 ntmps310 results310 ntmps258 results258 ntmps313 results313 ntmps275 results275 ntmps108 results108 ntmps260 results260 ntmps264 results264 ntmps263 results263 ntmps70 results70 ntmps185 results185 ntmps186 results186 ntmps82 results82 ntmps23 results23 ntmps29 results29 ntmps308 results308 ntmps256 results256 ntmps212 results212 ntmps109 results109 ntmps127 results127 ntmps257 results257 ntmps173 results173 ntmps225 results225 ntmps129 results129 ntmps128 results128 ntmps293 results293 ntmps142 results142 ntmps229 results229 ntmps289 results289 ntmps228 results228 ntmps330 results330 ntmps291 results291 ntmps356 results356 ntmps326 results326 ntmps230 results230 ntmps94 results94 ntmps141 results141 ntmps292 results292 ntmps231 results231 ntmps278 results278 ntmps134 results134 ntmps136 results136 ntmps90 results90 ntmps252 results252 ntmps113 results113
theorem tH {v0:List GNode}{v1:GNode→Option Bool}{f_v1:Nat}{k_v1:List AV}(hp_v1:∀ y0 r,v1 y0=some r→aj prog f_v1 ([.agg (GNode.encS y0)]++k_v1) [] (.lit (.bool r)) [])(hc_v1:KC k_v1)(hm_v1:∀ a,mdT f_v1 a=⟨[],false⟩)(hk_v1:spf f_v1=false){res:Int}(h:ez v0 v1=some res):aj prog 193 [.sl (ab GNode.encS v0),.fn f_v1 k_v1] [] (.lit (.int .i64 res)) []:=by
 refine co (hi:=hi00) func193 rfl rfl ?_
 unfold ez at h
 obtain⟨q03,l1,h⟩:=ae h
 simp(config:=cS)only[go_sem,hc_v1.1,hc_v1.2,hm_v1,hk_v1]
 refine ag (m1:=.mk) (m2:=.mk) [.nf [0,1,7,8] []] (qz v0 f_v1 k_v1 (v0.length:Int)) l1 ?_ ?_
 ·simp(config:=cS)only[go_sem,hc_v1.1,hc_v1.2,hm_v1,hk_v1]
 intro nb2 v8_1 bb2 b2 gb2
 unfold ck at b2
 try dsimp only at b2
 obtain⟨h3,b2⟩|⟨h3,b2⟩:=aT b2
 ·obtain⟨x01,g4,b2⟩:=ae b2
  obtain⟨h5,h6,h7⟩:=eO g4
  obtain⟨r02,g8,b2⟩:=ae b2
  simp(config:=cS)only[go_sem,hc_v1.1,hc_v1.2,hm_v1,hk_v1,eqT h3,h5,h6,h7]
  refine ai (hp_v1 _ _ g8) ?_
  obtain⟨h9,b2⟩|⟨h9,b2⟩:=aT b2
  ·cases b2
   obtain rfl:=(aE gb2).symm
   try dsimp only at h
   cases h
   simp(config:=cS)only[go_sem,hc_v1.1,hc_v1.2,hm_v1,hk_v1,eqT h3,h5,h6,h7,eZt h9]
  cases b2
  simp(config:=cS)only[go_sem,hc_v1.1,hc_v1.2,hm_v1,hk_v1,eqT h3,h5,h6,h7,eZf h9]
  refine fz gb2 ?_
  simp(config:=cS)only[go_sem,hc_v1.1,hc_v1.2,hm_v1,hk_v1,eqT h3,h5,h6,h7,eZf h9]
 cases b2
 obtain rfl:=(aE gb2).symm
 try dsimp only at h
 cases h
 simp(config:=cS)only[go_sem,hc_v1.1,hc_v1.2,hm_v1,hk_v1,eqF h3]
instance k194 {n:GNode} {p:Int}:Ctr (mi n p) (fun (res:Bool)=>aj prog 194 [.agg (GNode.encS n),.loc [.lit (.int .i64 p)]] [] (.lit (.bool res)) []):=⟨by
 intro res h0
 refine co (hi:=hi00) func194 rfl rfl ?_
 unfold mi at h0
 exact run⟩
instance k88 {s:GShow} {p:Int}:Ctr (bW s p) (fun (res:Int)=>aj prog 88 [.agg (GShow.encS s),.lit (.int .i64 p)] [] (.lit (.int .i64 res)) []):=⟨by
 intro res h0
 refine co (hi:=hi00) func88 rfl rfl ?_
 unfold bW at h0
 obtain⟨r01,g0,h0⟩:=ae h0
 simp(config:=cS)only[go_sem, *]
 refine ai (tH (by exact fun _ _ hr=>by have q:=ctr hr;exact q) (by refine⟨fun _=>?_,fun _=>?_⟩ <;> simp only[go_sem]) (fun _=>rfl) rfl g0) ?_
 exact run⟩
@[go_sem] def tf (v0:List Int)(v1 v7 v8:Int):St:=⟨[(0,.sl (ab eI v0)),(1,.lit (.int .i64 v1)),(7,.lit (.int .i64 v7)),(8,.lit (.int .i64 v8))],[],2⟩
instance k93 {v0:List Int} {v1:Int}:Ctr (fL v0 v1) (fun (res:Int)=>aj prog 93 [.sl (ab eI v0),.lit (.int .i64 v1)] [] (.lit (.int .i64 res)) []):=⟨by
 intro res h0
 refine co (hi:=hi00) func93 rfl rfl ?_
 unfold fL at h0
 obtain⟨q02,l0,h0⟩:=ae h0
 simp(config:=cS)only[go_sem, *]
 refine ag (m1:=.mk) (m2:=.mk) [.nf [0,1,7,8] []] (tf v0 v1 (v0.length:Int)) l0 ?_ ?_
 ·simp(config:=cS)only[go_sem, *]
 have k0:=h0
 clear h0 l0
 intro _ v8_1 _ h0 gb0
 unfold dK at h0
 try dsimp only at h0
 exact run⟩
instance k195 {v0:List Int} {v1:Int}:Ctr (bn v0 v1) (fun (res:Bool)=>aj prog 195 [.sl (ab eI v0),.lit (.int .i64 v1)] [] (.lit (.bool res)) []):=⟨by
 intro res h0
 refine co (hi:=hi00) func195 rfl rfl ?_
 unfold bn at h0
 exact run⟩
instance k311 {v0:Int} {a:List Int}:Ctr (iM v0 a) (fun (res:Bool)=>aj prog 311 [.lit (.int .i64 v0),.loc [.sl (ab eI a)]] [] (.lit (.bool res)) []):=⟨by
 intro res h0
 refine co (hi:=hi00) func311 rfl rfl ?_
 unfold iM at h0
 exact run⟩
instance k270 {a:List Int} {b:List Int}:Ctr (hY a b) (fun (res:Bool)=>aj prog 270 [.sl (ab eI a),.sl (ab eI b)] [] (.lit (.bool res)) []):=⟨by
 intro res h0
 refine co (hi:=hi00) func270 rfl rfl ?_
 unfold hY at h0
 obtain⟨r01,g0,h0⟩:=ae h0
 simp(config:=cS)only[go_sem, *]
 have g0:=ctr g0
 refine ai g0 ?_
 obtain⟨_,h0⟩|⟨_,h0⟩:=itB h0
 ·obtain⟨r02,g0,h0⟩:=ae h0
  simp(config:=cS)only[go_sem, *]
  have g0:=ctr g0
  refine ai g0 ?_
  obtain⟨_,h0⟩|⟨_,h0⟩:=itB h0
  ·obtain⟨r03,g0,h0⟩:=ae h0
   simp(config:=cS)only[go_sem, *]
   refine ai (kf (by exact fun _ _ hr=>by have q:=ctr hr;exact q) (by refine⟨fun _=>?_,fun _=>?_⟩ <;> simp only[go_sem]) (fun _=>rfl) rfl g0) ?_
   exact run
  exact run
 exact run⟩
@[go_sem] def hi192_1:DT:=.i1 0 (.i2 1 (.i0 2 [0] (.i2 3 (.i2 4 .nil))))
def IQ:Hint where
 acts:=fun _=>[]
 draws:=fun
  | 1=>⟨hi192_1,[[],[],[1],[0,1,2],[0,1,2,3]],.range 5⟩
  | _=>⟨.nil,[],[]⟩
theorem VO (i:Nat):IQ.acts i=[]:=rfl
theorem VP (i:Nat):IQ.views i=none:=rfl
attribute[go_sem] VO VP ntmps192 results192
@[go_sem] theorem ZN:(IQ.draws 1).order=hi192_1:=rfl
instance k192 {s:GShow} {label:List Int} {v2:Int}:Ctr (kL s label v2) (fun (res:Bool)=>aj prog 192 [.agg (GShow.encS s),.sl (ab eI label),.lit (.int .i64 v2)] [] (.lit (.bool res)) []):=⟨by
 intro res h0
 refine co (hi:=IQ) func192 rfl rfl ?_
 unfold kL at h0
 exact run⟩
instance k191 {v0:Int} {s:GShow} {n:GNode}:Ctr (kM v0 s n) (fun (res:Bool)=>aj prog 191 [.lit (.int .i64 v0),.loc [.sl (ab GNode.encS s.nodes),.sl (ab GTie.enc s.ties),.lit (.int .i64 s.horizon)],.loc [.lit (.string n.name),.sl (ab eI n.label),.lit (.int .i64 n.watch)]] [] (.lit (.bool res)) []):=⟨by
 intro res h0
 refine co (hi:=hi00) func191 rfl rfl ?_
 unfold kM at h0
 exact run⟩
@[go_sem] def xx (v24:List GNode)(v25:Int)(s_1:List GTie)(s_2 v26:Int):St:=⟨[(1,.ptr 64 1 0 0),(24,.sl (ab GNode.encS v24)),(25,.lit (.int .i64 v25)),(26,.lit (.int .i64 v26))],[(64,1,.var [.sl (ab GNode.encS v24),.sl (ab GTie.enc s_1),.lit (.int .i64 s_2)])],2⟩
instance k86 {s:GShow}:Ctr (cJ s) (fun (res:Bool)=>aj prog 86 [.agg (GShow.encS s)] [] (.lit (.bool res)) []):=⟨by
 intro res h0
 refine co (hi:=hi00) func86 rfl rfl ?_
 unfold cJ at h0
 obtain⟨r01,g0,h0⟩:=ae h0
 simp(config:=cS)only[go_sem, *]
 have g0:=ctr g0
 refine ai g0 ?_
 obtain⟨_,h0⟩|⟨_,h0⟩:=itB h0
 ·obtain⟨r02,g0,h0⟩:=ae h0
  simp(config:=cS)only[go_sem, *]
  have g0:=ctr g0
  refine ai g0 ?_
  obtain⟨_,h0⟩|⟨_,h0⟩:=itB h0
  ·obtain⟨_,h0⟩|⟨_,h0⟩:=itP h0
   ·exact run
   obtain⟨_,h0⟩|⟨_,h0⟩:=itP h0
   ·exact run
   obtain⟨q05,l0,h0⟩:=ae h0
   simp(config:=cS)only[go_sem, *]
   refine ag (m1:=.mk) (m2:=.mk) [.nf [1,24,25,26] [64]] (xx s.nodes (s.nodes.length:Int) s.ties s.horizon) l0 ?_ ?_
   ·simp(config:=cS)only[go_sem, *]
   have k0:=h0
   clear h0 l0
   intro _ v26_1 _ h0 gb0
   unfold iA at h0
   try dsimp only at h0
   obtain⟨_,h0⟩|⟨_,h0⟩:=itP h0
   ·obtain⟨x03,_,_,_,h0⟩:=gtI h0
    obtain⟨r04,g0,h0⟩:=ae h0
    simp(config:=cS)only[go_sem, *]
    refine ai (kf (by exact fun _ _ hr=>by have q:=ctr hr;exact q) (by refine⟨fun _=>?_,fun _=>?_⟩ <;> simp only[go_sem]) (fun _=>rfl) rfl g0) ?_
    exact run
   exact run
  exact run
 exact run⟩
instance k188 {t:GTie} {node:Int}:Ctr (mj t node) (fun (res:Bool)=>aj prog 188 [.agg (GTie.enc t),.loc [.lit (.int .i64 node)]] [] (.lit (.bool res)) []):=⟨by
 intro res h0
 refine co (hi:=hi00) func188 rfl rfl ?_
 unfold mj at h0
 exact run⟩
instance k83 {s:GShow} {node:Int}:Ctr (fO s node) (fun (res:Int)=>aj prog 83 [.agg (GShow.encS s),.lit (.int .i64 node)] [] (.lit (.int .i64 res)) []):=⟨by
 intro res h0
 refine co (hi:=hi00) func83 rfl rfl ?_
 unfold fO at h0
 obtain⟨r01,g0,h0⟩:=ae h0
 simp(config:=cS)only[go_sem, *]
 refine ai (ph (by exact fun _ _ hr=>by have q:=ctr hr;exact q) (by refine⟨fun _=>?_,fun _=>?_⟩ <;> simp only[go_sem]) (fun _=>rfl) rfl g0) ?_
 exact run⟩
@[go_sem] def xy (s_0:List GNode)(s_1:List GTie)(s_2:Int):(Int × (List Int))→St
 | (i,out)=>⟨[(1,.ptr 64 1 0 0),(3,.ref 255 1 0 out.length),(4,.lit (.int .i64 i))],[(64,1,.var [.sl (ab GNode.encS s_0),.sl (ab GTie.enc s_1),.lit (.int .i64 s_2)]),(255,1,.row true (ab eI out))],2⟩
instance k112 {s:GShow}:Ctr (lw s) (fun (res:List Int)=>aj prog 112 [.agg (GShow.encS s)] [] (.ref 20000 1 0 res.length) [(20000,1,.row true (ab eI res))]):=⟨by
 intro res h0
 refine aB (ra:=[.home 2]) (md:=mdT) hT (hi:=hi00) func112 rfl rfl (by decide +kernel) (by simp) ?_
 unfold lw at h0
 obtain⟨q02,l0,h0⟩:=ae h0
 simp(config:=cS)only[go_sem, *]
 refine ag (m1:=.mk) (m2:=.mk) [.home 3,.nf [1,3,4] [64,255]] (xy s.nodes s.ties s.horizon) l0 ?_ ?_
 ·simp(config:=cS)only[go_sem, *]
 have k0:=h0
 clear h0 l0
 intro _ s0 _ h0 gb0
 obtain⟨i_1,out_1⟩:=s0
 unfold kR at h0
 try dsimp only at h0
 exact run⟩
@[go_sem] def vj (v7:List GTie)(v8:Int):(Int × (List Int))→St
 | (v9,out)=>⟨[(3,.ref 255 1 0 out.length),(7,.sl (ab GTie.enc v7)),(8,.lit (.int .i64 v8)),(9,.lit (.int .i64 v9))],[(255,1,.row true (ab eI out))],2⟩
instance k87 {s:GShow}:Ctr (dA s) (fun (res:List Int)=>aj prog 87 [.agg (GShow.encS s)] [] (.ref 20000 1 0 res.length) [(20000,1,.row true (ab eI res))]):=⟨by
 intro res h0
 refine aB (ra:=[.home 2]) (md:=mdT) hT (hi:=hi00) func87 rfl rfl (by decide +kernel) (by simp) ?_
 unfold dA at h0
 obtain⟨q02,l0,h0⟩:=ae h0
 simp(config:=cS)only[go_sem, *]
 refine ag (m1:=.mk) (m2:=.mk) [.home 3,.nf [3,7,8,9] [255]] (vj s.ties (s.ties.length:Int)) l0 ?_ ?_
 ·simp(config:=cS)only[go_sem, *]
 have k0:=h0
 clear h0 l0
 intro _ s0 _ h0 gb0
 obtain⟨v9_1,out_1⟩:=s0
 unfold ja at h0
 try dsimp only at h0
 exact run⟩
@[go_sem] def sr (v12:Int)(s_0:List GNode)(s_1:List GTie)(s_2:Int)(v11:List Int):(Int × Int)→St
 | (n,v13)=>⟨[(1,.ptr 64 1 0 0),(3,.lit (.int .i64 n)),(11,.ref 704 1 0 v11.length),(12,.lit (.int .i64 v12)),(13,.lit (.int .i64 v13))],[(64,1,.var [.sl (ab GNode.encS s_0),.sl (ab GTie.enc s_1),.lit (.int .i64 s_2)]),(704,1,.row true (ab eI v11))],2⟩
@[go_sem] def su (s_0:List GNode)(s_1:List GTie)(s_2:Int):(Int × Int)→St
 | (n,p)=>⟨[(1,.ptr 64 1 0 0),(3,.lit (.int .i64 n)),(6,.lit (.int .i64 p))],[(64,1,.var [.sl (ab GNode.encS s_0),.sl (ab GTie.enc s_1),.lit (.int .i64 s_2)])],2⟩
@[go_sem] def hi25_7:DT:=.r2 0 17 .nil
def hi25:Hint where
 acts:=fun _=>[]
 draws:=fun
  | 7=>⟨hi25_7,[[],[],[1],[],[1,2,3],[1,2,3,4],[1,2,3,4,5],[],[7],[],[7,8,9],[7,8,9,10],[7,8,9,10,11],[1,2,3,4,5,6,7,8,9,10,11,12],[1,2,3,4,5,6,7,8,9,10,11,12,13],.range 15,.range 16],.range 17⟩
  | _=>⟨.nil,[],[]⟩
theorem XH (i:Nat):hi25.acts i=[]:=rfl
theorem XI (i:Nat):hi25.views i=none:=rfl
attribute[go_sem] XH XI ntmps25 results25
@[go_sem] theorem aaC:(hi25.draws 7).order=hi25_7:=rfl
instance k25 {s:GShow}:Ctr (eZ s) (fun (res:Int)=>aj prog 25 [.agg (GShow.encS s)] [] (.lit (.int .i64 res)) []):=⟨by
 intro res h0
 refine co (hi:=hi25) func25 rfl rfl ?_
 unfold eZ at h0
 obtain⟨r01,g0,h0⟩:=ae h0
 simp(config:=cS)only[go_sem, *]
 have g0:=ctr g0
 refine ai g0 ?_
 obtain⟨_,h0⟩|⟨_,h0⟩:=itB h0
 ·obtain⟨r02,g0,h0⟩:=ae h0
  simp(config:=cS)only[go_sem, *]
  have g0:=ctr g0
  refine ai g0 ?_
  obtain⟨q07,l0,h0⟩:=ae h0
  simp(config:=cS)only[go_sem, *]
  refine ag (m1:=.mk) (m2:=.mk) [.nf [1,3,11,12,13] [64,704]] (sr (r02.length:Int) s.nodes s.ties s.horizon r02) l0 ?_ ?_
  ·simp(config:=cS)only[go_sem, *]
  have k0:=h0
  clear h0 l0
  intro _ s0 _ h0 gb0
  obtain⟨n_1,v13_1⟩:=s0
  unfold mf at h0
  try dsimp only at h0
  obtain⟨_,h0⟩|⟨_,h0⟩:=itP h0
  ·exact run
  cases h0
  obtain rfl:=(aE gb0).symm
  clear gb0
  have h0:=k0
  clear k0
  try dsimp only at h0
  obtain⟨q06,l0,h0⟩:=ae h0
  simp(config:=cS)only[go_sem, *]
  refine ag (m1:=.mk) (m2:=.mk) [.nf [1,3,6] [64]] (su s.nodes s.ties s.horizon) l0 ?_ ?_
  ·simp(config:=cS)only[go_sem, *]
  have k0:=h0
  clear h0 l0
  intro _ s0 _ h0 gb0
  obtain⟨n_2,p_2⟩:=s0
  unfold fc at h0
  try dsimp only at h0
  exact run
 exact run⟩
instance k110 {n:Int}:Ctr (di n) (fun (res:ByteArray)=>aj prog 110 [.lit (.int .i64 n)] [] (.lit (.string res)) []):=⟨by
 intro res h0
 refine co (hi:=hi00) func110 rfl rfl ?_
 unfold di at h0
 obtain⟨r01,g0,h0⟩:=ae h0
 simp(config:=cS)only[go_sem, *]
 refine ai (GR g0) ?_
 exact run⟩
@[go_sem] def wi (s_0:List GNode)(s_1:List GTie)(s_2:Int):(Int × (List Int))→St
 | (node,chain)=>⟨[(1,.lit (.int .i64 node)),(2,.ptr 128 1 0 0),(6,.ref 447 1 0 chain.length)],[(128,1,.var [.sl (ab GNode.encS s_0),.sl (ab GTie.enc s_1),.lit (.int .i64 s_2)]),(447,1,.row true (ab eI chain))],2⟩
@[go_sem] def hi92_7:DT:=.i2 0 (.i2 1 (.i1 4 (.i1 5 (.i2 6 (.i1 7 (.i1 8 (.i1 9 (.i0 2 [4,5,7,8,9] (.i0 3 [4,5,7,8,9] (.i2 10 (.i2 11 .nil)))))))))))
def hi92:Hint where
 acts:=fun _=>[]
 draws:=fun
  | 7=>⟨hi92_7,[[],[],[1],[0,1,2],[],[4],[],[4,5,6],[4,5,6,7],[4,5,6,7,8],[0,1,2,3],.range 11],[0,1,2,3,5,6,7,8,9,10,4,11]⟩
  | _=>⟨.nil,[],[]⟩
theorem XJ (i:Nat):hi92.acts i=[]:=rfl
theorem XK (i:Nat):hi92.views i=none:=rfl
attribute[go_sem] XJ XK ntmps92 results92
@[go_sem] theorem aaD:(hi92.draws 7).order=hi92_7:=rfl
instance k92 {s:GShow} {node:Int}:Ctr (bD s node) (fun (res:Int × (List Int))=>aj prog 92 [.agg (GShow.encS s),.lit (.int .i64 node)] [] (.tup [.lit (.int .i64 res.1),.ref 20000 1 0 res.2.length]) [(20000,1,.row true (ab eI res.2))]):=⟨by
 intro res h0
 refine aB (ra:=[.home 5]) (md:=mdT) hT (hi:=hi92) func92 rfl rfl (by decide +kernel) (by simp) ?_
 unfold bD at h0
 obtain⟨q04,l0,h0⟩:=ae h0
 simp(config:=cS)only[go_sem, *]
 refine ag (m1:=.mk) (m2:=.mk) [.home 6,.nf [1,2,6] [128,447]] (wi s.nodes s.ties s.horizon) l0 ?_ ?_
 ·simp(config:=cS)only[go_sem, *]
 have k0:=h0
 clear h0 l0
 intro _ s0 _ h0 gb0
 obtain⟨node_1,chain_1⟩:=s0
 unfold cf at h0
 try dsimp only at h0
 exact run⟩
@[go_sem] def wj (v11:List GNode)(v12:Int)(s_1:List GTie)(s_2 v13:Int):St:=⟨[(1,.ptr 64 1 0 0),(11,.sl (ab GNode.encS v11)),(12,.lit (.int .i64 v12)),(13,.lit (.int .i64 v13))],[(64,1,.var [.sl (ab GNode.encS v11),.sl (ab GTie.enc s_1),.lit (.int .i64 s_2)])],2⟩
instance k91 {s:GShow}:Ctr (mF s) (fun (res:Bool)=>aj prog 91 [.agg (GShow.encS s)] [] (.lit (.bool res)) []):=⟨by
 intro res h0
 refine co (hi:=hi00) func91 rfl rfl ?_
 unfold mF at h0
 obtain⟨r01,g0,h0⟩:=ae h0
 simp(config:=cS)only[go_sem, *]
 have g0:=ctr g0
 refine ai g0 ?_
 obtain⟨_,h0⟩|⟨_,h0⟩:=itB h0
 ·obtain⟨q04,l0,h0⟩:=ae h0
  simp(config:=cS)only[go_sem, *]
  refine ag (m1:=.mk) (m2:=.mk) [.nf [1,11,12,13] [64]] (wj s.nodes (s.nodes.length:Int) s.ties s.horizon) l0 ?_ ?_
  ·simp(config:=cS)only[go_sem, *]
  have k0:=h0
  clear h0 l0
  intro _ v13_1 _ h0 gb0
  unfold gP at h0
  try dsimp only at h0
  exact run
 exact run⟩
@[go_sem] def wk (but v12:List Int)(v13:Int)(s_0:List GNode)(s_1:List GTie)(s_2:Int):(Int × Int × Int)→St
 | (low,high,v14)=>⟨[(2,.sl (ab eI but)),(3,.ptr 192 1 0 0),(8,.lit (.int .i64 low)),(9,.lit (.int .i64 high)),(12,.sl (ab eI v12)),(13,.lit (.int .i64 v13)),(14,.lit (.int .i64 v14))],[(192,1,.var [.sl (ab GNode.encS s_0),.sl (ab GTie.enc s_1),.lit (.int .i64 s_2)])],2⟩
@[go_sem] def hi184_6:DT:=.r2 0 18 .nil
def IR:Hint where
 acts:=fun _=>[]
 draws:=fun
  | 6=>⟨hi184_6,[[],[],[1],[],[1,2,3],[1,2,3,4],[1,2,3,4,5],.range 7,[],[],[9],[],[9,10,11],[9,10,11,12],[9,10,11,12,13],[8,9,10,11,12,13,14],.range 8,.range 17],[0,1,2,3,4,5,6,7,9,10,11,12,13,14,15,16,8,17]⟩
  | _=>⟨.nil,[],[]⟩
theorem VQ (i:Nat):IR.acts i=[]:=rfl
theorem VR (i:Nat):IR.views i=none:=rfl
attribute[go_sem] VQ VR ntmps184 results184
@[go_sem] theorem ZO:(IR.draws 6).order=hi184_6:=rfl
instance k184 {s:GShow} {ties:List Int} {but:List Int}:Ctr (iD s ties but) (fun (res:Int × Int)=>aj prog 184 [.agg (GShow.encS s),.sl (ab eI ties),.sl (ab eI but)] [] (.tup [.lit (.int .i64 res.1),.lit (.int .i64 res.2)]) []):=⟨by
 intro res h0
 refine co (hi:=IR) func184 rfl rfl ?_
 unfold iD at h0
 obtain⟨q04,l0,h0⟩:=ae h0
 simp(config:=cS)only[go_sem, *]
 refine ag (m1:=.mk) (m2:=.mk) [.nf [2,3,8,9,12,13,14] [192]] (wk but ties (ties.length:Int) s.nodes s.ties s.horizon) l0 ?_ ?_
 ·simp(config:=cS)only[go_sem, *]
 have k0:=h0
 clear h0 l0
 intro _ s0 _ h0 gb0
 obtain⟨low_1,high_1,v14_1⟩:=s0
 unfold gQ at h0
 try dsimp only at h0
 exact run⟩
@[go_sem] def qA (v0:List GLink)(f_v1:Nat)(k_v1:List AV)(v7 v8:Int):St:=⟨[(0,.sl (ab GLink.enc v0)),(1,.fn f_v1 k_v1),(7,.lit (.int .i64 v7)),(8,.lit (.int .i64 v8))],[],2⟩
theorem tI {v0:List GLink}{v1:GLink→Option Bool}{f_v1:Nat}{k_v1:List AV}(hp_v1:∀ y0 r,v1 y0=some r→aj prog f_v1 ([.agg (GLink.enc y0)]++k_v1) [] (.lit (.bool r)) [])(hc_v1:KC k_v1)(hm_v1:∀ a,mdT f_v1 a=⟨[],false⟩)(hk_v1:spf f_v1=false){res:Int}(h:eA v0 v1=some res):aj prog 272 [.sl (ab GLink.enc v0),.fn f_v1 k_v1] [] (.lit (.int .i64 res)) []:=by
 refine co (hi:=hi00) func272 rfl rfl ?_
 unfold eA at h
 obtain⟨q03,l1,h⟩:=ae h
 simp(config:=cS)only[go_sem,hc_v1.1,hc_v1.2,hm_v1,hk_v1]
 refine ag (m1:=.mk) (m2:=.mk) [.nf [0,1,7,8] []] (qA v0 f_v1 k_v1 (v0.length:Int)) l1 ?_ ?_
 ·simp(config:=cS)only[go_sem,hc_v1.1,hc_v1.2,hm_v1,hk_v1]
 intro nb2 v8_1 bb2 b2 gb2
 unfold cm at b2
 try dsimp only at b2
 obtain⟨h3,b2⟩|⟨h3,b2⟩:=aT b2
 ·obtain⟨x01,g4,b2⟩:=ae b2
  obtain⟨h5,h6,h7⟩:=eO g4
  obtain⟨r02,g8,b2⟩:=ae b2
  simp(config:=cS)only[go_sem,hc_v1.1,hc_v1.2,hm_v1,hk_v1,eqT h3,h5,h6,h7]
  refine ai (hp_v1 _ _ g8) ?_
  obtain⟨h9,b2⟩|⟨h9,b2⟩:=aT b2
  ·cases b2
   obtain rfl:=(aE gb2).symm
   try dsimp only at h
   cases h
   simp(config:=cS)only[go_sem,hc_v1.1,hc_v1.2,hm_v1,hk_v1,eqT h3,h5,h6,h7,eZt h9]
  cases b2
  simp(config:=cS)only[go_sem,hc_v1.1,hc_v1.2,hm_v1,hk_v1,eqT h3,h5,h6,h7,eZf h9]
  refine fz gb2 ?_
  simp(config:=cS)only[go_sem,hc_v1.1,hc_v1.2,hm_v1,hk_v1,eqT h3,h5,h6,h7,eZf h9]
 cases b2
 obtain rfl:=(aE gb2).symm
 try dsimp only at h
 cases h
 simp(config:=cS)only[go_sem,hc_v1.1,hc_v1.2,hm_v1,hk_v1,eqF h3]
theorem rP {v0:List GLink}{v1:GLink→Option Bool}{f_v1:Nat}{k_v1:List AV}(hp_v1:∀ y0 r,v1 y0=some r→aj prog f_v1 ([.agg (GLink.enc y0)]++k_v1) [] (.lit (.bool r)) [])(hc_v1:KC k_v1)(hm_v1:∀ a,mdT f_v1 a=⟨[],false⟩)(hk_v1:spf f_v1=false){res:Bool}(h:dl v0 v1=some res):aj prog 254 [.sl (ab GLink.enc v0),.fn f_v1 k_v1] [] (.lit (.bool res)) []:=by
 refine co (hi:=hi00) func254 rfl rfl ?_
 unfold dl at h
 obtain⟨r01,g1,h⟩:=ae h
 simp(config:=cS)only[go_sem,hc_v1.1,hc_v1.2,hm_v1,hk_v1]
 refine ai (tI hp_v1 hc_v1 hm_v1 hk_v1 g1) ?_
 cases h
 simp(config:=cS)only[go_sem,hc_v1.1,hc_v1.2,hm_v1,hk_v1]
instance k177 {i:al}:Ctr (gM i) (fun (res:Bool)=>aj prog 177 [.agg [.lit (.int .i64 i.low),.lit (.int .i64 i.high)]] [] (.lit (.bool res)) []):=⟨by
 intro res h0
 refine co (hi:=hi00) func177 rfl rfl ?_
 unfold gM at h0
 exact run⟩
instance k255 {l:GLink} {s:GSimple}:Ctr (jb l s) (fun (res:Bool)=>aj prog 255 [.agg (GLink.enc l),.loc [.lit (.int .i64 s.events),.sl (ab GLink.enc s.links)]] [] (.lit (.bool res)) []):=⟨by
 intro res h0
 refine co (hi:=hi00) func255 rfl rfl ?_
 unfold jb at h0
 exact run⟩
instance k172 {s:GSimple}:Ctr (dB s) (fun (res:Bool)=>aj prog 172 [.agg [.lit (.int .i64 s.events),.sl (ab GLink.enc s.links)]] [] (.lit (.bool res)) []):=⟨by
 intro res h0
 refine co (hi:=hi00) func172 rfl rfl ?_
 unfold dB at h0
 obtain⟨_,h0⟩|⟨_,h0⟩:=itP h0
 ·exact run
 obtain⟨_,h0⟩|⟨_,h0⟩:=itP h0
 ·exact run
 obtain⟨_,h0⟩|⟨_,h0⟩:=itP h0
 ·exact run
 obtain⟨r01,g0,h0⟩:=ae h0
 simp(config:=cS)only[go_sem, *]
 refine ai (rP (by exact fun _ _ hr=>by have q:=ctr hr;exact q) (by refine⟨fun _=>?_,fun _=>?_⟩ <;> simp only[go_sem]) (fun _=>rfl) rfl g0) ?_
 exact run⟩
@[go_sem] def rQ (v31:Int)(s_0:List GNode)(s_1:List GTie)(s_2:Int):(Int × (List GLink))→St
 | (v32,h100016385)=>⟨[(1,.ptr 64 1 0 0),(2,.ptr 128 1 0 0),(4,.ptr 256 1 0 0),(31,.lit (.int .i64 v31)),(32,.lit (.int .i64 v32))],[(64,1,.var [.sl (ab GNode.encS s_0),.sl (ab GTie.enc s_1),.lit (.int .i64 s_2)]),(128,1,.var [.lit (.int .i64 0),.lit (.slice none 0 0)]),(256,1,.var [.lit (.int .i64 v31),.ref 100016385 1 0 h100016385.length]),(100016385,1,.row true (ab GLink.enc h100016385))],2⟩
@[go_sem] def rR (v63:List GTie)(v64:Int)(s_0:List GNode)(s_2 out_0:Int):(Int × (List GLink))→St
 | (v65,h100016385)=>⟨[(1,.ptr 64 1 0 0),(2,.ptr 128 1 0 0),(4,.ptr 256 1 0 0),(63,.sl (ab GTie.enc v63)),(64,.lit (.int .i64 v64)),(65,.lit (.int .i64 v65))],[(64,1,.var [.sl (ab GNode.encS s_0),.sl (ab GTie.enc v63),.lit (.int .i64 s_2)]),(128,1,.var [.lit (.int .i64 0),.lit (.slice none 0 0)]),(256,1,.var [.lit (.int .i64 out_0),.ref 100016385 1 0 h100016385.length]),(100016385,1,.row true (ab GLink.enc h100016385))],2⟩
@[go_sem] def rS (v123:Int)(s_0:List GNode)(s_1:List GTie)(s_2:Int):(Int × (List GLink))→St
 | (v124,h100016385)=>⟨[(1,.ptr 64 1 0 0),(2,.ptr 128 1 0 0),(4,.ptr 256 1 0 0),(123,.lit (.int .i64 v123)),(124,.lit (.int .i64 v124))],[(64,1,.var [.sl (ab GNode.encS s_0),.sl (ab GTie.enc s_1),.lit (.int .i64 s_2)]),(128,1,.var [.lit (.int .i64 0),.lit (.slice none 0 0)]),(256,1,.var [.lit (.int .i64 v123),.ref 100016385 1 0 h100016385.length]),(100016385,1,.row true (ab GLink.enc h100016385))],2⟩
instance k81 {s:GShow}:Ctr (gp s) (fun (res:GSimple × Bool)=>aj prog 81 [.agg (GShow.encS s)] [] (.tup [.agg [.lit (.int .i64 res.1.events),.ref 20000 1 0 res.1.links.length],.lit (.bool res.2)]) [(20000,1,.row true (ab GLink.enc res.1.links))]):=⟨by
 intro res h0
 refine aB (ra:=[.homeCell 128 1]) (md:=mdT) hT (hi:=hi00) func81 rfl rfl (by decide +kernel) (by simp) ?_
 unfold gp at h0
 obtain⟨r01,g0,h0⟩:=ae h0
 simp(config:=cS)only[go_sem, *]
 have g0:=ctr g0
 refine ai g0 ?_
 obtain⟨_,h0⟩|⟨_,h0⟩:=itB h0
 ·obtain⟨q13,l0,h0⟩:=ae h0
  simp(config:=cS)only[go_sem, *]
  refine ag (m1:=.mk) (m2:=.mk) [.homeCell 256 1,.nf [1,2,4,31,32] [64,128,256,100016385]] (rQ (s.nodes.length:Int) s.nodes s.ties s.horizon) l0 ?_ ?_
  ·simp(config:=cS)only[go_sem, *]
  have k0:=h0
  clear h0 l0
  intro _ s0 _ h0 gb0
  obtain⟨v32_1,h100016385_1⟩:=s0
  unfold cY at h0
  try dsimp only at h0
  obtain⟨_,h0⟩|⟨_,h0⟩:=itP h0
  ·exact run
  cases h0
  obtain rfl:=(aE gb0).symm
  clear gb0
  have h0:=k0
  clear k0
  try dsimp only at h0
  obtain⟨q12,l0,h0⟩:=ae h0
  simp(config:=cS)only[go_sem, *]
  refine ag (m1:=.mk) (m2:=.mk) [.nf [1,2,4,63,64,65] [64,128,256,100016385]] (rR s.ties (s.ties.length:Int) s.nodes s.horizon (s.nodes.length:Int)) l0 ?_ ?_
  ·simp(config:=cS)only[go_sem, *]
  have k0:=h0
  clear h0 l0
  intro _ s0 _ h0 gb0
  obtain⟨v65_2,h100016385_2⟩:=s0
  unfold cZ at h0
  try dsimp only at h0
  obtain⟨_,h0⟩|⟨_,h0⟩:=itP h0
  ·exact run
  cases h0
  obtain rfl:=(aE gb0).symm
  clear gb0
  have h0:=k0
  clear k0
  try dsimp only at h0
  obtain⟨q11,l0,h0⟩:=ae h0
  simp(config:=cS)only[go_sem, *]
  refine ag (m1:=.mk) (m2:=.mk) [.nf [1,2,4,123,124] [64,128,256,100016385]] (rS (s.nodes.length:Int) s.nodes s.ties s.horizon) l0 ?_ ?_
  ·simp(config:=cS)only[go_sem, *]
  have k0:=h0
  clear h0 l0
  intro _ s0 _ h0 gb0
  obtain⟨v124_3,h100016385_3⟩:=s0
  unfold da at h0
  try dsimp only at h0
  exact run
 exact run⟩
@[go_sem] def wm (v12:List GLink)(v13 g_0:Int):(Int × (List Int) × (List GEdge))→St
 | (v14,links,h100016385)=>⟨[(2,.ptr 128 1 0 0),(4,.ptr 256 1 0 0),(5,.ref 383 1 0 links.length),(12,.sl (ab GLink.enc v12)),(13,.lit (.int .i64 v13)),(14,.lit (.int .i64 v14))],[(128,1,.var [.lit (.int .i64 0),.lit (.slice none 0 0)]),(256,1,.var [.lit (.int .i64 g_0),.ref 100016385 1 0 h100016385.length]),(100016385,1,.row true (ab GEdge.enc h100016385)),(383,1,.row true (ab eI links))],2⟩
instance k261 {s:GSimple}:Ctr (mC s) (fun (res:GGraph × (List Int))=>aj prog 261 [.agg [.lit (.int .i64 s.events),.sl (ab GLink.enc s.links)]] [] (.tup [.agg [.lit (.int .i64 res.1.nodes),.ref 20000 1 0 res.1.edges.length],.ref 20001 1 0 res.2.length]) [(20000,1,.row true (ab GEdge.enc res.1.edges)),(20001,1,.row true (ab eI res.2))]):=⟨by
 intro res h0
 refine aB (ra:=[.homeCell 128 1,.home 3]) (md:=mdT) hT (hi:=hi00) func261 rfl rfl (by decide +kernel) (by simp) ?_
 unfold mC at h0
 obtain⟨q02,l0,h0⟩:=ae h0
 simp(config:=cS)only[go_sem, *]
 refine ag (m1:=.mk) (m2:=.mk) [.home 5,.homeCell 256 1,.nf [2,4,5,12,13,14] [128,256,100016385,383]] (wm s.links (s.links.length:Int) s.events) l0 ?_ ?_
 ·simp(config:=cS)only[go_sem, *]
 have k0:=h0
 clear h0 l0
 intro _ s0 _ h0 gb0
 obtain⟨v14_1,links_1,h100016385_1⟩:=s0
 unfold gN at h0
 try dsimp only at h0
 obtain⟨_,h0⟩|⟨_,h0⟩:=itP h0
 ·obtain⟨x01,_,_,_,h0⟩:=gtI h0
  obtain⟨_,h0⟩|⟨_,h0⟩:=itP h0
  ·exact run
  obtain⟨_,h0⟩:=ckP h0
  obtain⟨_,h0⟩:=ckP h0
  obtain⟨_,h0⟩:=ckP h0
  obtain⟨_,h0⟩:=ckP h0
  obtain⟨_,h0⟩|⟨_,h0⟩:=itP h0
  ·exact run
  obtain⟨a1,h0⟩:=ckP h0
  try simp(config:=cS)only[go_sem]at a1
  obtain⟨a2,h0⟩:=ckP h0
  try simp(config:=cS)only[go_sem]at a2
  obtain⟨a3,h0⟩:=ckP h0
  try simp(config:=cS)only[go_sem]at a3
  obtain⟨a4,h0⟩:=ckP h0
  try simp(config:=cS)only[go_sem]at a4
  exact run
 exact run⟩
instance k175 {s:GSimple}:Ctr (kx s) (fun (res:GGraph)=>aj prog 175 [.agg [.lit (.int .i64 s.events),.sl (ab GLink.enc s.links)]] [] (.agg [.lit (.int .i64 res.nodes),.ref 20000 1 0 res.edges.length]) [(20000,1,.row true (ab GEdge.enc res.edges))]):=⟨by
 intro res h0
 refine aB (ra:=[.homeCell 128 1]) (md:=mdT) hT (hi:=hi00) func175 rfl rfl (by decide +kernel) (by simp) ?_
 unfold kx at h0
 exact run⟩
@[go_sem] def qB (v0:List GEdge)(f_v1:Nat)(k_v1:List AV)(v7 v8:Int):St:=⟨[(0,.sl (ab GEdge.enc v0)),(1,.fn f_v1 k_v1),(7,.lit (.int .i64 v7)),(8,.lit (.int .i64 v8))],[],2⟩
theorem tJ {v0:List GEdge}{v1:GEdge→Option Bool}{f_v1:Nat}{k_v1:List AV}(hp_v1:∀ y0 r,v1 y0=some r→aj prog f_v1 ([.agg (GEdge.enc y0)]++k_v1) [] (.lit (.bool r)) [])(hc_v1:KC k_v1)(hm_v1:∀ a,mdT f_v1 a=⟨[],false⟩)(hk_v1:spf f_v1=false){res:Int}(h:eC v0 v1=some res):aj prog 344 [.sl (ab GEdge.enc v0),.fn f_v1 k_v1] [] (.lit (.int .i64 res)) []:=by
 refine co (hi:=hi00) func344 rfl rfl ?_
 unfold eC at h
 obtain⟨q03,l1,h⟩:=ae h
 simp(config:=cS)only[go_sem,hc_v1.1,hc_v1.2,hm_v1,hk_v1]
 refine ag (m1:=.mk) (m2:=.mk) [.nf [0,1,7,8] []] (qB v0 f_v1 k_v1 (v0.length:Int)) l1 ?_ ?_
 ·simp(config:=cS)only[go_sem,hc_v1.1,hc_v1.2,hm_v1,hk_v1]
 intro nb2 v8_1 bb2 b2 gb2
 unfold cn at b2
 try dsimp only at b2
 obtain⟨h3,b2⟩|⟨h3,b2⟩:=aT b2
 ·obtain⟨x01,g4,b2⟩:=ae b2
  obtain⟨h5,h6,h7⟩:=eO g4
  obtain⟨r02,g8,b2⟩:=ae b2
  simp(config:=cS)only[go_sem,hc_v1.1,hc_v1.2,hm_v1,hk_v1,eqT h3,h5,h6,h7]
  refine ai (hp_v1 _ _ g8) ?_
  obtain⟨h9,b2⟩|⟨h9,b2⟩:=aT b2
  ·cases b2
   obtain rfl:=(aE gb2).symm
   try dsimp only at h
   cases h
   simp(config:=cS)only[go_sem,hc_v1.1,hc_v1.2,hm_v1,hk_v1,eqT h3,h5,h6,h7,eZt h9]
  cases b2
  simp(config:=cS)only[go_sem,hc_v1.1,hc_v1.2,hm_v1,hk_v1,eqT h3,h5,h6,h7,eZf h9]
  refine fz gb2 ?_
  simp(config:=cS)only[go_sem,hc_v1.1,hc_v1.2,hm_v1,hk_v1,eqT h3,h5,h6,h7,eZf h9]
 cases b2
 obtain rfl:=(aE gb2).symm
 try dsimp only at h
 cases h
 simp(config:=cS)only[go_sem,hc_v1.1,hc_v1.2,hm_v1,hk_v1,eqF h3]
theorem rU {v0:List GEdge}{v1:GEdge→Option Bool}{f_v1:Nat}{k_v1:List AV}(hp_v1:∀ y0 r,v1 y0=some r→aj prog f_v1 ([.agg (GEdge.enc y0)]++k_v1) [] (.lit (.bool r)) [])(hc_v1:KC k_v1)(hm_v1:∀ a,mdT f_v1 a=⟨[],false⟩)(hk_v1:spf f_v1=false){res:Bool}(h:dm v0 v1=some res):aj prog 309 [.sl (ab GEdge.enc v0),.fn f_v1 k_v1] [] (.lit (.bool res)) []:=by
 refine co (hi:=hi00) func309 rfl rfl ?_
 unfold dm at h
 obtain⟨r01,g1,h⟩:=ae h
 simp(config:=cS)only[go_sem,hc_v1.1,hc_v1.2,hm_v1,hk_v1]
 refine ai (tJ hp_v1 hc_v1 hm_v1 hk_v1 g1) ?_
 cases h
 simp(config:=cS)only[go_sem,hc_v1.1,hc_v1.2,hm_v1,hk_v1]
instance k265 {n:Int}:Ctr (gj n) (fun (res:Bool)=>aj prog 265 [.lit (.int .i64 n)] [] (.lit (.bool res)) []):=⟨by
 intro res h0
 refine co (hi:=hi00) func265 rfl rfl ?_
 unfold gj at h0
 exact run⟩
instance k310 {e:GEdge} {g:GGraph}:Ctr (jM e g) (fun (res:Bool)=>aj prog 310 [.agg (GEdge.enc e),.loc [.lit (.int .i64 g.nodes),.sl (ab GEdge.enc g.edges)]] [] (.lit (.bool res)) []):=⟨by
 intro res h0
 refine co (hi:=hi00) func310 rfl rfl ?_
 unfold jM at h0
 exact run⟩
instance k258 {g:GGraph}:Ctr (iB g) (fun (res:Bool)=>aj prog 258 [.agg [.lit (.int .i64 g.nodes),.sl (ab GEdge.enc g.edges)]] [] (.lit (.bool res)) []):=⟨by
 intro res h0
 refine co (hi:=hi00) func258 rfl rfl ?_
 unfold iB at h0
 obtain⟨_,h0⟩|⟨_,h0⟩:=itP h0
 ·exact run
 obtain⟨_,h0⟩|⟨_,h0⟩:=itP h0
 ·exact run
 obtain⟨_,h0⟩|⟨_,h0⟩:=itP h0
 ·exact run
 obtain⟨r01,g0,h0⟩:=ae h0
 simp(config:=cS)only[go_sem, *]
 refine ai (rU (by exact fun _ _ hr=>by have q:=ctr hr;exact q) (by refine⟨fun _=>?_,fun _=>?_⟩ <;> simp only[go_sem]) (fun _=>rfl) rfl g0) ?_
 exact run⟩
instance k313 {v0:Int} {y:Int}:Ctr (ti v0 y) (fun (res:Int × Int)=>aj prog 313 [.lit (.int .u64 v0),.lit (.int .u64 y)] [] (.tup [.lit (.int .u64 res.1),.lit (.int .u64 res.2)]) []):=⟨by
 intro res h0
 refine co (hi:=hi00) func313 rfl rfl ?_
 unfold ti at h0
 exact run⟩
instance k275 {v0:Int} {y:Int}:Ctr (iN v0 y) (fun (res:Int × Int)=>aj prog 275 [.lit (.int .u64 v0),.lit (.int .u64 y)] [] (.tup [.lit (.int .u64 res.1),.lit (.int .u64 res.2)]) []):=⟨by
 intro res h0
 refine co (hi:=hi00) func275 rfl rfl ?_
 unfold iN at h0
 exact run⟩
@[go_sem] def sv  : (Int × (List Int))→St
 | (v8,v7)=>⟨[(7,.ref 1920 1 0 v7.length),(8,.lit (.int .i64 v8))],[(1920,1,.row true (ab eI v7))],2⟩
@[go_sem] def hi200_9:DT:=.r2 0 10 .nil
def IS:Hint where
 acts:=fun _=>[]
 draws:=fun
  | 9=>⟨hi200_9,[[],[],[],[1,2],[],[],[4,5],[1,2,3,4,5,6],.range 8,.range 9],.range 10⟩
  | _=>⟨.nil,[],[]⟩
theorem VS (i:Nat):IS.acts i=[]:=rfl
theorem VT (i:Nat):IS.views i=none:=rfl
attribute[go_sem] VS VT ntmps200 results200
@[go_sem] theorem ZP:(IS.draws 9).order=hi200_9:=rfl
instance k200 {v0:List Int} {v1:Int}:Ctr (aI v0 v1) (fun (res:List Int)=>aj prog 200 [.sl (ab eI v0),.lit (.int .i64 v1)] [] (.ref 20000 1 0 res.length) [(20000,1,.row true (ab eI res))]):=⟨by
 intro res h0
 refine aB (ra:=[.home 4]) (md:=mdT) hT (hi:=IS) func200 rfl rfl (by decide +kernel) (by simp) ?_
 unfold aI at h0
 obtain⟨_,h0⟩|⟨_,h0⟩:=itP h0
 ·exact run
 obtain⟨r01,g0,h0⟩:=ae h0
 simp(config:=cS)only[go_sem, *]
 have g0:=ctr g0
 refine ai g0 ?_
 obtain⟨_,h0⟩|⟨_,h0⟩:=itP h0
 ·exact run
 obtain⟨_,h0⟩|⟨_,h0⟩:=itP h0
 ·exact run
 obtain⟨_,h0⟩:=ckP h0
 obtain⟨_,h0⟩:=ckP h0
 obtain⟨_,h0⟩:=ckP h0
 obtain⟨q02,l0,h0⟩:=ae h0
 simp(config:=cS)only[go_sem, *]
 refine ag (m1:=.mk) (m2:=.mk) [.nf [7,8] [1920]] (sv) l0 ?_ ?_
 ·simp(config:=cS)only[go_sem, *]
 have k0:=h0
 clear h0 l0
 intro _ s0 _ h0 gb0
 obtain⟨v8_1,v7_1⟩:=s0
 unfold an at h0
 try dsimp only at h0
 exact run⟩
@[go_sem] def rV (zb0:Bool)  : (Int × Int × (List Int))→St
 | (v2,v3,v0)=>⟨[(0,.ref 10000 0 0 v0.length),(2,.lit (.int .i64 v2)),(3,.lit (.int .i64 v3))],[(10000,0,.row zb0 (ab eI v0))],2⟩
@[go_sem] def hi282_3:DT:=.r2 0 16 .nil
def IT:Hint where
 acts:=fun _=>[]
 draws:=fun
  | 3=>⟨hi282_3,[[],[],[],[],[],[],[4,5],[4,5,6],[],[],[8,9],[8,9,10],[0,1,4,5,6,7,8,9,10,11],[0,1,4,5,6,7,8,9,10,11,12],.range 14,.range 15],[0,1,12,13,2,3,4,5,6,7,8,9,10,11,14,15]⟩
  | _=>⟨.nil,[],[]⟩
theorem VU (i:Nat):IT.acts i=[]:=rfl
theorem VV (i:Nat):IT.views i=none:=rfl
attribute[go_sem] VU VV ntmps282 results282
@[go_sem] theorem ZQ:(IT.draws 3).order=hi282_3:=rfl
theorem na {v0:List Int}{zb0:Bool}{res:List Int}(h0:gk v0=some res):aj prog 282 [.ref 10000 0 0 v0.length] [(10000,0,.row zb0 (ab eI v0))] (.tup []) [(10000,0,.row zb0 (ab eI res))]:=by
 refine co (hi:=IT) func282 rfl rfl ?_
 unfold gk at h0
 obtain⟨q04,l0,h0⟩:=ae h0
 simp(config:=cS)only[go_sem, *]
 refine ag (m1:=.mk) (m2:=.mk) [.nf [0,2,3] [10000]] (rV zb0) l0 ?_ ?_
 ·simp(config:=cS)only[go_sem, *]
 have k0:=h0
 clear h0 l0
 intro _ s0 _ h0 gb0
 obtain⟨v2_1,v3_1,v0_1⟩:=s0
 unfold eD at h0
 try dsimp only at h0
 exact run
@[go_sem] def jx (round:Int)(v31:List GEdge)(v32 g_0:Int):(Int × Int × (List Int) × (List Int))→St
 | (changed,v33,numbers,last)=>⟨[(1,.ptr 64 1 0 0),(3,.ref 1216 1 0 numbers.length),(4,.ref 1472 1 0 last.length),(5,.lit (.int .i64 changed)),(6,.lit (.int .i64 round)),(31,.sl (ab GEdge.enc v31)),(32,.lit (.int .i64 v32)),(33,.lit (.int .i64 v33))],[(64,1,.var [.lit (.int .i64 g_0),.sl (ab GEdge.enc v31)]),(1216,1,.row true (ab eI numbers)),(1472,1,.row true (ab eI last))],2⟩
@[go_sem] def jy (g_0:Int)(g_1:List GEdge):(Int × Int × (List Int) × (List Int))→St
 | (changed,round,numbers,last)=>⟨[(1,.ptr 64 1 0 0),(3,.ref 1216 1 0 numbers.length),(4,.ref 1472 1 0 last.length),(5,.lit (.int .i64 changed)),(6,.lit (.int .i64 round))],[(64,1,.var [.lit (.int .i64 g_0),.sl (ab GEdge.enc g_1)]),(1216,1,.row true (ab eI numbers)),(1472,1,.row true (ab eI last))],2⟩
@[go_sem] def jz (g_0:Int)(g_1:List GEdge)(last:List Int):(Int × Int)→St
 | (node,i)=>⟨[(1,.ptr 64 1 0 0),(4,.ref 1472 1 0 last.length),(10,.lit (.int .i64 node)),(11,.lit (.int .i64 i))],[(64,1,.var [.lit (.int .i64 g_0),.sl (ab GEdge.enc g_1)]),(1472,1,.row true (ab eI last))],2⟩
@[go_sem] def jA (node g_0:Int)(g_1:List GEdge)(last:List Int):(Int × (List Int))→St
 | (at_,out)=>⟨[(1,.ptr 64 1 0 0),(4,.ref 1472 1 0 last.length),(10,.lit (.int .i64 node)),(12,.ref 831 1 0 out.length),(13,.lit (.int .i64 at_))],[(64,1,.var [.lit (.int .i64 g_0),.sl (ab GEdge.enc g_1)]),(1472,1,.row true (ab eI last)),(831,1,.row true (ab eI out))],2⟩
@[go_sem] def hi211_26:DT:=.r2 0 10 .nil
@[go_sem] def hi211_22:DT:=.r2 0 10 .nil
@[go_sem] def hi211_14:DT:=.r2 0 4 (.i1 4 (.i1 5 (.r2 6 4 (.i0 10 [4,5] (.r2 11 3 .nil)))))
@[go_sem] def hi211_12:DT:=.r2 0 9 .nil
@[go_sem] def hi211_3:DT:=.i1 0 (.i1 1 (.i1 4 (.i1 5 (.fork (.i0 2 [4,5] (.i0 3 [0,1,4,5] (.i0 6 [0,1] (.i2 7 (.i2 8 .nil))))) (.i0 3 [0,1,4,5] (.fork (.i0 2 [4,5] (.i0 6 [0,1] (.i2 7 (.i2 8 .nil)))) (.i0 6 [0,1] (.i0 2 [4,5] (.i2 7 (.i2 8 .nil))))))))))
def ub:Hint where
 acts:=fun _=>[]
 draws:=fun
  | 3=>⟨hi211_3,[[],[0],[0,1],[],[],[4],[3,4,5],.range 7,.range 8],.range 9⟩
  | 12=>⟨hi211_12,[[],[],[1],[0,1,2],[0,1,2,3],[],[5],.range 7,.range 8],.range 9⟩
  | 14=>⟨hi211_14,[[],[],[1],[],[],[4],[],[],[],[0,1,2,6],[0,1,2,6,9],[0,1,2,3,4,5,6,7,9,10],[0,1,2,3,4,5,6,7,9,10,11],.range 13],[0,1,2,6,7,8,3,9,12,4,5,10,11,13]⟩
  | 22=>⟨hi211_22,[[],[0],[],[],[2,3],[2,3,4],.range 6,.range 7,.range 8,.range 9],.range 10⟩
  | 26=>⟨hi211_26,[[],[0],[],[],[2,3],[2,3,4],.range 6,.range 7,.range 8,.range 9],.range 10⟩
  | _=>⟨.nil,[],[]⟩
theorem VW (i:Nat):ub.acts i=[]:=rfl
theorem VX (i:Nat):ub.views i=none:=rfl
attribute[go_sem] VW VX ntmps211 results211
@[go_sem] theorem ZR:(ub.draws 3).order=hi211_3:=rfl
@[go_sem] theorem Yz:(ub.draws 12).order=hi211_12:=rfl
@[go_sem] theorem YA:(ub.draws 14).order=hi211_14:=rfl
@[go_sem] theorem YB:(ub.draws 22).order=hi211_22:=rfl
@[go_sem] theorem YC:(ub.draws 26).order=hi211_26:=rfl
instance k211 {g:GGraph}:Ctr (gm g) (fun (res:Option (List Int))=>aj prog 211 [.agg [.lit (.int .i64 g.nodes),.sl (ab GEdge.enc g.edges)]] [] (match res with|none=>.lit (.slice none 0 0)|some l=>.ref 20000 1 0 l.length) (match res with|none=>[]|some l=>[(20000,1,.row true (ab eI l))])):=⟨by
 intro res h0
 refine co (hi:=ub) func211 rfl rfl ?_
 unfold gm at h0
 obtain⟨r01,g0,h0⟩:=ae h0
 simp(config:=cS)only[go_sem, *]
 have g0:=ctr g0
 refine ai g0 ?_
 obtain⟨_,h0⟩|⟨_,h0⟩:=itB h0
 ·obtain⟨_,h0⟩:=ckP h0
  obtain⟨_,h0⟩:=ckP h0
  obtain⟨_,h0⟩:=ckP h0
  try simp(config:=cS)only[go_sem, *]
  refine fy ?_ ?_
  ·obtain⟨r02,g0,h0⟩:=ae h0
   simp(config:=cS)only[go_sem, *]
   have g0:=ctr g0
   refine ai g0 ?_
   obtain⟨q18,l0,h0⟩:=ae h0
   simp(config:=cS)only[go_sem, *]
   refine ag (m1:=.mk) (m2:=.mk) [.nf [1,3,4,5,6] [64,1216,1472]] (jy g.nodes g.edges) l0 ?_ ?_
   ·simp(config:=cS)only[go_sem, *]
   have k0:=h0
   clear h0 l0
   intro _ s0 _ h0 gb0
   obtain⟨changed_1,round_1,numbers_1,last_1⟩:=s0
   unfold bI at h0
   try dsimp only at h0
   obtain⟨_,h0⟩|⟨_,h0⟩:=itP h0
   ·obtain⟨q07,l0,h0⟩:=ae h0
    simp(config:=cS)only[go_sem, *]
    refine ag (m1:=.mk) (m2:=.mk) [.nf [1,3,4,5,6,31,32,33] [64,1216,1472]] (jx round_1 g.edges (g.edges.length:Int) g.nodes) l0 ?_ ?_
    ·simp(config:=cS)only[go_sem, *]
    have k0:=h0
    clear h0 l0
    intro _ s0 _ h0 gb0
    obtain⟨changed_2,v33_2,numbers_2,last_2⟩:=s0
    unfold bH at h0
    try dsimp only at h0
    exact run
   cases h0
   obtain rfl:=(aE gb0).symm
   clear gb0
   have h0:=k0
   clear k0
   try dsimp only at h0
   obtain⟨_,h0⟩|⟨_,h0⟩:=itP h0
   ·exact run
   obtain⟨x08,_,_,_,h0⟩:=gtI h0
   obtain⟨q17,l0,h0⟩:=ae h0
   simp(config:=cS)only[go_sem, *]
   refine ag (m1:=.mk) (m2:=.mk) [.nf [1,4,10,11] [64,1472]] (jz g.nodes g.edges last_1) l0 ?_ ?_
   ·simp(config:=cS)only[go_sem, *]
   have k0:=h0
   clear h0 l0
   intro _ s0 _ h0 gb0
   obtain⟨node_3,i_3⟩:=s0
   unfold bJ at h0
   try dsimp only at h0
   obtain⟨_,h0⟩|⟨_,h0⟩:=itP h0
   ·exact run
   cases h0
   obtain rfl:=(aE gb0).symm
   clear gb0
   have h0:=k0
   clear k0
   try dsimp only at h0
   obtain⟨q16,l0,h0⟩:=ae h0
   simp(config:=cS)only[go_sem, *]
   refine ag (m1:=.mk) (m2:=.mk) [.home 12,.nf [1,4,10,12,13] [64,1472,831]] (jA node_3 g.nodes g.edges last_1) l0 ?_ ?_
   ·simp(config:=cS)only[go_sem, *]
   have k0:=h0
   clear h0 l0
   intro _ s0 _ h0 gb0
   obtain⟨at__4,out_4⟩:=s0
   unfold bK at h0
   try dsimp only at h0
   obtain⟨_,h0⟩|⟨_,h0⟩:=itP h0
   ·exact run
   obtain⟨_,h0⟩|⟨_,h0⟩:=itP h0
   ·cases h0
    obtain rfl:=(aE gb0).symm
    clear gb0
    have h0:=k0
    clear k0
    try dsimp only at h0
    obtain⟨r13,g0,h0⟩:=ae h0
    simp(config:=cS)only[go_sem, *]
    refine ai (na g0) ?_
    exact run
   exact run
  try simp(config:=cS)only[go_sem, *]
  refine fy ?_ ?_
  ·obtain⟨r19,g0,h0⟩:=ae h0
   simp(config:=cS)only[go_sem, *]
   have g0:=ctr g0
   refine ai g0 ?_
   obtain⟨q35,l0,h0⟩:=ae h0
   simp(config:=cS)only[go_sem, *]
   refine ag (m1:=.mk) (m2:=.mk) [.nf [1,3,4,5,6] [64,1216,1472]] (jy g.nodes g.edges) l0 ?_ ?_
   ·simp(config:=cS)only[go_sem, *]
   have k0:=h0
   clear h0 l0
   intro _ s0 _ h0 gb0
   obtain⟨changed_5,round_5,numbers_5,last_5⟩:=s0
   unfold bI at h0
   try dsimp only at h0
   obtain⟨_,h0⟩|⟨_,h0⟩:=itP h0
   ·obtain⟨q24,l0,h0⟩:=ae h0
    simp(config:=cS)only[go_sem, *]
    refine ag (m1:=.mk) (m2:=.mk) [.nf [1,3,4,5,6,31,32,33] [64,1216,1472]] (jx round_5 g.edges (g.edges.length:Int) g.nodes) l0 ?_ ?_
    ·simp(config:=cS)only[go_sem, *]
    have k0:=h0
    clear h0 l0
    intro _ s0 _ h0 gb0
    obtain⟨changed_6,v33_6,numbers_6,last_6⟩:=s0
    unfold bH at h0
    try dsimp only at h0
    exact run
   cases h0
   obtain rfl:=(aE gb0).symm
   clear gb0
   have h0:=k0
   clear k0
   try dsimp only at h0
   obtain⟨_,h0⟩|⟨_,h0⟩:=itP h0
   ·exact run
   obtain⟨x25,_,_,_,h0⟩:=gtI h0
   obtain⟨q34,l0,h0⟩:=ae h0
   simp(config:=cS)only[go_sem, *]
   refine ag (m1:=.mk) (m2:=.mk) [.nf [1,4,10,11] [64,1472]] (jz g.nodes g.edges last_5) l0 ?_ ?_
   ·simp(config:=cS)only[go_sem, *]
   have k0:=h0
   clear h0 l0
   intro _ s0 _ h0 gb0
   obtain⟨node_7,i_7⟩:=s0
   unfold bJ at h0
   try dsimp only at h0
   obtain⟨_,h0⟩|⟨_,h0⟩:=itP h0
   ·exact run
   cases h0
   obtain rfl:=(aE gb0).symm
   clear gb0
   have h0:=k0
   clear k0
   try dsimp only at h0
   obtain⟨q33,l0,h0⟩:=ae h0
   simp(config:=cS)only[go_sem, *]
   refine ag (m1:=.mk) (m2:=.mk) [.home 12,.nf [1,4,10,12,13] [64,1472,831]] (jA node_7 g.nodes g.edges last_5) l0 ?_ ?_
   ·simp(config:=cS)only[go_sem, *]
   have k0:=h0
   clear h0 l0
   intro _ s0 _ h0 gb0
   obtain⟨at__8,out_8⟩:=s0
   unfold bK at h0
   try dsimp only at h0
   obtain⟨_,h0⟩|⟨_,h0⟩:=itP h0
   ·exact run
   obtain⟨_,h0⟩|⟨_,h0⟩:=itP h0
   ·cases h0
    obtain rfl:=(aE gb0).symm
    clear gb0
    have h0:=k0
    clear k0
    try dsimp only at h0
    obtain⟨r30,g0,h0⟩:=ae h0
    simp(config:=cS)only[go_sem, *]
    refine ai (na g0) ?_
    exact run
   exact run
  obtain⟨r36,g0,h0⟩:=ae h0
  simp(config:=cS)only[go_sem, *]
  have g0:=ctr g0
  refine ai g0 ?_
  obtain⟨q52,l0,h0⟩:=ae h0
  simp(config:=cS)only[go_sem, *]
  refine ag (m1:=.mk) (m2:=.mk) [.nf [1,3,4,5,6] [64,1216,1472]] (jy g.nodes g.edges) l0 ?_ ?_
  ·simp(config:=cS)only[go_sem, *]
  have k0:=h0
  clear h0 l0
  intro _ s0 _ h0 gb0
  obtain⟨changed_9,round_9,numbers_9,last_9⟩:=s0
  unfold bI at h0
  try dsimp only at h0
  obtain⟨_,h0⟩|⟨_,h0⟩:=itP h0
  ·obtain⟨q41,l0,h0⟩:=ae h0
   simp(config:=cS)only[go_sem, *]
   refine ag (m1:=.mk) (m2:=.mk) [.nf [1,3,4,5,6,31,32,33] [64,1216,1472]] (jx round_9 g.edges (g.edges.length:Int) g.nodes) l0 ?_ ?_
   ·simp(config:=cS)only[go_sem, *]
   have k0:=h0
   clear h0 l0
   intro _ s0 _ h0 gb0
   obtain⟨changed_10,v33_10,numbers_10,last_10⟩:=s0
   unfold bH at h0
   try dsimp only at h0
   exact run
  cases h0
  obtain rfl:=(aE gb0).symm
  clear gb0
  have h0:=k0
  clear k0
  try dsimp only at h0
  obtain⟨_,h0⟩|⟨_,h0⟩:=itP h0
  ·exact run
  obtain⟨x42,_,_,_,h0⟩:=gtI h0
  obtain⟨q51,l0,h0⟩:=ae h0
  simp(config:=cS)only[go_sem, *]
  refine ag (m1:=.mk) (m2:=.mk) [.nf [1,4,10,11] [64,1472]] (jz g.nodes g.edges last_9) l0 ?_ ?_
  ·simp(config:=cS)only[go_sem, *]
  have k0:=h0
  clear h0 l0
  intro _ s0 _ h0 gb0
  obtain⟨node_11,i_11⟩:=s0
  unfold bJ at h0
  try dsimp only at h0
  obtain⟨_,h0⟩|⟨_,h0⟩:=itP h0
  ·exact run
  cases h0
  obtain rfl:=(aE gb0).symm
  clear gb0
  have h0:=k0
  clear k0
  try dsimp only at h0
  obtain⟨q50,l0,h0⟩:=ae h0
  simp(config:=cS)only[go_sem, *]
  refine ag (m1:=.mk) (m2:=.mk) [.home 12,.nf [1,4,10,12,13] [64,1472,831]] (jA node_11 g.nodes g.edges last_9) l0 ?_ ?_
  ·simp(config:=cS)only[go_sem, *]
  have k0:=h0
  clear h0 l0
  intro _ s0 _ h0 gb0
  obtain⟨at__12,out_12⟩:=s0
  unfold bK at h0
  try dsimp only at h0
  obtain⟨_,h0⟩|⟨_,h0⟩:=itP h0
  ·exact run
  obtain⟨_,h0⟩|⟨_,h0⟩:=itP h0
  ·cases h0
   obtain rfl:=(aE gb0).symm
   clear gb0
   have h0:=k0
   clear k0
   try dsimp only at h0
   obtain⟨r47,g0,h0⟩:=ae h0
   simp(config:=cS)only[go_sem, *]
   refine ai (na g0) ?_
   exact run
  exact run
 exact run⟩
instance k108 {s:GSimple}:Ctr (eY s) (fun (res:Bool)=>aj prog 108 [.agg [.lit (.int .i64 s.events),.sl (ab GLink.enc s.links)]] [] (.lit (.bool res)) []):=⟨by
 intro res h0
 refine co (hi:=hi00) func108 rfl rfl ?_
 unfold eY at h0
 obtain⟨r01,g0,h0⟩:=ae h0
 simp(config:=cS)only[go_sem, *]
 have g0:=ctr g0
 refine ai g0 ?_
 obtain⟨_,h0⟩|⟨_,h0⟩:=itB h0
 ·obtain⟨r02,g0,h0⟩:=ae h0
  simp(config:=cS)only[go_sem, *]
  have g0:=ctr g0
  refine ai g0 ?_
  obtain⟨r03,g0,h0⟩:=ae h0
  simp(config:=cS)only[go_sem, *]
  have g0:=ctr g0
  refine ai g0 ?_
  obtain⟨l1004,_,h0⟩|⟨_,h0⟩:=DJ h0
  ·exact run
  exact run
 exact run⟩
@[go_sem] def oe (round:Int)(v36:List GEdge)(v37 g_0:Int):(Bool × Int × (List Int) × (List Bool))→St
 | (changed,v38,out,known)=>⟨[(2,.ptr 128 1 0 0),(6,.ref 1664 1 0 out.length),(7,.ref 1856 1 0 known.length),(8,.lit (.int .i64 round)),(9,.lit (.bool changed)),(36,.sl (ab GEdge.enc v36)),(37,.lit (.int .i64 v37)),(38,.lit (.int .i64 v38))],[(128,1,.var [.lit (.int .i64 g_0),.sl (ab GEdge.enc v36)]),(1664,1,.row true (ab eI out)),(1856,1,.row true (ab eB known))],2⟩
@[go_sem] def og (g_0:Int)(g_1:List GEdge):(Int × (List Int) × (List Bool))→St
 | (round,out,known)=>⟨[(2,.ptr 128 1 0 0),(6,.ref 1664 1 0 out.length),(7,.ref 1856 1 0 known.length),(8,.lit (.int .i64 round))],[(128,1,.var [.lit (.int .i64 g_0),.sl (ab GEdge.enc g_1)]),(1664,1,.row true (ab eI out)),(1856,1,.row true (ab eB known))],2⟩
@[go_sem] def oh (v89:Int)(known:List Bool):(Int × (List Int))→St
 | (v90,out)=>⟨[(6,.ref 1664 1 0 out.length),(7,.ref 1856 1 0 known.length),(89,.lit (.int .i64 v89)),(90,.lit (.int .i64 v90))],[(1664,1,.row true (ab eI out)),(1856,1,.row true (ab eB known))],2⟩
@[go_sem] def hi259_13:DT:=.r2 0 4 (.i1 4 (.i1 5 (.i2 6 (.i2 7 (.i0 8 [4,5] (.r2 9 3 .nil))))))
@[go_sem] def hi259_11:DT:=.r2 0 9 .nil
@[go_sem] def hi259_3:DT:=.i1 0 (.i1 1 (.i1 3 (.i1 4 (.fork (.i0 2 [3,4] (.i2 6 (.i0 5 [0,1] (.i2 7 .nil)))) (.i0 5 [0,1] (.i0 2 [3,4] (.i2 6 (.i2 7 .nil))))))))
def zX:Hint where
 acts:=fun _=>[]
 draws:=fun
  | 3=>⟨hi259_3,[[],[0],[0,1],[],[3],[3,4],[0,1,2],.range 7],.range 8⟩
  | 11=>⟨hi259_11,[[],[],[1],[0,1,2],[0,1,2,3],[],[5],.range 7,.range 8],.range 9⟩
  | 13=>⟨hi259_13,[[],[],[1],[],[],[4],[],[0,1,2,6],[0,1,2,6,7],.range 9,.range 10,.range 11],[0,1,2,6,7,8,3,4,5,9,10,11]⟩
  | _=>⟨.nil,[],[]⟩
theorem VY (i:Nat):zX.acts i=[]:=rfl
theorem VZ (i:Nat):zX.views i=none:=rfl
attribute[go_sem] VY VZ ntmps259 results259
@[go_sem] theorem ZS:(zX.draws 3).order=hi259_3:=rfl
@[go_sem] theorem YD:(zX.draws 11).order=hi259_11:=rfl
@[go_sem] theorem YE:(zX.draws 13).order=hi259_13:=rfl
instance k259 {g:GGraph} {source:Int}:Ctr (cD g source) (fun (res:(List Int) × Bool)=>aj prog 259 [.agg [.lit (.int .i64 g.nodes),.sl (ab GEdge.enc g.edges)],.lit (.int .i64 source)] [] (.tup [.ref 20000 1 0 res.1.length,.lit (.bool res.2)]) [(20000,1,.row true (ab eI res.1))]):=⟨by
 intro res h0
 refine aB (ra:=[.home 4]) (md:=mdT) hT (hi:=zX) func259 rfl rfl (by decide +kernel) (by simp) ?_
 unfold cD at h0
 obtain⟨r01,g0,h0⟩:=ae h0
 simp(config:=cS)only[go_sem, *]
 have g0:=ctr g0
 refine ai g0 ?_
 obtain⟨_,h0⟩|⟨_,h0⟩:=itB h0
 ·obtain⟨r02,g0,h0⟩:=ae h0
  simp(config:=cS)only[go_sem, *]
  have g0:=ctr g0
  refine ai g0 ?_
  obtain⟨_,h0⟩|⟨_,h0⟩:=itB h0
  ·obtain⟨_,h0⟩:=ckP h0
   obtain⟨_,h0⟩:=ckP h0
   obtain⟨_,h0⟩:=ckP h0
   obtain⟨_,h0⟩:=ckP h0
   try simp(config:=cS)only[go_sem, *]
   refine fy ?_ ?_
   ·obtain⟨x03,_,_,_,h0⟩:=gtI h0
    obtain⟨q16,l0,h0⟩:=ae h0
    simp(config:=cS)only[go_sem, *]
    refine ag (m1:=.mk) (m2:=.mk) [.nf [2,6,7,8] [128,1664,1856]] (og g.nodes g.edges) l0 ?_ ?_
    ·simp(config:=cS)only[go_sem, *]
    have k0:=h0
    clear h0 l0
    intro _ s0 _ h0 gb0
    obtain⟨round_1,out_1,known_1⟩:=s0
    unfold bc at h0
    try dsimp only at h0
    obtain⟨q15,l0,h0⟩:=ae h0
    simp(config:=cS)only[go_sem, *]
    refine ag (m1:=.mk) (m2:=.mk) [.nf [2,6,7,8,9,36,37,38] [128,1664,1856]] (oe round_1 g.edges (g.edges.length:Int) g.nodes) l0 ?_ ?_
    ·simp(config:=cS)only[go_sem, *]
    have k0:=h0
    clear h0 l0
    intro _ s0 _ h0 gb0
    obtain⟨changed_2,v38_2,out_2,known_2⟩:=s0
    unfold cy at h0
    try dsimp only at h0
    obtain⟨_,h0⟩|⟨_,h0⟩:=itP h0
    ·exact run
    cases h0
    obtain rfl:=(aE gb0).symm
    clear gb0
    have h0:=k0
    clear k0
    try dsimp only at h0
    obtain⟨_,h0⟩|⟨_,h0⟩:=itB h0
    ·exact run
    cases h0
    obtain rfl:=(aE gb0).symm
    clear gb0
    have h0:=k0
    clear k0
    try dsimp only at h0
    obtain⟨q14,l0,h0⟩:=ae h0
    simp(config:=cS)only[go_sem, *]
    refine ag (m1:=.mk) (m2:=.mk) [.nf [6,7,89,90] [1664,1856]] (oh (out_2.length:Int) known_2) l0 ?_ ?_
    ·simp(config:=cS)only[go_sem, *]
    have k0:=h0
    clear h0 l0
    intro _ s0 _ h0 gb0
    obtain⟨v90_3,out_3⟩:=s0
    unfold bT at h0
    try dsimp only at h0
    exact run
   obtain⟨x17,_,_,_,h0⟩:=gtI h0
   obtain⟨q30,l0,h0⟩:=ae h0
   simp(config:=cS)only[go_sem, *]
   refine ag (m1:=.mk) (m2:=.mk) [.nf [2,6,7,8] [128,1664,1856]] (og g.nodes g.edges) l0 ?_ ?_
   ·simp(config:=cS)only[go_sem, *]
   have k0:=h0
   clear h0 l0
   intro _ s0 _ h0 gb0
   obtain⟨round_4,out_4,known_4⟩:=s0
   unfold bc at h0
   try dsimp only at h0
   obtain⟨q29,l0,h0⟩:=ae h0
   simp(config:=cS)only[go_sem, *]
   refine ag (m1:=.mk) (m2:=.mk) [.nf [2,6,7,8,9,36,37,38] [128,1664,1856]] (oe round_4 g.edges (g.edges.length:Int) g.nodes) l0 ?_ ?_
   ·simp(config:=cS)only[go_sem, *]
   have k0:=h0
   clear h0 l0
   intro _ s0 _ h0 gb0
   obtain⟨changed_5,v38_5,out_5,known_5⟩:=s0
   unfold cy at h0
   try dsimp only at h0
   obtain⟨_,h0⟩|⟨_,h0⟩:=itP h0
   ·exact run
   cases h0
   obtain rfl:=(aE gb0).symm
   clear gb0
   have h0:=k0
   clear k0
   try dsimp only at h0
   obtain⟨_,h0⟩|⟨_,h0⟩:=itB h0
   ·exact run
   cases h0
   obtain rfl:=(aE gb0).symm
   clear gb0
   have h0:=k0
   clear k0
   try dsimp only at h0
   obtain⟨q28,l0,h0⟩:=ae h0
   simp(config:=cS)only[go_sem, *]
   refine ag (m1:=.mk) (m2:=.mk) [.nf [6,7,89,90] [1664,1856]] (oh (out_5.length:Int) known_5) l0 ?_ ?_
   ·simp(config:=cS)only[go_sem, *]
   have k0:=h0
   clear h0 l0
   intro _ s0 _ h0 gb0
   obtain⟨v90_6,out_6⟩:=s0
   unfold bT at h0
   try dsimp only at h0
   exact run
  exact run
 exact run⟩
instance k260 {n:Int}:Ctr (jN n) (fun (res:Int)=>aj prog 260 [.lit (.int .i64 n)] [] (.lit (.int .i64 res)) []):=⟨by
 intro res h0
 refine co (hi:=hi00) func260 rfl rfl ?_
 unfold jN at h0
 exact run⟩
@[go_sem] def tK (i v33 g_0:Int)(g_1:List GEdge)(v32:List Int):(Int × (List Int))→St
 | (v34,h100016385)=>⟨[(1,.ptr 64 1 0 0),(2,.ptr 128 1 0 0),(4,.ptr 256 1 0 0),(5,.lit (.int .i64 i)),(32,.ref 1664 1 0 v32.length),(33,.lit (.int .i64 v33)),(34,.lit (.int .i64 v34))],[(64,1,.var [.lit (.int .i64 g_0),.sl (ab GEdge.enc g_1)]),(128,1,.var [.lit (.int .i64 0),.lit (.slice none 0 0)]),(256,1,.var [.lit (.int .i64 g_0),.ref 100016385 1 0 h100016385.length]),(100016385,1,.row true (ab eI h100016385)),(1664,1,.row true (ab eI v32))],2⟩
@[go_sem] def tL (g_0:Int)(g_1:List GEdge):(Int × (List Int))→St
 | (i,h100016385)=>⟨[(1,.ptr 64 1 0 0),(2,.ptr 128 1 0 0),(4,.ptr 256 1 0 0),(5,.lit (.int .i64 i))],[(64,1,.var [.lit (.int .i64 g_0),.sl (ab GEdge.enc g_1)]),(128,1,.var [.lit (.int .i64 0),.lit (.slice none 0 0)]),(256,1,.var [.lit (.int .i64 g_0),.ref 100016385 1 0 h100016385.length]),(100016385,1,.row true (ab eI h100016385))],2⟩
@[go_sem] def hi174_13:DT:=.i1 0 (.i1 1 (.i2 2 (.i0 3 [0,1] (.i0 4 [0,1] (.r2 5 3 .nil)))))
def IU:Hint where
 acts:=fun _=>[]
 draws:=fun
  | 13=>⟨hi174_13,[[],[0],[],[2],[2,3],.range 5,.range 6,.range 7],.range 8⟩
  | _=>⟨.nil,[],[]⟩
theorem Wa (i:Nat):IU.acts i=[]:=rfl
theorem Wb (i:Nat):IU.views i=none:=rfl
attribute[go_sem] Wa Wb ntmps174 results174
@[go_sem] theorem YF:(IU.draws 13).order=hi174_13:=rfl
instance k174 {g:GGraph}:Ctr (jO g) (fun (res:aw × Bool)=>aj prog 174 [.agg [.lit (.int .i64 g.nodes),.sl (ab GEdge.enc g.edges)]] [] (.tup [.agg [.lit (.int .i64 res.1.size),.ref 20000 1 0 res.1.cells.length],.lit (.bool res.2)]) [(20000,1,.row true (ab eI res.1.cells))]):=⟨by
 intro res h0
 refine aB (ra:=[.homeCell 128 1]) (md:=mdT) hT (hi:=IU) func174 rfl rfl (by decide +kernel) (by simp) ?_
 unfold jO at h0
 obtain⟨r01,g0,h0⟩:=ae h0
 simp(config:=cS)only[go_sem, *]
 have g0:=ctr g0
 refine ai g0 ?_
 obtain⟨_,h0⟩|⟨_,h0⟩:=itB h0
 ·obtain⟨q06,l0,h0⟩:=ae h0
  simp(config:=cS)only[go_sem, *]
  refine ag (m1:=.mk) (m2:=.mk) [.homeCell 256 1,.nf [1,2,4,5] [64,128,256,100016385]] (tL g.nodes g.edges) l0 ?_ ?_
  ·simp(config:=cS)only[go_sem, *]
  have k0:=h0
  clear h0 l0
  intro _ s0 _ h0 gb0
  obtain⟨i_1,h100016385_1⟩:=s0
  unfold kh at h0
  try dsimp only at h0
  obtain⟨_,h0⟩|⟨_,h0⟩:=itP h0
  ·obtain⟨r02,g0,h0⟩:=ae h0
   simp(config:=cS)only[go_sem, *]
   have g0:=ctr g0
   refine ai g0 ?_
   obtain⟨_,h0⟩|⟨_,h0⟩:=itB h0
   ·obtain⟨q05,l0,h0⟩:=ae h0
    simp(config:=cS)only[go_sem, *]
    refine ag (m1:=.mk) (m2:=.mk) [.homeCell 256 1,.nf [1,2,4,5,32,33,34] [64,128,256,100016385,1664]] (tK i_1 (r02.1.length:Int) g.nodes g.edges r02.1) l0 ?_ ?_
    ·simp(config:=cS)only[go_sem, *]
    have k0:=h0
    clear h0 l0
    intro _ s0 _ h0 gb0
    obtain⟨v34_2,h100016385_2⟩:=s0
    unfold kg at h0
    try dsimp only at h0
    exact run
   exact run
  exact run
 exact run⟩
@[go_sem] def wn (v25:List Int)(v26 t_0 v27:Int):St:=⟨[(1,.ptr 64 1 0 0),(25,.sl (ab eI v25)),(26,.lit (.int .i64 v26)),(27,.lit (.int .i64 v27))],[(64,1,.var [.lit (.int .i64 t_0),.sl (ab eI v25)])],2⟩
@[go_sem] def hi262_6:DT:=.r2 0 21 .nil
def IV:Hint where
 acts:=fun _=>[]
 draws:=fun
  | 6=>⟨hi262_6,[[],[0],[0,1],[0,1,2],[0,1,2,3],.range 5,.range 6,.range 7,.range 7,[0,1,2,3,4,5,6,8],.range 10,.range 7,.range 7,[0,1,2,3,4,5,6,12],[0,1,2,3,4,5,6,11,12,13],.range 15,.range 16,.range 17,.range 18,.range 19,.range 20],.range 21⟩
  | _=>⟨.nil,[],[]⟩
theorem Wc (i:Nat):IV.acts i=[]:=rfl
theorem Wd (i:Nat):IV.views i=none:=rfl
attribute[go_sem] Wc Wd ntmps262 results262
@[go_sem] theorem ZT:(IV.draws 6).order=hi262_6:=rfl
instance k262 {t:aw}:Ctr (mD t) (fun (res:Bool)=>aj prog 262 [.agg [.lit (.int .i64 t.size),.sl (ab eI t.cells)]] [] (.lit (.bool res)) []):=⟨by
 intro res h0
 refine co (hi:=IV) func262 rfl rfl ?_
 unfold mD at h0
 obtain⟨_,h0⟩|⟨_,h0⟩:=itP h0
 ·exact run
 obtain⟨_,h0⟩|⟨_,h0⟩:=itP h0
 ·exact run
 obtain⟨_,h0⟩|⟨_,h0⟩:=itP h0
 ·obtain⟨q02,l0,h0⟩:=ae h0
  simp(config:=cS)only[go_sem, *]
  refine ag (m1:=.mk) (m2:=.mk) [.nf [1,25,26,27] [64]] (wn t.cells (t.cells.length:Int) t.size) l0 ?_ ?_
  ·simp(config:=cS)only[go_sem, *]
  have k0:=h0
  clear h0 l0
  intro _ v27_1 _ h0 gb0
  unfold gO at h0
  try dsimp only at h0
  exact run
 exact run⟩
instance k264 {t:aw} {i:Int} {k:Int}:Ctr (jP t i k) (fun (res:Int)=>aj prog 264 [.agg [.lit (.int .i64 t.size),.sl (ab eI t.cells)],.lit (.int .i64 i),.lit (.int .i64 k)] [] (.lit (.int .i64 res)) []):=⟨by
 intro res h0
 refine co (hi:=hi00) func264 rfl rfl ?_
 unfold jP at h0
 exact run⟩
instance k263 {i:al} {ok:Bool}:Ctr (oQ i ok) (fun (res:al × Bool)=>aj prog 263 [.agg [.lit (.int .i64 i.low),.lit (.int .i64 i.high)],.lit (.bool ok)] [] (.tup [.agg [.lit (.int .i64 res.1.low),.lit (.int .i64 res.1.high)],.lit (.bool res.2)]) []):=⟨by
 intro res h0
 refine co (hi:=hi00) func263 rfl rfl ?_
 unfold oQ at h0
 exact run⟩
@[go_sem] def hi176_3:DT:=.r2 0 3 (.i1 5 (.i2 6 (.i2 7 (.i0 3 [5] (.i2 4 (.r2 8 7 .nil))))))
def IW:Hint where
 acts:=fun _=>[]
 draws:=fun
  | 3=>⟨hi176_3,[[],[],[],[0,1,2],[0,1,2,3],[],[],[],[0,1,2,3,5,6,7],.range 9,.range 10,.range 11,.range 11,.range 13,.range 14],.range 15⟩
  | _=>⟨.nil,[],[]⟩
theorem We (i:Nat):IW.acts i=[]:=rfl
theorem Wf (i:Nat):IW.views i=none:=rfl
attribute[go_sem] We Wf ntmps176 results176
@[go_sem] theorem ZU:(IW.draws 3).order=hi176_3:=rfl
instance k176 {t:aw} {i:Int} {k:Int}:Ctr (gn t i k) (fun (res:al × Bool)=>aj prog 176 [.agg [.lit (.int .i64 t.size),.sl (ab eI t.cells)],.lit (.int .i64 i),.lit (.int .i64 k)] [] (.tup [.agg [.lit (.int .i64 res.1.low),.lit (.int .i64 res.1.high)],.lit (.bool res.2)]) []):=⟨by
 intro res h0
 refine co (hi:=IW) func176 rfl rfl ?_
 unfold gn at h0
 exact run⟩
instance k70 {s:GSimple} {event:Int}:Ctr (lJ s event) (fun (res:al × Bool)=>aj prog 70 [.agg [.lit (.int .i64 s.events),.sl (ab GLink.enc s.links)],.lit (.int .i64 event)] [] (.tup [.agg [.lit (.int .i64 res.1.low),.lit (.int .i64 res.1.high)],.lit (.bool res.2)]) []):=⟨by
 intro res h0
 refine co (hi:=hi00) func70 rfl rfl ?_
 unfold lJ at h0
 exact run⟩
@[go_sem] def xz (f_f:Nat)(k_f:List AV)(s_0:Int)(s_1:List GLink):(Int × (List Int))→St
 | (event,out)=>⟨[(1,.fn f_f k_f),(2,.ptr 128 1 0 0),(6,.ref 447 1 0 out.length),(7,.lit (.int .i64 event))],[(128,1,.var [.lit (.int .i64 s_0),.sl (ab GLink.enc s_1)]),(447,1,.row true (ab eI out))],2⟩
theorem HF {s:GSimple}{f:al→Option Int}{f_f:Nat}{k_f:List AV}(hp_f:∀ y0 r,f y0=some r→aj prog f_f ([.agg [.lit (.int .i64 y0.low),.lit (.int .i64 y0.high)]]++k_f) [] (.lit (.int .i64 r)) [])(hc_f:KC k_f)(hm_f:∀ a,mdT f_f a=⟨[],false⟩)(hk_f:spf f_f=false){res:(List Int) × Bool}(h:pC s f=some res):aj prog 185 [.agg [.lit (.int .i64 s.events),.sl (ab GLink.enc s.links)],.fn f_f k_f] [] (.tup [.ref 20000 1 0 res.1.length,.lit (.bool res.2)]) [(20000,1,.row true (ab eI res.1))]:=by
 refine aB (ra:=[.home 4]) (md:=mdT) hT (hi:=hi00) func185 rfl rfl (by decide +kernel) (by simp) ?_
 unfold pC at h
 obtain⟨r01,g1,h⟩:=ae h
 simp(config:=cS)only[go_sem,hc_f.1,hc_f.2,hm_f,hk_f]
 have g1:=ctr g1
 refine ai g1 ?_
 obtain⟨h2,h⟩|⟨h2,h⟩:=aT h
 ·obtain⟨q06,l3,h⟩:=ae h
  simp(config:=cS)only[go_sem,hc_f.1,hc_f.2,hm_f,hk_f,eZt h2]
  refine ag (m1:=.mk) (m2:=.mk) [.home 6,.nf [1,2,6,7] [128,447]] (xz f_f k_f s.events s.links) l3 ?_ ?_
  ·simp(config:=cS)only[go_sem,hc_f.1,hc_f.2,hm_f,hk_f,eZt h2]
  intro nb4 sb4 bb4 b4 gb4
  obtain⟨event_1,out_1⟩:=sb4
  unfold kP at b4
  try dsimp only at b4
  obtain⟨h5,b4⟩|⟨h5,b4⟩:=aT b4
  ·obtain⟨r02,g6,b4⟩:=ae b4
   simp(config:=cS)only[go_sem,hc_f.1,hc_f.2,hm_f,hk_f,eZt h2,eqT h5]
   have g6:=ctr g6
   refine ai g6 ?_
   obtain⟨h7,b4⟩|⟨h7,b4⟩:=aT b4
   ·obtain⟨r03,g8,b4⟩:=ae b4
    simp(config:=cS)only[go_sem,hc_f.1,hc_f.2,hm_f,hk_f,eZt h2,eqT h5,eZt h7]
    refine ai (hp_f _ _ g8) ?_
    obtain⟨r04,g9,b4⟩:=ae b4
    simp(config:=cS)only[go_sem,hc_f.1,hc_f.2,hm_f,hk_f,eZt h2,eqT h5,eZt h7]
    have g9:=ctr g9
    refine ai g9 ?_
    obtain⟨h10,b4⟩|⟨h10,b4⟩:=aT b4
    ·obtain⟨r05,g11,b4⟩:=ae b4
     simp(config:=cS)only[go_sem,hc_f.1,hc_f.2,hm_f,hk_f,eZt h2,eqT h5,eZt h7,eZt h10]
     refine ai (hp_f _ _ g11) ?_
     obtain⟨h12,b4⟩:=cL b4
     obtain⟨h13,b4⟩:=cL b4
     cases b4
     simp(config:=cS)only[go_sem,hc_f.1,hc_f.2,hm_f,hk_f,eZt h2,eqT h5,eZt h7,eZt h10,eqT h12,eqT h13]
     refine fz gb4 ?_
     simp(config:=cS)only[go_sem,hc_f.1,hc_f.2,hm_f,hk_f,eZt h2,eqT h5,eZt h7,eZt h10,eqT h12,eqT h13]
    cases b4
    obtain rfl:=(aE gb4).symm
    try dsimp only at h
    cases h
    simp(config:=cS)only[go_sem,hc_f.1,hc_f.2,hm_f,hk_f,eZt h2,eqT h5,eZt h7,eZf h10]
   cases b4
   obtain rfl:=(aE gb4).symm
   try dsimp only at h
   cases h
   simp(config:=cS)only[go_sem,hc_f.1,hc_f.2,hm_f,hk_f,eZt h2,eqT h5,eZf h7]
  cases b4
  obtain rfl:=(aE gb4).symm
  try dsimp only at h
  cases h
  simp(config:=cS)only[go_sem,hc_f.1,hc_f.2,hm_f,hk_f,eZt h2,eqF h5]
 cases h
 simp(config:=cS)only[go_sem,hc_f.1,hc_f.2,hm_f,hk_f,eZf h2]
instance k186 {i:al}:Ctr (db i) (fun (res:Int)=>aj prog 186 [.agg [.lit (.int .i64 i.low),.lit (.int .i64 i.high)]] [] (.lit (.int .i64 res)) []):=⟨by
 intro res h0
 refine co (hi:=hi00) func186 rfl rfl ?_
 unfold db at h0
 exact run⟩
instance k82 {s:GSimple}:Ctr (gq s) (fun (res:(List Int) × Bool)=>aj prog 82 [.agg [.lit (.int .i64 s.events),.sl (ab GLink.enc s.links)]] [] (.tup [.ref 20000 1 0 res.1.length,.lit (.bool res.2)]) [(20000,1,.row true (ab eI res.1))]):=⟨by
 intro res h0
 refine aB (ra:=[.home 2]) (md:=mdT) hT (hi:=hi00) func82 rfl rfl (by decide +kernel) (by simp) ?_
 unfold gq at h0
 obtain⟨r01,g0,h0⟩:=ae h0
 simp(config:=cS)only[go_sem, *]
 refine ai (HF (by exact fun _ _ hr=>by have q:=ctr hr;exact q) (by refine⟨fun _=>?_,fun _=>?_⟩ <;> simp only[go_sem]) (fun _=>rfl) rfl g0) ?_
 exact run⟩
@[go_sem] def tg (v24:Int)(s_0:List GNode)(s_1:List GTie)(s_2:Int):(Int × (List Int))→St
 | (v25,v23)=>⟨[(1,.ptr 64 1 0 0),(6,.ref 1152 1 0 v23.length),(23,.ref 1152 1 0 v23.length),(24,.lit (.int .i64 v24)),(25,.lit (.int .i64 v25))],[(64,1,.var [.sl (ab GNode.encS s_0),.sl (ab GTie.enc s_1),.lit (.int .i64 s_2)]),(1152,1,.row true (ab eI v23))],2⟩
instance k23 {s:GShow}:Ctr (jd s) (fun (res:(List Int) × Bool)=>aj prog 23 [.agg (GShow.encS s)] [] (.tup [.ref 20000 1 0 res.1.length,.lit (.bool res.2)]) [(20000,1,.row true (ab eI res.1))]):=⟨by
 intro res h0
 refine aB (ra:=[.home 2]) (md:=mdT) hT (hi:=hi00) func23 rfl rfl (by decide +kernel) (by simp) ?_
 unfold jd at h0
 obtain⟨r01,g0,h0⟩:=ae h0
 simp(config:=cS)only[go_sem, *]
 have g0:=ctr g0
 refine ai g0 ?_
 obtain⟨_,h0⟩|⟨_,h0⟩:=itB h0
 ·obtain⟨r02,g0,h0⟩:=ae h0
  simp(config:=cS)only[go_sem, *]
  have g0:=ctr g0
  refine ai g0 ?_
  obtain⟨_,h0⟩|⟨_,h0⟩:=itB h0
  ·obtain⟨q05,l0,h0⟩:=ae h0
   simp(config:=cS)only[go_sem, *]
   refine ag (m1:=.mk) (m2:=.mk) [.nf [1,6,23,24,25] [64,1152]] (tg (r02.1.length:Int) s.nodes s.ties s.horizon) l0 ?_ ?_
   ·simp(config:=cS)only[go_sem, *]
   have k0:=h0
   clear h0 l0
   intro _ s0 _ h0 gb0
   obtain⟨v25_1,v23_1⟩:=s0
   unfold fP at h0
   try dsimp only at h0
   exact run
  exact run
 exact run⟩
instance k29 {s:GShow}:Ctr (lL s) (fun (res:Bool)=>aj prog 29 [.agg (GShow.encS s)] [] (.lit (.bool res)) []):=⟨by
 intro res h0
 refine co (hi:=hi00) func29 rfl rfl ?_
 unfold lL at h0
 exact run⟩
@[go_sem] def hi98_3:DT:=.i1 1 (.i1 2 (.i1 3 (.fork (.i0 0 [1,2,3] (.fork (.i2 4 (.fork (.i0 5 [1,2,3] (.i2 6 (.i0 7 [1,2,3] (.i2 8 .nil)))) (.i0 7 [1,2,3] (.i0 5 [1,2,3] (.i2 6 (.i2 8 .nil)))))) (.fork (.i0 5 [1,2,3] (.fork (.i2 4 (.i2 6 (.i0 7 [1,2,3] (.i2 8 .nil)))) (.i0 7 [1,2,3] (.i2 4 (.i2 6 (.i2 8 .nil)))))) (.i0 7 [1,2,3] (.fork (.i2 4 (.i0 5 [1,2,3] (.i2 6 (.i2 8 .nil)))) (.i0 5 [1,2,3] (.i2 4 (.i2 6 (.i2 8 .nil))))))))) (.fork (.i0 5 [1,2,3] (.fork (.i0 0 [1,2,3] (.fork (.i2 4 (.i2 6 (.i0 7 [1,2,3] (.i2 8 .nil)))) (.i0 7 [1,2,3] (.i2 4 (.i2 6 (.i2 8 .nil)))))) (.i0 7 [1,2,3] (.i0 0 [1,2,3] (.i2 4 (.i2 6 (.i2 8 .nil))))))) (.i0 7 [1,2,3] (.fork (.i0 0 [1,2,3] (.fork (.i2 4 (.i0 5 [1,2,3] (.i2 6 (.i2 8 .nil)))) (.i0 5 [1,2,3] (.i2 4 (.i2 6 (.i2 8 .nil)))))) (.i0 5 [1,2,3] (.i0 0 [1,2,3] (.i2 4 (.i2 6 (.i2 8 .nil)))))))))))
def hi98:Hint where
 acts:=fun _=>[]
 draws:=fun
  | 3=>⟨hi98_3,[[],[],[1],[1,2],[0,1,2,3],[],.range 6,[],.range 8],.range 9⟩
  | _=>⟨.nil,[],[]⟩
theorem XL (i:Nat):hi98.acts i=[]:=rfl
theorem XM (i:Nat):hi98.views i=none:=rfl
attribute[go_sem] XL XM ntmps98 results98
@[go_sem] theorem aaE:(hi98.draws 3).order=hi98_3:=rfl
instance k98 {s:GShow}:Ctr (jR s) (fun (res:GState)=>aj prog 98 [.agg (GShow.encS s)] [] (.agg [.lit (.int .i64 res.now),.ref 20000 1 0 res.times.length,.ref 20001 1 0 res.values.length]) [(20000,1,.row true (ab eI res.times)),(20001,1,.row true (ab eI res.values))]):=⟨by
 intro res h0
 refine aB (ra:=[.homeCell 128 1,.homeCell 128 2]) (md:=mdT) hT (hi:=hi98) func98 rfl rfl (by decide +kernel) (by simp) ?_
 unfold jR at h0
 obtain⟨r01,g0,h0⟩:=ae h0
 simp(config:=cS)only[go_sem, *]
 have g0:=ctr g0
 refine ai g0 ?_
 obtain⟨_,h0⟩|⟨_,h0⟩:=itB h0
 ·try simp(config:=cS)only[go_sem, *]
  refine fy ?_ ?_
  ·try simp(config:=cS)only[go_sem, *]
   refine fy ?_ ?_
   ·obtain⟨r02,g0,h0⟩:=ae h0
    simp(config:=cS)only[go_sem, *]
    have g0:=ctr g0
    refine ai g0 ?_
    try simp(config:=cS)only[go_sem, *]
    refine fy ?_ ?_
    ·obtain⟨x03,g1,h0⟩:=ae h0
     have:=fo (k:=0) g1
     exact run
    obtain⟨x04,g2,h0⟩:=ae h0
    have:=fo (k:=0) g2
    exact run
   try simp(config:=cS)only[go_sem, *]
   refine fy ?_ ?_
   ·try simp(config:=cS)only[go_sem, *]
    refine fy ?_ ?_
    ·obtain⟨r05,g0,h0⟩:=ae h0
     simp(config:=cS)only[go_sem, *]
     have g0:=ctr g0
     refine ai g0 ?_
     obtain⟨x06,g3,h0⟩:=ae h0
     have:=fo (k:=0) g3
     exact run
    obtain⟨r07,g0,h0⟩:=ae h0
    simp(config:=cS)only[go_sem, *]
    have g0:=ctr g0
    refine ai g0 ?_
    obtain⟨x08,g4,h0⟩:=ae h0
    have:=fo (k:=0) g4
    exact run
   try simp(config:=cS)only[go_sem, *]
   refine fy ?_ ?_
   ·obtain⟨r09,g0,h0⟩:=ae h0
    simp(config:=cS)only[go_sem, *]
    have g0:=ctr g0
    refine ai g0 ?_
    obtain⟨x10,g5,h0⟩:=ae h0
    have:=fo (k:=0) g5
    exact run
   obtain⟨r11,g0,h0⟩:=ae h0
   simp(config:=cS)only[go_sem, *]
   have g0:=ctr g0
   refine ai g0 ?_
   obtain⟨x12,g6,h0⟩:=ae h0
   have:=fo (k:=0) g6
   exact run
  try simp(config:=cS)only[go_sem, *]
  refine fy ?_ ?_
  ·try simp(config:=cS)only[go_sem, *]
   refine fy ?_ ?_
   ·try simp(config:=cS)only[go_sem, *]
    refine fy ?_ ?_
    ·obtain⟨r13,g0,h0⟩:=ae h0
     simp(config:=cS)only[go_sem, *]
     have g0:=ctr g0
     refine ai g0 ?_
     obtain⟨x14,g7,h0⟩:=ae h0
     have:=fo (k:=0) g7
     exact run
    obtain⟨r15,g0,h0⟩:=ae h0
    simp(config:=cS)only[go_sem, *]
    have g0:=ctr g0
    refine ai g0 ?_
    obtain⟨x16,g8,h0⟩:=ae h0
    have:=fo (k:=0) g8
    exact run
   obtain⟨r17,g0,h0⟩:=ae h0
   simp(config:=cS)only[go_sem, *]
   have g0:=ctr g0
   refine ai g0 ?_
   obtain⟨x18,g9,h0⟩:=ae h0
   have:=fo (k:=0) g9
   exact run
  try simp(config:=cS)only[go_sem, *]
  refine fy ?_ ?_
  ·try simp(config:=cS)only[go_sem, *]
   refine fy ?_ ?_
   ·obtain⟨r19,g0,h0⟩:=ae h0
    simp(config:=cS)only[go_sem, *]
    have g0:=ctr g0
    refine ai g0 ?_
    obtain⟨x20,g10,h0⟩:=ae h0
    have:=fo (k:=0) g10
    exact run
   obtain⟨r21,g0,h0⟩:=ae h0
   simp(config:=cS)only[go_sem, *]
   have g0:=ctr g0
   refine ai g0 ?_
   obtain⟨x22,g11,h0⟩:=ae h0
   have:=fo (k:=0) g11
   exact run
  obtain⟨r23,g0,h0⟩:=ae h0
  simp(config:=cS)only[go_sem, *]
  have g0:=ctr g0
  refine ai g0 ?_
  obtain⟨x24,g12,h0⟩:=ae h0
  have:=fo (k:=0) g12
  exact run
 exact run⟩
instance k308 {n:Int}:Ctr (lI n) (fun (res:Bool)=>aj prog 308 [.lit (.int .i64 n)] [] (.lit (.bool res)) []):=⟨by
 intro res h0
 refine co (hi:=hi00) func308 rfl rfl ?_
 unfold lI at h0
 exact run⟩
instance k256 {v:List Int}:Ctr (jt v) (fun (res:Bool)=>aj prog 256 [.sl (ab eI v)] [] (.lit (.bool res)) []):=⟨by
 intro res h0
 refine co (hi:=hi00) func256 rfl rfl ?_
 unfold jt at h0
 obtain⟨_,h0⟩|⟨_,h0⟩:=itP h0
 ·obtain⟨r01,g0,h0⟩:=ae h0
  simp(config:=cS)only[go_sem, *]
  refine ai (kf (by exact fun _ _ hr=>by have q:=ctr hr;exact q) (by refine⟨fun _=>?_,fun _=>?_⟩ <;> simp only[go_sem]) (fun _=>rfl) rfl g0) ?_
  exact run
 exact run⟩
@[go_sem] def wo (v37:List Int)(v38:Int)(s_0:List GNode)(s_1:List GTie)(s_2 v3_0:Int)(v3_2:List Int)(v39:Int):St:=⟨[(2,.ptr 128 1 0 0),(3,.ptr 192 1 0 0),(37,.sl (ab eI v37)),(38,.lit (.int .i64 v38)),(39,.lit (.int .i64 v39))],[(128,1,.var [.sl (ab GNode.encS s_0),.sl (ab GTie.enc s_1),.lit (.int .i64 s_2)]),(192,1,.var [.lit (.int .i64 v3_0),.sl (ab eI v37),.sl (ab eI v3_2)])],2⟩
@[go_sem] def wq (v67:List Int)(v68:Int)(s_0:List GNode)(s_1:List GTie)(s_2 v3_0:Int)(v3_1:List Int)(v69:Int):St:=⟨[(2,.ptr 128 1 0 0),(3,.ptr 192 1 0 0),(67,.sl (ab eI v67)),(68,.lit (.int .i64 v68)),(69,.lit (.int .i64 v69))],[(128,1,.var [.sl (ab GNode.encS s_0),.sl (ab GTie.enc s_1),.lit (.int .i64 s_2)]),(192,1,.var [.lit (.int .i64 v3_0),.sl (ab eI v3_1),.sl (ab eI v67)])],2⟩
instance k212 {s:GShow} {v1:GState}:Ctr (mG s v1) (fun (res:Bool)=>aj prog 212 [.agg (GShow.encS s),.agg (GState.encS v1)] [] (.lit (.bool res)) []):=⟨by
 intro res h0
 refine co (hi:=hi00) func212 rfl rfl ?_
 unfold mG at h0
 obtain⟨_,h0⟩|⟨_,h0⟩:=itP h0
 ·exact run
 obtain⟨_,h0⟩|⟨_,h0⟩:=itP h0
 ·exact run
 obtain⟨_,h0⟩|⟨_,h0⟩:=itP h0
 ·obtain⟨r01,g0,h0⟩:=ae h0
  simp(config:=cS)only[go_sem, *]
  have g0:=ctr g0
  refine ai g0 ?_
  obtain⟨_,h0⟩|⟨_,h0⟩:=itB h0
  ·obtain⟨q07,l0,h0⟩:=ae h0
   simp(config:=cS)only[go_sem, *]
   refine ag (m1:=.mk) (m2:=.mk) [.nf [2,3,37,38,39] [128,192]] (wo v1.times (v1.times.length:Int) s.nodes s.ties s.horizon v1.now v1.values) l0 ?_ ?_
   ·simp(config:=cS)only[go_sem, *]
   have k0:=h0
   clear h0 l0
   intro _ v39_1 _ h0 gb0
   unfold gR at h0
   try dsimp only at h0
   obtain⟨_,h0⟩|⟨_,h0⟩:=itP h0
   ·exact run
   cases h0
   obtain rfl:=(aE gb0).symm
   clear gb0
   have h0:=k0
   clear k0
   try dsimp only at h0
   obtain⟨q06,l0,h0⟩:=ae h0
   simp(config:=cS)only[go_sem, *]
   refine ag (m1:=.mk) (m2:=.mk) [.nf [2,3,67,68,69] [128,192]] (wq v1.values (v1.values.length:Int) s.nodes s.ties s.horizon v1.now v1.times) l0 ?_ ?_
   ·simp(config:=cS)only[go_sem, *]
   have k0:=h0
   clear h0 l0
   intro _ v69_2 _ h0 gb0
   unfold gS at h0
   try dsimp only at h0
   exact run
  exact run
 exact run⟩
instance k109 {s:GShow} {v1:GState}:Ctr (mH s v1) (fun (res:Bool)=>aj prog 109 [.agg (GShow.encS s),.agg (GState.encS v1)] [] (.lit (.bool res)) []):=⟨by
 intro res h0
 refine co (hi:=hi00) func109 rfl rfl ?_
 unfold mH at h0
 exact run⟩
instance k127 {s:GShow}:Ctr (oR s) (fun (res:GShow × (List (ByteArray × Bool)))=>aj prog 127 [.agg (GShow.encS s)] [] (.ptr 20000 1 0 0) [(20000,1,.var [.sl (ab GNode.encS res.1.nodes),.sl (ab GTie.enc res.1.ties),.lit (.int .i64 res.1.horizon),.mp 20001 1]),(20001,1,.map (eM res.2))]):=⟨by
 intro res h0
 refine co (hi:=hi00) func127 rfl rfl ?_
 unfold oR at h0
 exact run⟩
instance k257 {l:Int} {v:List Int}:Ctr (oC l v) (fun (res:Int)=>aj prog 257 [.lit (.int .i64 l),.sl (ab eI v)] [] (.lit (.int .i64 res)) []):=⟨by
 intro res h0
 refine co (hi:=hi00) func257 rfl rfl ?_
 unfold oC at h0
 exact run⟩
@[go_sem] def tM (v v16:List Int)(v17:Int):(Int × Int)→St
 | (out,v18)=>⟨[(1,.sl (ab eI v)),(5,.lit (.int .i64 out)),(16,.sl (ab eI v16)),(17,.lit (.int .i64 v17)),(18,.lit (.int .i64 v18))],[],2⟩
instance k173 {l:List Int} {v:List Int}:Ctr (eJ l v) (fun (res:Int)=>aj prog 173 [.sl (ab eI l),.sl (ab eI v)] [] (.lit (.int .i64 res)) []):=⟨by
 intro res h0
 refine co (hi:=hi00) func173 rfl rfl ?_
 unfold eJ at h0
 obtain⟨r01,g0,h0⟩:=ae h0
 simp(config:=cS)only[go_sem, *]
 have g0:=ctr g0
 refine ai g0 ?_
 obtain⟨_,h0⟩|⟨_,h0⟩:=itB h0
 ·obtain⟨r02,g0,h0⟩:=ae h0
  simp(config:=cS)only[go_sem, *]
  have g0:=ctr g0
  refine ai g0 ?_
  obtain⟨_,h0⟩|⟨_,h0⟩:=itB h0
  ·obtain⟨q05,l0,h0⟩:=ae h0
   simp(config:=cS)only[go_sem, *]
   refine ag (m1:=.mk) (m2:=.mk) [.nf [1,5,16,17,18] []] (tM v l (l.length:Int)) l0 ?_ ?_
   ·simp(config:=cS)only[go_sem, *]
   have k0:=h0
   clear h0 l0
   intro _ s0 _ h0 gb0
   obtain⟨out_1,v18_1⟩:=s0
   unfold gi at h0
   try dsimp only at h0
   exact run
  exact run
 exact run⟩
@[go_sem] def hi227_1:DT:=.r2 0 10 .nil
def IX:Hint where
 acts:=fun _=>[]
 draws:=fun
  | 1=>⟨hi227_1,[[],[0],[],[0,1,2],[0,1,2,3],.range 5,[],[6],.range 8,.range 9],.range 10⟩
  | _=>⟨.nil,[],[]⟩
theorem Wg (i:Nat):IX.acts i=[]:=rfl
theorem Wh (i:Nat):IX.views i=none:=rfl
attribute[go_sem] Wg Wh ntmps227 results227
@[go_sem] theorem ZV:(IX.draws 1).order=hi227_1:=rfl
instance k227 {s:GShow} {v1:GState} {node:Int}:Ctr (dj s v1 node) (fun (res:Int)=>aj prog 227 [.agg (GShow.encS s),.agg (GState.encS v1),.lit (.int .i64 node)] [] (.lit (.int .i64 res)) []):=⟨by
 intro res h0
 refine co (hi:=IX) func227 rfl rfl ?_
 unfold dj at h0
 exact run⟩
@[go_sem] def hi226_1:DT:=.r2 0 14 .nil
def IY:Hint where
 acts:=fun _=>[]
 draws:=fun
  | 1=>⟨hi226_1,[[],[0],[],[2],[0,1,2,3],.range 5,[],[6],[],[8],[6,7,8,9],[6,7,8,9,10],.range 6,.range 13],[0,1,2,3,4,5,7,8,9,10,11,12,6,13]⟩
  | _=>⟨.nil,[],[]⟩
theorem Wi (i:Nat):IY.acts i=[]:=rfl
theorem Wj (i:Nat):IY.views i=none:=rfl
attribute[go_sem] Wi Wj ntmps226 results226
@[go_sem] theorem ZW:(IY.draws 1).order=hi226_1:=rfl
instance k226 {s:GShow} {v1:GState} {t:GTie}:Ctr (jh s v1 t) (fun (res:Bool)=>aj prog 226 [.agg (GShow.encS s),.agg (GState.encS v1),.agg (GTie.enc t)] [] (.lit (.bool res)) []):=⟨by
 intro res h0
 refine co (hi:=IY) func226 rfl rfl ?_
 unfold jh at h0
 exact run⟩
instance k225 {t:GTie} {s:GShow} {v2:GState}:Ctr (lP t s v2) (fun (res:Bool)=>aj prog 225 [.agg (GTie.enc t),.loc [.sl (ab GNode.encS s.nodes),.sl (ab GTie.enc s.ties),.lit (.int .i64 s.horizon)],.loc [.lit (.int .i64 v2.now),.sl (ab eI v2.times),.sl (ab eI v2.values)]] [] (.lit (.bool res)) []):=⟨by
 intro res h0
 refine co (hi:=hi00) func225 rfl rfl ?_
 unfold lP at h0
 exact run⟩
@[go_sem] def wu (v8:List Int)(v9:Int)(s_0:List GNode)(s_1:List GTie)(s_2 v3_0:Int)(v3_2:List Int)(v10:Int):St:=⟨[(2,.ptr 128 1 0 0),(3,.ptr 192 1 0 0),(8,.sl (ab eI v8)),(9,.lit (.int .i64 v9)),(10,.lit (.int .i64 v10))],[(128,1,.var [.sl (ab GNode.encS s_0),.sl (ab GTie.enc s_1),.lit (.int .i64 s_2)]),(192,1,.var [.lit (.int .i64 v3_0),.sl (ab eI v8),.sl (ab eI v3_2)])],2⟩
instance k129 {s:GShow} {v1:GState}:Ctr (kz s v1) (fun (res:Bool)=>aj prog 129 [.agg (GShow.encS s),.agg (GState.encS v1)] [] (.lit (.bool res)) []):=⟨by
 intro res h0
 refine co (hi:=hi00) func129 rfl rfl ?_
 unfold kz at h0
 obtain⟨q03,l0,h0⟩:=ae h0
 simp(config:=cS)only[go_sem, *]
 refine ag (m1:=.mk) (m2:=.mk) [.nf [2,3,8,9,10] [128,192]] (wu v1.times (v1.times.length:Int) s.nodes s.ties s.horizon v1.now v1.values) l0 ?_ ?_
 ·simp(config:=cS)only[go_sem, *]
 have k0:=h0
 clear h0 l0
 intro _ v10_1 _ h0 gb0
 unfold gT at h0
 try dsimp only at h0
 exact run⟩
instance k128 {s:GShow} {v1:GState}:Ctr (lQ s v1) (fun (res:Bool)=>aj prog 128 [.agg (GShow.encS s),.agg (GState.encS v1)] [] (.lit (.bool res)) []):=⟨by
 intro res h0
 refine co (hi:=hi00) func128 rfl rfl ?_
 unfold lQ at h0
 obtain⟨r01,g0,h0⟩:=ae h0
 simp(config:=cS)only[go_sem, *]
 refine ai (oc (by exact fun _ _ hr=>by have q:=ctr hr;exact q) (by refine⟨fun _=>?_,fun _=>?_⟩ <;> simp only[go_sem]) (fun _=>rfl) rfl g0) ?_
 exact run⟩
@[go_sem] def BV (v13:List Int)(v14 v1_0:Int)(v1_2:List Int):(Int × (List Int))→St
 | (v15,out)=>⟨[(1,.ptr 64 1 0 0),(3,.ref 704 1 0 out.length),(13,.sl (ab eI v13)),(14,.lit (.int .i64 v14)),(15,.lit (.int .i64 v15))],[(64,1,.var [.lit (.int .i64 v1_0),.sl (ab eI v13),.sl (ab eI v1_2)]),(704,1,.row true (ab (eK .u8) out))],2⟩
@[go_sem] def BW (v27:List Int)(v28:Int):(Int × (List Int))→St
 | (v29,out)=>⟨[(3,.ref 704 1 0 out.length),(27,.sl (ab eI v27)),(28,.lit (.int .i64 v28)),(29,.lit (.int .i64 v29))],[(704,1,.row true (ab (eK .u8) out))],2⟩
instance k293 {v0:GState}:Ctr (qj v0) (fun (res:ByteArray)=>aj prog 293 [.agg (GState.encS v0)] [] (.lit (.string res)) []):=⟨by
 intro res h0
 refine co (hi:=hi00) func293 rfl rfl ?_
 unfold qj at h0
 obtain⟨q04,l0,h0⟩:=ae h0
 simp(config:=cS)only[go_sem, *]
 refine ag (m1:=.mk) (m2:=.mk) [.nf [1,3,13,14,15] [64,704]] (BV v0.times (v0.times.length:Int) v0.now v0.values) l0 ?_ ?_
 ·simp(config:=cS)only[go_sem, *]
 have k0:=h0
 clear h0 l0
 intro _ s0 _ h0 gb0
 obtain⟨v15_1,out_1⟩:=s0
 unfold nM at h0
 try dsimp only at h0
 obtain⟨_,h0⟩|⟨_,h0⟩:=itP h0
 ·exact run
 cases h0
 obtain rfl:=(aE gb0).symm
 clear gb0
 have h0:=k0
 clear k0
 try dsimp only at h0
 obtain⟨q03,l0,h0⟩:=ae h0
 simp(config:=cS)only[go_sem, *]
 refine ag (m1:=.mk) (m2:=.mk) [.nf [3,27,28,29] [704]] (BW v0.values (v0.values.length:Int)) l0 ?_ ?_
 ·simp(config:=cS)only[go_sem, *]
 have k0:=h0
 clear h0 l0
 intro _ s0 _ h0 gb0
 obtain⟨v29_2,out_2⟩:=s0
 unfold nN at h0
 try dsimp only at h0
 exact run⟩
@[go_sem] def xA (v9:List GTie)(v10 v3_0:Int)(v3_1 v3_2:List Int):(Int × (List Int))→St
 | (v11,out)=>⟨[(3,.ptr 192 1 0 0),(5,.ref 383 1 0 out.length),(9,.sl (ab GTie.enc v9)),(10,.lit (.int .i64 v10)),(11,.lit (.int .i64 v11))],[(192,1,.var [.lit (.int .i64 v3_0),.sl (ab eI v3_1),.sl (ab eI v3_2)]),(383,1,.row true (ab eI out))],2⟩
instance k142 {s:GShow} {v1:GState}:Ctr (nL s v1) (fun (res:List Int)=>aj prog 142 [.agg (GShow.encS s),.agg (GState.encS v1)] [] (.ref 20000 1 0 res.length) [(20000,1,.row true (ab eI res))]):=⟨by
 intro res h0
 refine aB (ra:=[.home 4]) (md:=mdT) hT (hi:=hi00) func142 rfl rfl (by decide +kernel) (by simp) ?_
 unfold nL at h0
 obtain⟨q04,l0,h0⟩:=ae h0
 simp(config:=cS)only[go_sem, *]
 refine ag (m1:=.mk) (m2:=.mk) [.home 5,.nf [3,5,9,10,11] [192,383]] (xA s.ties (s.ties.length:Int) v1.now v1.times v1.values) l0 ?_ ?_
 ·simp(config:=cS)only[go_sem, *]
 have k0:=h0
 clear h0 l0
 intro _ s0 _ h0 gb0
 obtain⟨v11_1,out_1⟩:=s0
 unfold kQ at h0
 try dsimp only at h0
 exact run⟩
@[go_sem] def wv (set:Int)(v8:List Int)(v9:Int):(Int × (List Int))→St
 | (v10,out)=>⟨[(1,.lit (.int .i64 set)),(5,.ref 383 1 0 out.length),(8,.sl (ab eI v8)),(9,.lit (.int .i64 v9)),(10,.lit (.int .i64 v10))],[(383,1,.row true (ab eI out))],2⟩
instance k229 {list:List Int} {set:Int}:Ctr (ky list set) (fun (res:List Int)=>aj prog 229 [.sl (ab eI list),.lit (.int .i64 set)] [] (.ref 20000 1 0 res.length) [(20000,1,.row true (ab eI res))]):=⟨by
 intro res h0
 refine aB (ra:=[.home 4]) (md:=mdT) hT (hi:=hi00) func229 rfl rfl (by decide +kernel) (by simp) ?_
 unfold ky at h0
 obtain⟨q02,l0,h0⟩:=ae h0
 simp(config:=cS)only[go_sem, *]
 refine ag (m1:=.mk) (m2:=.mk) [.home 5,.nf [1,5,8,9,10] [383]] (wv set list (list.length:Int)) l0 ?_ ?_
 ·simp(config:=cS)only[go_sem, *]
 have k0:=h0
 clear h0 l0
 intro _ s0 _ h0 gb0
 obtain⟨v10_1,out_1⟩:=s0
 unfold jS at h0
 try dsimp only at h0
 exact run⟩
instance k289 {v1:Int}:Ctr (jT v1) (fun (res:List Int × Nat)=>aj prog 289 [.lit (.slice none 0 0),.lit (.int .i64 v1)] [] (.ref 20000 1 0 res.2) [(20000,1,.row true (ab eI res.1))]):=⟨by
 intro res h0
 refine aB (ra:=[.home 4]) (md:=mdT) hT (hi:=hi00) func289 rfl rfl (by decide +kernel) (by simp) ?_
 unfold jT at h0
 exact run⟩
@[go_sem] def sw (v0:List (List Int))(v10:Int):(Int × Int)→St
 | (v3,v11)=>⟨[(0,.sl (ab (eLS eI) v0)),(3,.lit (.int .i64 v3)),(9,.sl (ab (eLS eI) v0)),(10,.lit (.int .i64 v10)),(11,.lit (.int .i64 v11))],[],2⟩
@[go_sem] def sx (v25:List (List Int))(v26:Int):(Nat × Int × (List Int))→St
 | (v6_n,v27,v6)=>⟨[(6,.ref 1536 1 0 v6_n),(25,.sl (ab (eLS eI) v25)),(26,.lit (.int .i64 v26)),(27,.lit (.int .i64 v27))],[(1536,1,.row true (ab eI v6))],2⟩
instance k228 {v0:List (List Int)}:Ctr (ia v0) (fun (res:List Int)=>aj prog 228 [.sl (ab (eLS eI) v0)] [] (.ref 20000 1 0 res.length) [(20000,1,.row true (ab eI res))]):=⟨by
 intro res h0
 refine aB (ra:=[.home 2,.trimT 2]) (md:=mdT) hT (hi:=hi00) func228 rfl rfl (by decide +kernel) (by simp) ?_
 unfold ia at h0
 obtain⟨q05,l0,h0⟩:=ae h0
 simp(config:=cS)only[go_sem, *]
 refine ag (m1:=.mk) (m2:=.mk) [.nf [0,3,9,10,11] []] (sw v0 (v0.length:Int)) l0 ?_ ?_
 ·simp(config:=cS)only[go_sem, *]
 have k0:=h0
 clear h0 l0
 intro _ s0 _ h0 gb0
 obtain⟨v3_1,v11_1⟩:=s0
 unfold fe at h0
 try dsimp only at h0
 obtain⟨_,h0⟩|⟨_,h0⟩:=itP h0
 ·exact run
 cases h0
 obtain rfl:=(aE gb0).symm
 clear gb0
 have h0:=k0
 clear k0
 try dsimp only at h0
 obtain⟨r02,g0,h0⟩:=ae h0
 simp(config:=cS)only[go_sem, *]
 have g0:=ctr g0
 refine ai g0 ?_
 obtain⟨q04,l0,h0⟩:=ae h0
 simp(config:=cS)only[go_sem, *]
 refine ag (m1:=.mk) (m2:=.mk) [.nf [6,25,26,27] [1536]] (sx v0 (v0.length:Int)) l0 ?_ ?_
 ·simp(config:=cS)only[go_sem, *]
 have k0:=h0
 clear h0 l0
 intro _ s0 _ h0 gb0
 obtain⟨v6_n_2,v27_2,v6_2⟩:=s0
 unfold ff at h0
 try dsimp only at h0
 exact run⟩
instance k330 {v0:Int}:Ctr (tj v0) (fun (res:Int)=>aj prog 330 [.lit (.int .u64 v0)] [] (.lit (.int .i64 res)) []):=⟨by
 intro res h0
 refine co (hi:=hi00) func330 rfl rfl ?_
 unfold tj at h0
 exact run⟩
instance k291 {v0:Int}:Ctr (sy v0) (fun (res:Int)=>aj prog 291 [.lit (.int .u64 v0)] [] (.lit (.int .i64 res)) []):=⟨by
 intro res h0
 refine co (hi:=hi00) func291 rfl rfl ?_
 unfold sy at h0
 exact run⟩
instance k356 {v0:Int}:Ctr (lM v0) (fun (res:Bool)=>aj prog 356 [.lit (.int .i64 v0)] [] (.lit (.bool res)) []):=⟨by
 intro res h0
 refine co (hi:=hi00) func356 rfl rfl ?_
 unfold lM at h0
 exact run⟩
instance k326 {v0:Int} {v1:Int}:Ctr (mI v0 v1) (fun (res:Bool)=>aj prog 326 [.lit (.int .i64 v0),.lit (.int .i64 v1)] [] (.lit (.bool res)) []):=⟨by
 intro res h0
 refine co (hi:=hi00) func326 rfl rfl ?_
 unfold mI at h0
 exact run⟩
@[go_sem] def nm (zb0:Bool)(v1 v2 v6:Int):(Int × (List Int))→St
 | (v7,v0)=>⟨[(0,.ref 10000 0 0 v0.length),(1,.lit (.int .i64 v1)),(2,.lit (.int .i64 v2)),(6,.lit (.int .i64 v6)),(7,.lit (.int .i64 v7))],[(10000,0,.row zb0 (ab eI v0))],2⟩
@[go_sem] def nn (zb0:Bool)(v1 v2:Int):(Int × (List Int))→St
 | (v6,v0)=>⟨[(0,.ref 10000 0 0 v0.length),(1,.lit (.int .i64 v1)),(2,.lit (.int .i64 v2)),(6,.lit (.int .i64 v6))],[(10000,0,.row zb0 (ab eI v0))],2⟩
@[go_sem] def hi320_6:DT:=.r2 0 18 .nil
@[go_sem] def hi320_4:DT:=.r2 0 15 .nil
def Eh:Hint where
 acts:=fun _=>[]
 draws:=fun
  | 4=>⟨hi320_4,[[],[],[0,1],[0,1,2],[0,1,2,3],[0,1,2,3],.range 6,.range 7,[0,1,2,3],[0,1,2,3],[0,1,2,3,9],[0,1,2,3,8,9,10],[0,1,2,3,8,9,10,11],.range 13,.range 14],.range 15⟩
  | 6=>⟨hi320_6,[[],[],[],[],[3],[],[],[6],[5,6,7],[5,6,7,8],[],[],[10,11],[10,11,12],[0,1,5,6,7,8,9,10,11,12,13],[0,1,5,6,7,8,9,10,11,12,13,14],.range 16,.range 17],[0,1,13,14,15,2,3,4,5,6,7,8,9,10,11,12,16,17]⟩
  | _=>⟨.nil,[],[]⟩
theorem Wk (i:Nat):Eh.acts i=[]:=rfl
theorem Wl (i:Nat):Eh.views i=none:=rfl
attribute[go_sem] Wk Wl ntmps320 results320
@[go_sem] theorem ZX:(Eh.draws 4).order=hi320_4:=rfl
@[go_sem] theorem ZY:(Eh.draws 6).order=hi320_6:=rfl
theorem pj {v0:List Int}{v1 v2:Int}{zb0:Bool}{res:List Int}(h0:bV v0 v1 v2=some res):aj prog 320 [.ref 10000 0 0 v0.length,.lit (.int .i64 v1),.lit (.int .i64 v2)] [(10000,0,.row zb0 (ab eI v0))] (.tup []) [(10000,0,.row zb0 (ab eI res))]:=by
 refine co (hi:=Eh) func320 rfl rfl ?_
 unfold bV at h0
 obtain⟨q06,l0,h0⟩:=ae h0
 simp(config:=cS)only[go_sem, *]
 refine ag (m1:=.mk) (m2:=.mk) [.nf [0,1,2,6] [10000]] (nn zb0 v1 v2) l0 ?_ ?_
 ·simp(config:=cS)only[go_sem, *]
 have k0:=h0
 clear h0 l0
 intro _ s0 _ h0 gb0
 obtain⟨v6_1,v0_1⟩:=s0
 unfold bo at h0
 try dsimp only at h0
 obtain⟨_,h0⟩|⟨_,h0⟩:=itP h0
 ·obtain⟨q05,l0,h0⟩:=ae h0
  simp(config:=cS)only[go_sem, *]
  refine ag (m1:=.mk) (m2:=.mk) [.nf [0,1,2,6,7] [10000]] (nm zb0 v1 v2 v6_1) l0 ?_ ?_
  ·simp(config:=cS)only[go_sem, *]
  have k0:=h0
  clear h0 l0
  intro _ s0 _ h0 gb0
  obtain⟨v7_2,v0_2⟩:=s0
  unfold aW at h0
  try dsimp only at h0
  exact run
 exact run
@[go_sem] def pk (zb0:Bool)(v1 v2 v3:Int)(v0:List Int)(_:Unit):St:=⟨[(0,.ref 10000 0 0 v0.length),(1,.lit (.int .i64 v1)),(2,.lit (.int .i64 v2)),(3,.lit (.int .i64 v3)),(8,.lit (.bool true)),(9,.lit (.bool true))],[(10000,0,.row zb0 (ab eI v0))],2⟩
@[go_sem] def hi290_17:DT:=.r2 0 15 .nil
def IZ:Hint where
 acts:=fun _=>[]
 draws:=fun
  | 17=>⟨hi290_17,[[],[0],[0,1],[0,1,2],[0,1,2],[0,1,2,4],.range 6,.range 7,[0,1,2],[0,1,2],[0,1,2,8,9],[0,1,2,8,9,10],.range 12,.range 13,.range 14],.range 15⟩
  | _=>⟨.nil,[],[]⟩
theorem Wm (i:Nat):IZ.acts i=[]:=rfl
theorem Wn (i:Nat):IZ.views i=none:=rfl
attribute[go_sem] Wm Wn ntmps290 results290
@[go_sem] theorem YG:(IZ.draws 17).order=hi290_17:=rfl
theorem rq {v0:List Int}{v1 v2 v3:Int}{zb0:Bool}{res:List Int}(h0:cR v0 v1 v2 v3=some res):aj prog 290 [.ref 10000 0 0 v0.length,.lit (.int .i64 v1),.lit (.int .i64 v2),.lit (.int .i64 v3)] [(10000,0,.row zb0 (ab eI v0))] (.tup []) [(10000,0,.row zb0 (ab eI res))]:=by
 refine co (hi:=IZ) func290 rfl rfl ?_
 unfold cR at h0
 obtain⟨q02,l0,h0⟩:=ae h0
 simp(config:=cS)only[go_sem, *]
 refine ag (m1:=.mk) (m2:=.mk) [.nf [0,1,2,3,8,9] [10000]] (pk zb0 v1 v2 v3 v0) l0 ?_ ?_
 ·simp(config:=cS)only[go_sem, *]
 have k0:=h0
 clear h0 l0
 intro _ s0 _ h0 gb0
 unfold gu at h0
 try dsimp only at h0
 obtain⟨_,h0⟩|⟨_,h0⟩:=itP h0
 ·obtain⟨r01,g0,h0⟩:=ae h0
  simp(config:=cS)only[go_sem, *]
  refine ai (pj g0) ?_
  exact run
 exact run
theorem rX {v0:List Int}{zb0:Bool}{res:List Int}(h0:cF v0=some res):aj prog 230 [.ref 10000 0 0 v0.length] [(10000,0,.row zb0 (ab eI v0))] (.tup []) [(10000,0,.row zb0 (ab eI res))]:=by
 refine co (hi:=hi00) func230 rfl rfl ?_
 unfold cF at h0
 obtain⟨r01,g0,h0⟩:=ae h0
 simp(config:=cS)only[go_sem, *]
 have g0:=ctr g0
 refine ai g0 ?_
 obtain⟨r02,g0,h0⟩:=ae h0
 simp(config:=cS)only[go_sem, *]
 refine ai (rq g0) ?_
 exact run
@[go_sem] def ww (v21:Int)(s_0:List GNode)(s_1:List GTie)(s_2 v3_0:Int)(v3_1 v3_2 v20:List Int):(Int × (List Int) × (List Int))→St
 | (v22,must,may)=>⟨[(2,.ptr 128 1 0 0),(3,.ptr 192 1 0 0),(5,.ref 383 1 0 must.length),(6,.ref 447 1 0 may.length),(20,.ref 1280 1 0 v20.length),(21,.lit (.int .i64 v21)),(22,.lit (.int .i64 v22))],[(128,1,.var [.sl (ab GNode.encS s_0),.sl (ab GTie.enc s_1),.lit (.int .i64 s_2)]),(192,1,.var [.lit (.int .i64 v3_0),.sl (ab eI v3_1),.sl (ab eI v3_2)]),(383,1,.row true (ab eI must)),(447,1,.row true (ab eI may)),(1280,1,.row true (ab eI v20))],2⟩
@[go_sem] def wx (must may:List Int):(Int × (List (List Int)))→St
 | (set,out)=>⟨[(5,.ref 383 1 0 must.length),(6,.ref 447 1 0 may.length),(10,.ref 703 1 0 out.length),(11,.lit (.int .i64 set))],[(383,1,.tree (ab eI must)),(447,1,.row true (ab eI may)),(703,1,.row true (ab (eLO eI) out))],2⟩
@[go_sem] def hi131_7:DT:=.r2 0 14 .nil
def Ja:Hint where
 acts:=fun _=>[]
 draws:=fun
  | 7=>⟨hi131_7,[[],[0],[],[2],[],[4],[],[4,5,6],[4,5,6,7],[4,5,6,7,8],[2,3,4,5,6,7,8,9],[2,3,4,5,6,7,8,9,10],.range 12,.range 13],.range 14⟩
  | _=>⟨.nil,[],[]⟩
theorem Wo (i:Nat):Ja.acts i=[]:=rfl
theorem Wp (i:Nat):Ja.views i=none:=rfl
attribute[go_sem] Wo Wp ntmps131 results131
@[go_sem] theorem ZZ:(Ja.draws 7).order=hi131_7:=rfl
instance k131 {s:GShow} {v1:GState}:Ctr (mJ s v1) (fun (res:List (List Int))=>aj prog 131 [.agg (GShow.encS s),.agg (GState.encS v1)] [] (.ref 20000 1 0 res.length) [(20000,1,.row true (ab (eLO eI) res))]):=⟨by
 intro res h0
 refine aB (ra:=[.home 4]) (md:=mdT) hT (hi:=Ja) func131 rfl rfl (by decide +kernel) (by simp) ?_
 unfold mJ at h0
 obtain⟨_,h0⟩|⟨_,h0⟩:=itP h0
 ·exact run
 obtain⟨r01,g0,h0⟩:=ae h0
 simp(config:=cS)only[go_sem, *]
 have g0:=ctr g0
 refine ai g0 ?_
 obtain⟨q09,l0,h0⟩:=ae h0
 simp(config:=cS)only[go_sem, *]
 refine ag (m1:=.mk) (m2:=.mk) [.home 5,.home 6,.nf [2,3,5,6,20,21,22] [128,192,383,447,1280]] (ww (r01.length:Int) s.nodes s.ties s.horizon v1.now v1.times v1.values r01) l0 ?_ ?_
 ·simp(config:=cS)only[go_sem, *]
 have k0:=h0
 clear h0 l0
 intro _ s0 _ h0 gb0
 obtain⟨v22_1,must_1,may_1⟩:=s0
 unfold jU at h0
 try dsimp only at h0
 obtain⟨_,h0⟩|⟨_,h0⟩:=itP h0
 ·exact run
 cases h0
 obtain rfl:=(aE gb0).symm
 clear gb0
 have h0:=k0
 clear k0
 try dsimp only at h0
 obtain⟨q08,l0,h0⟩:=ae h0
 simp(config:=cS)only[go_sem, *]
 refine ag (m1:=.mk) (m2:=.mk) [.home 10,.freeze [383],.nf [5,6,10,11] [383,447,703]] (wx must_1 may_1) l0 ?_ ?_
 ·simp(config:=cS)only[go_sem, *]
 have k0:=h0
 clear h0 l0
 intro _ s0 _ h0 gb0
 obtain⟨set_2,out_2⟩:=s0
 unfold jV at h0
 try dsimp only at h0
 obtain⟨_,h0⟩:=ckN h0
 obtain⟨_,h0⟩|⟨_,h0⟩:=itP h0
 ·obtain⟨r05,g0,h0⟩:=ae h0
  simp(config:=cS)only[go_sem, *]
  have g0:=ctr g0
  refine ai g0 ?_
  obtain⟨r06,g0,h0⟩:=ae h0
  simp(config:=cS)only[go_sem, *]
  have g0:=ctr g0
  refine ai g0 ?_
  obtain⟨r07,g0,h0⟩:=ae h0
  simp(config:=cS)only[go_sem, *]
  refine ai (rX g0) ?_
  exact run
 exact run⟩
instance k94 {v0:List Int}:Ctr (fQ v0) (fun (res:List Int)=>aj prog 94 [.sl (ab eI v0)] [] (.ref 20000 1 0 res.length) [(20000,1,.row true (ab eI res))]):=⟨by
 intro res h0
 refine aB (ra:=[.home 2]) (md:=mdT) hT (hi:=hi00) func94 rfl rfl (by decide +kernel) (by simp) ?_
 unfold fQ at h0
 obtain⟨_,h0,_⟩|⟨a0,h0⟩:=Ox h0
 ·exact run
 have:=fun (e:_→List AV)=>MZ (e:=e) a0
 exact run⟩
@[go_sem] def hi202_1:DT:=.i1 0 (.i1 1 (.i2 2 (.i2 3 (.i1 5 (.i1 6 (.i0 4 [0,1,5,6] (.i0 7 [0,1] (.i2 8 (.i2 9 .nil)))))))))
def Jb:Hint where
 acts:=fun _=>[]
 draws:=fun
  | 1=>⟨hi202_1,[[],[0],[],[2],[2,3],[],[5],[2,3,4,5,6],.range 8,.range 9],.range 10⟩
  | _=>⟨.nil,[],[]⟩
theorem Wq (i:Nat):Jb.acts i=[]:=rfl
theorem Wr (i:Nat):Jb.views i=none:=rfl
attribute[go_sem] Wq Wr ntmps202 results202
@[go_sem] theorem aaa:(Jb.draws 1).order=hi202_1:=rfl
instance k202 {v0:GState}:Ctr (fq v0) (fun (res:GState)=>aj prog 202 [.agg (GState.encS v0)] [] (.agg [.lit (.int .i64 res.now),.ref 20000 1 0 res.times.length,.ref 20001 1 0 res.values.length]) [(20000,1,.row true (ab eI res.times)),(20001,1,.row true (ab eI res.values))]):=⟨by
 intro res h0
 refine aB (ra:=[.homeCell 128 1,.homeCell 128 2]) (md:=mdT) hT (hi:=Jb) func202 rfl rfl (by decide +kernel) (by simp) ?_
 unfold fq at h0
 exact run⟩
@[go_sem] def yw (v12:List Int)(v13:Int)(s_0:List GNode)(s_1:List GTie)(s_2 v4_0:Int)(v4_1 v4_2:List Int)(out_0:Int)(h705:List Int):(Int × (List Int))→St
 | (v14,h704)=>⟨[(3,.ptr 192 1 0 0),(4,.ptr 256 1 0 0),(6,.ptr 384 1 0 0),(7,.ptr 448 1 0 0),(12,.sl (ab eI v12)),(13,.lit (.int .i64 v13)),(14,.lit (.int .i64 v14))],[(192,1,.var [.sl (ab GNode.encS s_0),.sl (ab GTie.enc s_1),.lit (.int .i64 s_2)]),(256,1,.var [.lit (.int .i64 v4_0),.sl (ab eI v4_1),.sl (ab eI v4_2)]),(384,1,.var [.lit (.int .i64 0),.lit (.slice none 0 0),.lit (.slice none 0 0)]),(448,1,.var [.lit (.int .i64 out_0),.ref 704 1 0 h704.length,.ref 705 1 0 h705.length]),(704,1,.row true (ab eI h704)),(705,1,.row true (ab eI h705))],2⟩
@[go_sem] def hi132_5:DT:=.r2 0 12 .nil
def Jc:Hint where
 acts:=fun _=>[]
 draws:=fun
  | 5=>⟨hi132_5,[[],[0],[],[2],[],[2,3,4],[2,3,4,5],[2,3,4,5,6],[],[8],.range 10,.range 11],.range 12⟩
  | _=>⟨.nil,[],[]⟩
theorem Ws (i:Nat):Jc.acts i=[]:=rfl
theorem Wt (i:Nat):Jc.views i=none:=rfl
attribute[go_sem] Ws Wt ntmps132 results132
@[go_sem] theorem aab:(Jc.draws 5).order=hi132_5:=rfl
instance k132 {s:GShow} {v1:GState} {ties:List Int}:Ctr (oD s v1 ties) (fun (res:GState)=>aj prog 132 [.agg (GShow.encS s),.agg (GState.encS v1),.sl (ab eI ties)] [] (.agg [.lit (.int .i64 res.now),.ref 20000 1 0 res.times.length,.ref 20001 1 0 res.values.length]) [(20000,1,.row true (ab eI res.times)),(20001,1,.row true (ab eI res.values))]):=⟨by
 intro res h0
 refine aB (ra:=[.homeCell 384 1,.homeCell 384 2]) (md:=mdT) hT (hi:=Jc) func132 rfl rfl (by decide +kernel) (by simp) ?_
 unfold oD at h0
 obtain⟨r01,g0,h0⟩:=ae h0
 simp(config:=cS)only[go_sem, *]
 have g0:=ctr g0
 refine ai g0 ?_
 obtain⟨q05,l0,h0⟩:=ae h0
 simp(config:=cS)only[go_sem, *]
 refine ag (m1:=.mk) (m2:=.mk) [.nf [3,4,6,7,12,13,14] [192,256,384,448,704,705]] (yw ties (ties.length:Int) s.nodes s.ties s.horizon v1.now v1.times v1.values r01.now r01.values) l0 ?_ ?_
 ·simp(config:=cS)only[go_sem, *]
 have k0:=h0
 clear h0 l0
 intro _ s0 _ h0 gb0
 obtain⟨v14_1,h704_1⟩:=s0
 unfold lN at h0
 try dsimp only at h0
 exact run⟩
@[go_sem] def qC (zb0:Bool)(f_v1:Nat)(k_v1:List AV):(Int × Int × (List Int))→St
 | (v5,v6,v0)=>⟨[(0,.ref 10000 0 0 v0.length),(1,.fn f_v1 k_v1),(5,.lit (.int .i64 v5)),(6,.lit (.int .i64 v6))],[(10000,0,.row zb0 (ab eI v0))],2⟩
theorem tN {v0:List Int}{v1:Int→Option Bool}{zb0:Bool}{f_v1:Nat}{k_v1:List AV}(hp_v1:∀ y0 r,v1 y0=some r→aj prog f_v1 ([.lit (.int .i64 y0)]++k_v1) [] (.lit (.bool r)) [])(hc_v1:KC k_v1)(hm_v1:∀ a,mdT f_v1 a=⟨[],false⟩)(hk_v1:spf f_v1=false){res:List Int}(h:eE v0 v1=some res):aj prog 141 [.ref 10000 0 0 v0.length,.fn f_v1 k_v1] [(10000,0,.row zb0 (ab eI v0))] (.ref 10000 0 0 res.length) [(10000,0,.row false (ab eI res))]:=by
 refine aB (ra:=[.home 4,.trim 4]) (md:=mdT) hT (hi:=hi00) func141 rfl rfl (by decide +kernel) (by simp) ?_
 unfold eE at h
 obtain⟨r01,g1,h⟩:=ae h
 simp(config:=cS)only[go_sem,hc_v1.1,hc_v1.2,hm_v1,hk_v1]
 refine ai (pi hp_v1 hc_v1 hm_v1 hk_v1 g1) ?_
 obtain⟨h2,h⟩|⟨h2,h⟩:=aT h
 ·cases h
  simp(config:=cS)only[go_sem,hc_v1.1,hc_v1.2,hm_v1,hk_v1,eqT h2]
 obtain⟨q05,l3,h⟩:=ae h
 simp(config:=cS)only[go_sem,hc_v1.1,hc_v1.2,hm_v1,hk_v1,eqF h2]
 refine ag (m1:=.mk) (m2:=.mk) [.nf [0,1,5,6] [10000]] (qC zb0 f_v1 k_v1) l3 ?_ ?_
 ·simp(config:=cS)only[go_sem,hc_v1.1,hc_v1.2,hm_v1,hk_v1,eqF h2]
 intro nb4 sb4 bb4 b4 gb4
 obtain⟨v5_1,v6_1,v0_1⟩:=sb4
 unfold dn at b4
 try dsimp only at b4
 obtain⟨h5,b4⟩|⟨h5,b4⟩:=aT b4
 ·obtain⟨x02,g6,b4⟩:=ae b4
  obtain⟨h7,h8,h9⟩:=eO g6
  obtain⟨r03,g10,b4⟩:=ae b4
  simp(config:=cS)only[go_sem,hc_v1.1,hc_v1.2,hm_v1,hk_v1,eqF h2,eqT h5,h7,h8,h9]
  refine ai (hp_v1 _ _ g10) ?_
  obtain⟨h11,b4⟩|⟨h11,b4⟩:=aT b4
  ·cases b4
   simp(config:=cS)only[go_sem,hc_v1.1,hc_v1.2,hm_v1,hk_v1,eqF h2,eqT h5,h7,h8,h9,eZt h11]
   refine fz gb4 ?_
   simp(config:=cS)only[go_sem,hc_v1.1,hc_v1.2,hm_v1,hk_v1,eqF h2,eqT h5,h7,h8,h9,eZt h11]
  obtain⟨x04,g12,b4⟩:=ae b4
  obtain⟨h13,h14,h15⟩:=eO g12
  cases b4
  simp(config:=cS)only[go_sem,hc_v1.1,hc_v1.2,hm_v1,hk_v1,eqF h2,eqT h5,h7,h8,h9,eZf h11,h13,h14,h15]
  refine fz gb4 ?_
  simp(config:=cS)only[go_sem,hc_v1.1,hc_v1.2,hm_v1,hk_v1,eqF h2,eqT h5,h7,h8,h9,eZf h11,h13,h14,h15]
 cases b4
 obtain rfl:=(aE gb4).symm
 try dsimp only at h
 obtain⟨h17,h⟩:=cL h
 obtain⟨h18,h⟩:=cL h
 obtain⟨h19,h⟩:=cL h
 cases h
 simp(config:=cS)only[go_sem,hc_v1.1,hc_v1.2,hm_v1,hk_v1,eqF h2,eqF h5,eqT h17,eqT h18,eqT h19]
instance k292 {i:Int} {v1:GState} {s:GShow}:Ctr (ml i v1 s) (fun (res:Bool)=>aj prog 292 [.lit (.int .i64 i),.loc [.lit (.int .i64 v1.now),.sl (ab eI v1.times),.sl (ab eI v1.values)],.loc [.sl (ab GNode.encS s.nodes),.sl (ab GTie.enc s.ties),.lit (.int .i64 s.horizon)]] [] (.lit (.bool res)) []):=⟨by
 intro res h0
 refine co (hi:=hi00) func292 rfl rfl ?_
 unfold ml at h0
 exact run⟩
instance k231 {s:GShow} {v1:GState}:Ctr (mK s v1) (fun (res:List Int)=>aj prog 231 [.agg (GShow.encS s),.agg (GState.encS v1)] [] (.ref 20000 1 0 res.length) [(20000,1,.row false (ab eI res))]):=⟨by
 intro res h0
 refine aB (ra:=[.home 4,.trim 4]) (md:=mdT) hT (hi:=hi00) func231 rfl rfl (by decide +kernel) (by simp) ?_
 unfold mK at h0
 obtain⟨r01,g0,h0⟩:=ae h0
 simp(config:=cS)only[go_sem, *]
 have g0:=ctr g0
 refine ai g0 ?_
 obtain⟨r02,g0,h0⟩:=ae h0
 simp(config:=cS)only[go_sem, *]
 refine ai (tN (by exact fun _ _ hr=>by have q:=ctr hr;exact q) (by refine⟨fun _=>?_,fun _=>?_⟩ <;> simp only[go_sem]) (fun _=>rfl) rfl g0) ?_
 exact run⟩
@[go_sem] def uB (nodes:List Int):(Int × (List (List Int)))→St
 | (set,out)=>⟨[(5,.ref 640 1 0 nodes.length),(6,.ref 447 1 0 out.length),(7,.lit (.int .i64 set))],[(640,1,.row false (ab eI nodes)),(447,1,.row true (ab (eLO eI) out))],2⟩
instance k278 {s:GShow} {v1:GState}:Ctr (kS s v1) (fun (res:List (List Int))=>aj prog 278 [.agg (GShow.encS s),.agg (GState.encS v1)] [] (.ref 20000 1 0 res.length) [(20000,1,.row true (ab (eLO eI) res))]):=⟨by
 intro res h0
 refine aB (ra:=[.home 4]) (md:=mdT) hT (hi:=hi00) func278 rfl rfl (by decide +kernel) (by simp) ?_
 unfold kS at h0
 obtain⟨r01,g0,h0⟩:=ae h0
 simp(config:=cS)only[go_sem, *]
 have g0:=ctr g0
 refine ai g0 ?_
 obtain⟨_,h0⟩:=ckN h0
 obtain⟨q03,l0,h0⟩:=ae h0
 simp(config:=cS)only[go_sem, *]
 refine ag (m1:=.mk) (m2:=.mk) [.home 6,.nf [5,6,7] [640,447]] (uB r01) l0 ?_ ?_
 ·simp(config:=cS)only[go_sem, *]
 have k0:=h0
 clear h0 l0
 intro _ s0 _ h0 gb0
 obtain⟨set_1,out_1⟩:=s0
 unfold ib at h0
 try dsimp only at h0
 exact run⟩
@[go_sem] def wy (v14:List Int)(v15:Int)(s_0:List GNode)(s_1:List GTie)(s_2 v4_0:Int)(v4_1 v4_2:List Int)(out_0:Int)(h833:List Int):(Int × (List Int) × (List Int))→St
 | (v16,props,h832)=>⟨[(3,.ptr 192 1 0 0),(4,.ptr 256 1 0 0),(6,.ptr 384 1 0 0),(8,.ptr 512 1 0 0),(9,.ref 639 1 0 props.length),(14,.sl (ab eI v14)),(15,.lit (.int .i64 v15)),(16,.lit (.int .i64 v16))],[(192,1,.var [.sl (ab GNode.encS s_0),.sl (ab GTie.enc s_1),.lit (.int .i64 s_2)]),(256,1,.var [.lit (.int .i64 v4_0),.sl (ab eI v4_1),.sl (ab eI v4_2)]),(384,1,.var [.lit (.int .i64 0),.lit (.slice none 0 0),.lit (.slice none 0 0)]),(512,1,.var [.lit (.int .i64 out_0),.ref 832 1 0 h832.length,.ref 833 1 0 h833.length]),(832,1,.row true (ab eI h832)),(833,1,.row true (ab eI h833)),(639,1,.row true (ab eI props))],2⟩
instance k134 {s:GShow} {v1:GState} {nodes:List Int}:Ctr (mL s v1 nodes) (fun (res:GState × (List Int))=>aj prog 134 [.agg (GShow.encS s),.agg (GState.encS v1),.sl (ab eI nodes)] [] (.tup [.agg [.lit (.int .i64 res.1.now),.ref 20000 1 0 res.1.times.length,.ref 20001 1 0 res.1.values.length],.ref 20002 1 0 res.2.length]) [(20000,1,.row true (ab eI res.1.times)),(20001,1,.row true (ab eI res.1.values)),(20002,1,.row true (ab eI res.2))]):=⟨by
 intro res h0
 refine aB (ra:=[.homeCell 384 1,.homeCell 384 2,.home 7]) (md:=mdT) hT (hi:=hi00) func134 rfl rfl (by decide +kernel) (by simp) ?_
 unfold mL at h0
 obtain⟨r01,g0,h0⟩:=ae h0
 simp(config:=cS)only[go_sem, *]
 have g0:=ctr g0
 refine ai g0 ?_
 obtain⟨q06,l0,h0⟩:=ae h0
 simp(config:=cS)only[go_sem, *]
 refine ag (m1:=.mk) (m2:=.mk) [.home 9,.nf [3,4,6,8,9,14,15,16] [192,256,384,512,832,833,639]] (wy nodes (nodes.length:Int) s.nodes s.ties s.horizon v1.now v1.times v1.values r01.now r01.values) l0 ?_ ?_
 ·simp(config:=cS)only[go_sem, *]
 have k0:=h0
 clear h0 l0
 intro _ s0 _ h0 gb0
 obtain⟨v16_1,props_1,h832_1⟩:=s0
 unfold jW at h0
 try dsimp only at h0
 obtain⟨_,h0⟩|⟨_,h0⟩:=itP h0
 ·exact run
 cases h0
 obtain rfl:=(aE gb0).symm
 clear gb0
 have h0:=k0
 clear k0
 try dsimp only at h0
 obtain⟨r05,g0,h0⟩:=ae h0
 simp(config:=cS)only[go_sem, *]
 refine ai (rX g0) ?_
 exact run⟩
@[go_sem] def rr (props:List Int)(v10 v11:Int):St:=⟨[(0,.sl (ab eI props)),(9,.sl (ab eI props)),(10,.lit (.int .i64 v10)),(11,.lit (.int .i64 v11))],[],2⟩
@[go_sem] def rt (props:List Int)(n v44:Int)(out:List (List Int)):(Int × (List Int))→St
 | (v45,values)=>⟨[(0,.sl (ab eI props)),(5,.ref 383 1 0 out.length),(6,.lit (.int .i64 n)),(7,.ref 511 1 0 values.length),(44,.lit (.int .i64 v44)),(45,.lit (.int .i64 v45))],[(383,1,.row true (ab (eLO eI) out)),(511,1,.row true (ab eI values))],2⟩
@[go_sem] def ru (props:List Int):(Int × (List (List Int)))→St
 | (n,out)=>⟨[(0,.sl (ab eI props)),(5,.ref 383 1 0 out.length),(6,.lit (.int .i64 n))],[(383,1,.row true (ab (eLO eI) out))],2⟩
instance k136 {props:List Int}:Ctr (fR props) (fun (res:List (List Int))=>aj prog 136 [.sl (ab eI props)] [] (.ref 20000 1 0 res.length) [(20000,1,.row true (ab (eLO eI) res))]):=⟨by
 intro res h0
 refine aB (ra:=[.home 2]) (md:=mdT) hT (hi:=hi00) func136 rfl rfl (by decide +kernel) (by simp) ?_
 unfold fR at h0
 obtain⟨q05,l0,h0⟩:=ae h0
 simp(config:=cS)only[go_sem, *]
 refine ag (m1:=.mk) (m2:=.mk) [.nf [0,9,10,11] []] (rr props (props.length:Int)) l0 ?_ ?_
 ·simp(config:=cS)only[go_sem, *]
 have k0:=h0
 clear h0 l0
 intro _ v11_1 _ h0 gb0
 unfold dS at h0
 try dsimp only at h0
 obtain⟨_,h0⟩|⟨_,h0⟩:=itP h0
 ·exact run
 cases h0
 obtain rfl:=(aE gb0).symm
 clear gb0
 have h0:=k0
 clear k0
 try dsimp only at h0
 obtain⟨q04,l0,h0⟩:=ae h0
 simp(config:=cS)only[go_sem, *]
 refine ag (m1:=.mk) (m2:=.mk) [.home 5,.nf [0,5,6] [383]] (ru props) l0 ?_ ?_
 ·simp(config:=cS)only[go_sem, *]
 have k0:=h0
 clear h0 l0
 intro _ s0 _ h0 gb0
 obtain⟨n_2,out_2⟩:=s0
 unfold dU at h0
 try dsimp only at h0
 obtain⟨_,h0⟩:=ckN h0
 obtain⟨_,h0⟩|⟨_,h0⟩:=itP h0
 ·obtain⟨q03,l0,h0⟩:=ae h0
  simp(config:=cS)only[go_sem, *]
  refine ag (m1:=.mk) (m2:=.mk) [.home 7,.nf [0,5,6,7,44,45] [383,511]] (rt props n_2 (props.length:Int) out_2) l0 ?_ ?_
  ·simp(config:=cS)only[go_sem, *]
  have k0:=h0
  clear h0 l0
  intro _ s0 _ h0 gb0
  obtain⟨v45_3,values_3⟩:=s0
  unfold dT at h0
  try dsimp only at h0
  exact run
 exact run⟩
@[go_sem] def vk (values v12:List Int)(v13 out_0:Int)(h704:List Int):(Int × (List Int))→St
 | (v14,h705)=>⟨[(2,.sl (ab eI values)),(6,.ptr 384 1 0 0),(7,.ptr 448 1 0 0),(12,.sl (ab eI v12)),(13,.lit (.int .i64 v13)),(14,.lit (.int .i64 v14))],[(384,1,.var [.lit (.int .i64 0),.lit (.slice none 0 0),.lit (.slice none 0 0)]),(448,1,.var [.lit (.int .i64 out_0),.ref 704 1 0 h704.length,.ref 705 1 0 h705.length]),(704,1,.row true (ab eI h704)),(705,1,.row true (ab eI h705))],2⟩
@[go_sem] def hi138_5:DT:=.r2 0 10 .nil
def Jd:Hint where
 acts:=fun _=>[]
 draws:=fun
  | 5=>⟨hi138_5,[[],[0],[],[2],[],[],[4,5],[4,5,6],.range 8,.range 9],.range 10⟩
  | _=>⟨.nil,[],[]⟩
theorem Wu (i:Nat):Jd.acts i=[]:=rfl
theorem Wv (i:Nat):Jd.views i=none:=rfl
attribute[go_sem] Wu Wv ntmps138 results138
@[go_sem] theorem aac:(Jd.draws 5).order=hi138_5:=rfl
instance k138 {v0:GState} {props:List Int} {values:List Int}:Ctr (lO v0 props values) (fun (res:GState)=>aj prog 138 [.agg (GState.encS v0),.sl (ab eI props),.sl (ab eI values)] [] (.agg [.lit (.int .i64 res.now),.ref 20000 1 0 res.times.length,.ref 20001 1 0 res.values.length]) [(20000,1,.row true (ab eI res.times)),(20001,1,.row true (ab eI res.values))]):=⟨by
 intro res h0
 refine aB (ra:=[.homeCell 384 1,.homeCell 384 2]) (md:=mdT) hT (hi:=Jd) func138 rfl rfl (by decide +kernel) (by simp) ?_
 unfold lO at h0
 obtain⟨r01,g0,h0⟩:=ae h0
 simp(config:=cS)only[go_sem, *]
 have g0:=ctr g0
 refine ai g0 ?_
 obtain⟨q05,l0,h0⟩:=ae h0
 simp(config:=cS)only[go_sem, *]
 refine ag (m1:=.mk) (m2:=.mk) [.nf [2,6,7,12,13,14] [384,448,704,705]] (vk values props (props.length:Int) r01.now r01.times) l0 ?_ ?_
 ·simp(config:=cS)only[go_sem, *]
 have k0:=h0
 clear h0 l0
 intro _ s0 _ h0 gb0
 obtain⟨v14_1,h705_1⟩:=s0
 unfold jg at h0
 try dsimp only at h0
 exact run⟩
@[go_sem] def oA (v23 next_0:Int)(h1152 h1153 props:List Int)(v22:List (List Int))(g_0:List GNode)(g_1:List GTie)(g_2:Int):(Int × (List (ByteArray × Bool)))→St
 | (v24,h10001)=>⟨[(0,.ptr 10000 0 0 0),(7,.ptr 448 1 0 0),(8,.ref 1154 1 0 props.length),(22,.ref 1408 1 0 v22.length),(23,.lit (.int .i64 v23)),(24,.lit (.int .i64 v24))],[(10000,0,.var [.sl (ab GNode.encS g_0),.sl (ab GTie.enc g_1),.lit (.int .i64 g_2),.mp 10001 0]),(10001,0,.map (eM h10001)),(448,1,.var [.lit (.int .i64 next_0),.ref 1152 1 0 h1152.length,.ref 1153 1 0 h1153.length]),(1152,1,.row true (ab eI h1152)),(1153,1,.row true (ab eI h1153)),(1154,1,.row true (ab eI props)),(1408,1,.tree (ab (eLS eI) v22))],2⟩
@[go_sem] def hi279_1:DT:=.i2 0 (.i1 1 (.i1 2 (.i1 3 (.i1 4 (.i2 5 (.fork (.i2 6 (.i2 7 (.i2 8 (.i2 9 (.i0 10 [1,2,3,4] (.i2 11 (.i2 12 .nil))))))) (.i0 10 [1,2,3,4] (.i2 6 (.i2 7 (.i2 8 (.i2 9 (.i2 11 (.i2 12 .nil)))))))))))))
def Je:Hint where
 acts:=fun _=>[]
 draws:=fun
  | 1=>⟨hi279_1,[[],[0],[0,1],[0,1,2],[],[],.range 6,.range 7,.range 8,.range 8,[],[0,1,2,3,4,5,6,7,8,10],.range 12],[0,1,2,3,4,5,6,7,8,11,9,10,12]⟩
  | _=>⟨.nil,[],[]⟩
@[go_sem] theorem aaF (i:Nat):Je.acts i=[]:=rfl
theorem Ww (i:Nat):Je.views i=none:=rfl
attribute[go_sem] Ww ntmps279 results279
@[go_sem] theorem aad:(Je.draws 1).order=hi279_1:=rfl
theorem wz {rec:GShow→(List (ByteArray × Bool))→GState→Option (Bool × (List (ByteArray × Bool)))}(hrec:∀ {g_s:GShow} {g_known:List (ByteArray × Bool)} {v1:GState} {res:Bool × (List (ByteArray × Bool))},rec g_s g_known v1=some res→aj prog 232 [.ptr 10000 0 0 0,.agg (GState.encS v1)] [(10000,0,.var [.sl (ab GNode.encS g_s.nodes),.sl (ab GTie.enc g_s.ties),.lit (.int .i64 g_s.horizon),.mp 10001 0]),(10001,0,.map (eM g_known))] (.lit (.bool res.1)) [(10000,0,.var [.sl (ab GNode.encS g_s.nodes),.sl (ab GTie.enc g_s.ties),.lit (.int .i64 g_s.horizon),.mp 10001 0]),(10001,0,.map (eM res.2))]){g_s:GShow}{g_known:List (ByteArray × Bool)}{v1:GState}{nodes:List Int}{res:Bool × (List (ByteArray × Bool))}(h:gv rec g_s g_known v1 nodes=some res):aj prog 279 [.ptr 10000 0 0 0,.agg (GState.encS v1),.sl (ab eI nodes)] [(10000,0,.var [.sl (ab GNode.encS g_s.nodes),.sl (ab GTie.enc g_s.ties),.lit (.int .i64 g_s.horizon),.mp 10001 0]),(10001,0,.map (eM g_known))] (.lit (.bool res.1)) [(10000,0,.var [.sl (ab GNode.encS g_s.nodes),.sl (ab GTie.enc g_s.ties),.lit (.int .i64 g_s.horizon),.mp 10001 0]),(10001,0,.map (eM res.2))]:=by
 refine co (hi:=Je) func279 rfl rfl ?_
 unfold gv at h
 try simp(config:=cS)only[go_sem]
 refine fy ?_ ?_
 ·obtain⟨r01,g1,h⟩:=ae h
  simp(config:=cS)only[go_sem]
  have g1:=ctr g1
  refine ai g1 ?_
  obtain⟨r02,g2,h⟩:=ae h
  simp(config:=cS)only[go_sem]
  have g2:=ctr g2
  refine ai g2 ?_
  obtain⟨q06,l3,h⟩:=ae h
  simp(config:=cS)only[go_sem]
  refine ag (m1:=.mk) (m2:=.mk) [.freeze [1408],.nf [0,7,8,22,23,24] [10000,10001,448,1152,1153,1154,1408]] (oA (r02.length:Int) r01.1.now r01.1.times r01.1.values r01.2 r02 g_s.nodes g_s.ties g_s.horizon) l3 ?_ ?_
  ·simp(config:=cS)only[go_sem]
  intro nb4 sb4 bb4 b4 gb4
  obtain⟨v24_1,h10001_1⟩:=sb4
  unfold dL at b4
  try dsimp only at b4
  obtain⟨h5,b4⟩|⟨h5,b4⟩:=aT b4
  ·obtain⟨x03,g6,b4⟩:=ae b4
   obtain⟨h7,h8,h9⟩:=eO g6
   obtain⟨r04,g10,b4⟩:=ae b4
   simp(config:=cS)only[go_sem,eqT h5,h7,h8,h9]
   have g10:=ctr g10
   refine ai g10 ?_
   obtain⟨r05,g11,b4⟩:=ae b4
   simp(config:=cS)only[go_sem,eqT h5,h7,h8,h9]
   refine ai (hrec g11) ?_
   obtain⟨h12,b4⟩|⟨h12,b4⟩:=aT b4
   ·cases b4
    simp(config:=cS)only[go_sem,eqT h5,h7,h8,h9,eZt h12]
    refine fz gb4 ?_
    simp(config:=cS)only[go_sem,eqT h5,h7,h8,h9,eZt h12]
   cases b4
   obtain rfl:=(aE gb4).symm
   try dsimp only at h
   cases h
   simp(config:=cS)only[go_sem,eqT h5,h7,h8,h9,eZf h12]
  cases b4
  obtain rfl:=(aE gb4).symm
  try dsimp only at h
  cases h
  simp(config:=cS)only[go_sem,eqF h5]
 obtain⟨r07,g15,h⟩:=ae h
 simp(config:=cS)only[go_sem]
 have g15:=ctr g15
 refine ai g15 ?_
 obtain⟨r08,g16,h⟩:=ae h
 simp(config:=cS)only[go_sem]
 have g16:=ctr g16
 refine ai g16 ?_
 obtain⟨q12,l17,h⟩:=ae h
 simp(config:=cS)only[go_sem]
 refine ag (m1:=.mk) (m2:=.mk) [.freeze [1408],.nf [0,7,8,22,23,24] [10000,10001,448,1152,1153,1154,1408]] (oA (r08.length:Int) r07.1.now r07.1.times r07.1.values r07.2 r08 g_s.nodes g_s.ties g_s.horizon) l17 ?_ ?_
 ·simp(config:=cS)only[go_sem]
 intro nb18 sb18 bb18 b18 gb18
 obtain⟨v24_2,h10001_2⟩:=sb18
 unfold dL at b18
 try dsimp only at b18
 obtain⟨h19,b18⟩|⟨h19,b18⟩:=aT b18
 ·obtain⟨x09,g20,b18⟩:=ae b18
  obtain⟨h21,h22,h23⟩:=eO g20
  obtain⟨r10,g24,b18⟩:=ae b18
  simp(config:=cS)only[go_sem,eqT h19,h21,h22,h23]
  have g24:=ctr g24
  refine ai g24 ?_
  obtain⟨r11,g25,b18⟩:=ae b18
  simp(config:=cS)only[go_sem,eqT h19,h21,h22,h23]
  refine ai (hrec g25) ?_
  obtain⟨h26,b18⟩|⟨h26,b18⟩:=aT b18
  ·cases b18
   simp(config:=cS)only[go_sem,eqT h19,h21,h22,h23,eZt h26]
   refine fz gb18 ?_
   simp(config:=cS)only[go_sem,eqT h19,h21,h22,h23,eZt h26]
  cases b18
  obtain rfl:=(aE gb18).symm
  try dsimp only at h
  cases h
  simp(config:=cS)only[go_sem,eqT h19,h21,h22,h23,eZf h26]
 cases b18
 obtain rfl:=(aE gb18).symm
 try dsimp only at h
 cases h
 simp(config:=cS)only[go_sem,eqF h19]
@[go_sem] def tO (v14 v3_0:Int)(v3_1 v3_2:List Int)(v13:List (List Int))(g_0:List GNode)(g_1:List GTie)(g_2:Int):(Int × (List (ByteArray × Bool)))→St
 | (v15,h10001)=>⟨[(0,.ptr 10000 0 0 0),(3,.ptr 192 1 0 0),(13,.ref 832 1 0 v13.length),(14,.lit (.int .i64 v14)),(15,.lit (.int .i64 v15))],[(10000,0,.var [.sl (ab GNode.encS g_0),.sl (ab GTie.enc g_1),.lit (.int .i64 g_2),.mp 10001 0]),(10001,0,.map (eM h10001)),(192,1,.var [.lit (.int .i64 v3_0),.sl (ab eI v3_1),.sl (ab eI v3_2)]),(832,1,.tree (ab (eLS eI) v13))],2⟩
@[go_sem] def hi207_1:DT:=.r2 0 5 (.i2 7 (.i2 5 (.i2 6 .nil)))
def Jf:Hint where
 acts:=fun _=>[]
 draws:=fun
  | 1=>⟨hi207_1,[[],[0],[0,1],[0,1,2],[],.range 5,.range 6,[]],.range 8⟩
  | _=>⟨.nil,[],[]⟩
@[go_sem] theorem aaG (i:Nat):Jf.acts i=[]:=rfl
theorem Wx (i:Nat):Jf.views i=none:=rfl
attribute[go_sem] Wx ntmps207 results207
@[go_sem] theorem aae:(Jf.draws 1).order=hi207_1:=rfl
theorem xB {rec:GShow→(List (ByteArray × Bool))→GState→Option (Bool × (List (ByteArray × Bool)))}(hrec:∀ {g_s:GShow} {g_known:List (ByteArray × Bool)} {v1:GState} {res:Bool × (List (ByteArray × Bool))},rec g_s g_known v1=some res→aj prog 232 [.ptr 10000 0 0 0,.agg (GState.encS v1)] [(10000,0,.var [.sl (ab GNode.encS g_s.nodes),.sl (ab GTie.enc g_s.ties),.lit (.int .i64 g_s.horizon),.mp 10001 0]),(10001,0,.map (eM g_known))] (.lit (.bool res.1)) [(10000,0,.var [.sl (ab GNode.encS g_s.nodes),.sl (ab GTie.enc g_s.ties),.lit (.int .i64 g_s.horizon),.mp 10001 0]),(10001,0,.map (eM res.2))]){g_s:GShow}{g_known:List (ByteArray × Bool)}{v1:GState}{res:(List Int) × Bool × (List (ByteArray × Bool))}(h:ic rec g_s g_known v1=some res):aj prog 207 [.ptr 10000 0 0 0,.agg (GState.encS v1)] [(10000,0,.var [.sl (ab GNode.encS g_s.nodes),.sl (ab GTie.enc g_s.ties),.lit (.int .i64 g_s.horizon),.mp 10001 0]),(10001,0,.map (eM g_known))] (.tup [.sl (ab eI res.1),.lit (.bool res.2.1)]) [(10000,0,.var [.sl (ab GNode.encS g_s.nodes),.sl (ab GTie.enc g_s.ties),.lit (.int .i64 g_s.horizon),.mp 10001 0]),(10001,0,.map (eM res.2.2))]:=by
 refine aB (ra:=[.nilSl 4]) (md:=mdT) hT (hi:=Jf) func207 rfl rfl (by decide +kernel) (by simp) ?_
 unfold ic at h
 obtain⟨r01,g1,h⟩:=ae h
 simp(config:=cS)only[go_sem]
 have g1:=ctr g1
 refine ai g1 ?_
 obtain⟨q04,l2,h⟩:=ae h
 simp(config:=cS)only[go_sem]
 refine ag (m1:=.mk) (m2:=.mk) [.freeze [832],.nf [0,3,13,14,15] [10000,10001,192,832]] (tO (r01.length:Int) v1.now v1.times v1.values r01 g_s.nodes g_s.ties g_s.horizon) l2 ?_ ?_
 ·simp(config:=cS)only[go_sem]
 intro nb3 sb3 bb3 b3 gb3
 obtain⟨v15_1,h10001_1⟩:=sb3
 unfold gw at b3
 try dsimp only at b3
 obtain⟨h4,b3⟩|⟨h4,b3⟩:=aT b3
 ·obtain⟨x02,g5,b3⟩:=ae b3
  obtain⟨h6,h7,h8⟩:=eO g5
  obtain⟨r03,g9,b3⟩:=ae b3
  simp(config:=cS)only[go_sem,eqT h4,h6,h7,h8]
  refine ai (wz @hrec g9) ?_
  obtain⟨h10,b3⟩|⟨h10,b3⟩:=aT b3
  ·cases b3
   obtain rfl:=(aE gb3).symm
   try dsimp only at h
   cases h
   simp(config:=cS)only[go_sem,eqT h4,h6,h7,h8,eZt h10]
  cases b3
  simp(config:=cS)only[go_sem,eqT h4,h6,h7,h8,eZf h10]
  refine fz gb3 ?_
  simp(config:=cS)only[go_sem,eqT h4,h6,h7,h8,eZf h10]
 cases b3
 obtain rfl:=(aE gb3).symm
 try dsimp only at h
 cases h
 simp(config:=cS)only[go_sem,eqF h4]
@[go_sem] def uC (k:ByteArray)(v46 v3_0:Int)(v3_1 v3_2:List Int)(v45:List (List Int))(g_0:List GNode)(g_1:List GTie)(g_2:Int):(Int × (List (ByteArray × Bool)))→St
 | (v47,h10001)=>⟨[(0,.ptr 10000 0 0 0),(3,.ptr 192 1 0 0),(5,.lit (.string k)),(8,.lit (.bool true)),(45,.ref 2880 1 0 v45.length),(46,.lit (.int .i64 v46)),(47,.lit (.int .i64 v47))],[(10000,0,.var [.sl (ab GNode.encS g_0),.sl (ab GTie.enc g_1),.lit (.int .i64 g_2),.mp 10001 0]),(10001,0,.map (eM h10001)),(192,1,.var [.lit (.int .i64 v3_0),.sl (ab eI v3_1),.sl (ab eI v3_2)]),(2880,1,.tree (ab (eLS eI) v45))],2⟩
@[go_sem] def hi232_13:DT:=.r2 0 14 .nil
@[go_sem] def hi232_10:DT:=.r2 0 5 (.i2 7 (.i2 5 (.i2 6 .nil)))
@[go_sem] def hi232_3:DT:=.r2 0 7 .nil
@[go_sem] def hi232_1:DT:=.r2 0 7 .nil
def wA:Hint where
 acts:=fun _=>[]
 draws:=fun
  | 1=>⟨hi232_1,[[],[0],[0,1],[0,1,2],[],.range 5,.range 6],.range 7⟩
  | 3=>⟨hi232_3,[[],[0],[0,1],[0,1,2],[],.range 5,.range 6],.range 7⟩
  | 10=>⟨hi232_10,[[],[0],[0,1],[0,1,2],[],.range 5,.range 6,[]],.range 8⟩
  | 13=>⟨hi232_13,[[],[],[1],[1,2],[1,2,3],[],[],[1,2,3,4,5,6],.range 8,.range 9,.range 10,.range 10,.range 11,.range 13],[0,1,2,3,4,5,6,7,8,9,10,12,11,13]⟩
  | _=>⟨.nil,[],[]⟩
@[go_sem] theorem aaH (i:Nat):wA.acts i=[]:=rfl
theorem Wy (i:Nat):wA.views i=none:=rfl
attribute[go_sem] Wy ntmps232 results232
@[go_sem] theorem aaf:(wA.draws 1).order=hi232_1:=rfl
@[go_sem] theorem aag:(wA.draws 3).order=hi232_3:=rfl
@[go_sem] theorem YH:(wA.draws 10).order=hi232_10:=rfl
@[go_sem] theorem YI:(wA.draws 13).order=hi232_13:=rfl
theorem yx {rec:GShow→(List (ByteArray × Bool))→GState→Option (Bool × (List (ByteArray × Bool)))}(hrec:∀ {g_s:GShow} {g_known:List (ByteArray × Bool)} {v1:GState} {res:Bool × (List (ByteArray × Bool))},rec g_s g_known v1=some res→aj prog 232 [.ptr 10000 0 0 0,.agg (GState.encS v1)] [(10000,0,.var [.sl (ab GNode.encS g_s.nodes),.sl (ab GTie.enc g_s.ties),.lit (.int .i64 g_s.horizon),.mp 10001 0]),(10001,0,.map (eM g_known))] (.lit (.bool res.1)) [(10000,0,.var [.sl (ab GNode.encS g_s.nodes),.sl (ab GTie.enc g_s.ties),.lit (.int .i64 g_s.horizon),.mp 10001 0]),(10001,0,.map (eM res.2))]){g_s:GShow}{g_known:List (ByteArray × Bool)}{v1:GState}{res:Bool × (List (ByteArray × Bool))}(h:ji rec g_s g_known v1=some res):aj prog 232 [.ptr 10000 0 0 0,.agg (GState.encS v1)] [(10000,0,.var [.sl (ab GNode.encS g_s.nodes),.sl (ab GTie.enc g_s.ties),.lit (.int .i64 g_s.horizon),.mp 10001 0]),(10001,0,.map (eM g_known))] (.lit (.bool res.1)) [(10000,0,.var [.sl (ab GNode.encS g_s.nodes),.sl (ab GTie.enc g_s.ties),.lit (.int .i64 g_s.horizon),.mp 10001 0]),(10001,0,.map (eM res.2))]:=by
 refine co (hi:=wA) func232 rfl rfl ?_
 unfold ji at h
 obtain⟨r01,g1,h⟩:=ae h
 simp(config:=cS)only[go_sem]
 have g1:=ctr g1
 refine ai g1 ?_
 obtain⟨h2,h⟩|⟨h2,h⟩:=aT h
 ·cases h
  simp(config:=cS)only[go_sem,eZt h2]
 obtain⟨r02,g3,h⟩:=ae h
 simp(config:=cS)only[go_sem,eZf h2]
 have g3:=ctr g3
 refine ai g3 ?_
 obtain⟨h4,h⟩|⟨h4,h⟩:=aT h
 ·cases h
  simp(config:=cS)only[go_sem,eZf h2,eZt h4]
 obtain⟨r03,g5,h⟩:=ae h
 simp(config:=cS)only[go_sem,eZf h2,eZf h4]
 have g5:=ctr g5
 refine ai g5 ?_
 obtain⟨x04,g6,h8⟩|⟨g7,h8⟩:=DJ h
 ·cases h8
  simp(config:=cS)only[go_sem,eZf h2,eZf h4,g6]
 obtain⟨r05,g9,h8⟩:=ae h8
 simp(config:=cS)only[go_sem,eZf h2,eZf h4,g7]
 have g9:=ctr g9
 refine ai g9 ?_
 obtain⟨q09,l10,h8⟩:=ae h8
 simp(config:=cS)only[go_sem,eZf h2,eZf h4,g7]
 refine ag (m1:=.mk) (m2:=.mk) [.freeze [2880],.nf [0,3,5,8,45,46,47] [10000,10001,192,2880]] (uC r03 (r05.length:Int) v1.now v1.times v1.values r05 g_s.nodes g_s.ties g_s.horizon) l10 ?_ ?_
 ·simp(config:=cS)only[go_sem,eZf h2,eZf h4,g7]
 intro nb11 sb11 bb11 b11 gb11
 obtain⟨v47_1,h10001_1⟩:=sb11
 unfold ie at b11
 try dsimp only at b11
 obtain⟨h12,b11⟩|⟨h12,b11⟩:=aT b11
 ·obtain⟨x06,g13,b11⟩:=ae b11
  obtain⟨h14,h15,h16⟩:=eO g13
  obtain⟨r07,g17,b11⟩:=ae b11
  simp(config:=cS)only[go_sem,eZf h2,eZf h4,g7,eqT h12,h14,h15,h16]
  have g17:=ctr g17
  refine ai g17 ?_
  obtain⟨r08,g18,b11⟩:=ae b11
  simp(config:=cS)only[go_sem,eZf h2,eZf h4,g7,eqT h12,h14,h15,h16]
  refine ai (xB @hrec g18) ?_
  obtain⟨h19,b11⟩|⟨h19,b11⟩:=aT b11
  ·cases b11
   simp(config:=cS)only[go_sem,eZf h2,eZf h4,g7,eqT h12,h14,h15,h16,eZt h19]
   refine fz gb11 ?_
   simp(config:=cS)only[go_sem,eZf h2,eZf h4,g7,eqT h12,h14,h15,h16,eZt h19]
  cases b11
  obtain rfl:=(aE gb11).symm
  try dsimp only at h8
  cases h8
  simp(config:=cS)only[go_sem,eZf h2,eZf h4,g7,eqT h12,h14,h15,h16,eZf h19]
 cases b11
 obtain rfl:=(aE gb11).symm
 try dsimp only at h8
 cases h8
 simp(config:=cS)only[go_sem,eZf h2,eZf h4,g7,eqF h12]
theorem vl (fu:Nat):∀ {g_s:GShow} {g_known:List (ByteArray × Bool)} {v1:GState} {res:Bool × (List (ByteArray × Bool))},ju fu g_s g_known v1=some res→aj prog 232 [.ptr 10000 0 0 0,.agg (GState.encS v1)] [(10000,0,.var [.sl (ab GNode.encS g_s.nodes),.sl (ab GTie.enc g_s.ties),.lit (.int .i64 g_s.horizon),.mp 10001 0]),(10001,0,.map (eM g_known))] (.lit (.bool res.1)) [(10000,0,.var [.sl (ab GNode.encS g_s.nodes),.sl (ab GTie.enc g_s.ties),.lit (.int .i64 g_s.horizon),.mp 10001 0]),(10001,0,.map (eM res.2))]:=by
 induction fu with
 | zero=>intro _ _ _ _ h;cases h
 | succ fu ih=>intro _ _ _ _ h;exact yx (@ih) h
theorem BX {g_s:GShow}{g_known:List (ByteArray × Bool)}{v1:GState}{res:Bool × (List (ByteArray × Bool))}(h:m_impl_game_wins g_s g_known v1=some res):aj prog 232 [.ptr 10000 0 0 0,.agg (GState.encS v1)] [(10000,0,.var [.sl (ab GNode.encS g_s.nodes),.sl (ab GTie.enc g_s.ties),.lit (.int .i64 g_s.horizon),.mp 10001 0]),(10001,0,.map (eM g_known))] (.lit (.bool res.1)) [(10000,0,.var [.sl (ab GNode.encS g_s.nodes),.sl (ab GTie.enc g_s.ties),.lit (.int .i64 g_s.horizon),.mp 10001 0]),(10001,0,.map (eM res.2))]:=vl 40 h
@[go_sem] def hi287_1:DT:=.r2 0 5 (.i1 6 (.i0 5 [6] (.r2 7 3 .nil)))
def Jg:Hint where
 acts:=fun _=>[]
 draws:=fun
  | 1=>⟨hi287_1,[[],[],[0,1],[0,1,2],[0,1,2,3],.range 5,[0,1,2,3],.range 7,.range 8,.range 9],.range 10⟩
  | _=>⟨.nil,[],[]⟩
theorem Wz (i:Nat):Jg.acts i=[]:=rfl
theorem WA (i:Nat):Jg.views i=none:=rfl
attribute[go_sem] Wz WA ntmps287 results287
@[go_sem] theorem aah:(Jg.draws 1).order=hi287_1:=rfl
instance k287 {s:GShow} {v1:GState}:Ctr (nO s v1) (fun (res:Bool)=>aj prog 287 [.agg (GShow.encS s),.agg (GState.encS v1)] [] (.lit (.bool res)) []):=⟨by
 intro res h0
 refine co (hi:=Jg) func287 rfl rfl ?_
 unfold nO at h0
 obtain⟨r01,g0,h0⟩:=ae h0
 simp(config:=cS)only[go_sem, *]
 have g0:=ctr g0
 refine ai g0 ?_
 obtain⟨_,h0⟩|⟨_,h0⟩:=itB h0
 ·obtain⟨r02,g0,h0⟩:=ae h0
  simp(config:=cS)only[go_sem, *]
  have g0:=ctr g0
  refine ai g0 ?_
  obtain⟨r03,g0,h0⟩:=ae h0
  simp(config:=cS)only[go_sem, *]
  refine ai (BX g0) ?_
  exact run
 exact run⟩
@[go_sem] def hi217_1:DT:=.i1 0 (.i2 1 (.i0 2 [0] (.i2 3 (.i2 4 .nil))))
def Jh:Hint where
 acts:=fun _=>[]
 draws:=fun
  | 1=>⟨hi217_1,[[],[],[1],[0,1,2],[0,1,2,3]],.range 5⟩
  | _=>⟨.nil,[],[]⟩
theorem WB (i:Nat):Jh.acts i=[]:=rfl
theorem WC (i:Nat):Jh.views i=none:=rfl
attribute[go_sem] WB WC ntmps217 results217
@[go_sem] theorem aai:(Jh.draws 1).order=hi217_1:=rfl
instance k217 {s:GShow}:Ctr (kT s) (fun (res:Bool)=>aj prog 217 [.agg (GShow.encS s)] [] (.lit (.bool res)) []):=⟨by
 intro res h0
 refine co (hi:=Jh) func217 rfl rfl ?_
 unfold kT at h0
 exact run⟩
@[go_sem] def vm (v13:Int)(s_0:List GNode)(s_1:List GTie)(s_2:Int)(v12:List Int):(Int × Int × (List Int))→St
 | (n,v14,h100020480)=>⟨[(1,.lit (.int .i64 n)),(2,.ptr 128 1 0 0),(4,.ptr 256 1 0 0),(5,.ptr 320 1 0 0),(12,.ref 768 1 0 v12.length),(13,.lit (.int .i64 v13)),(14,.lit (.int .i64 v14))],[(128,1,.var [.sl (ab GNode.encS s_0),.sl (ab GTie.enc s_1),.lit (.int .i64 s_2)]),(256,1,.var [.lit (.slice none 0 0),.lit (.slice none 0 0)]),(320,1,.var [.ref 100020480 1 0 h100020480.length,.lit (.slice none 0 0)]),(100020480,1,.row true (ab eI h100020480)),(768,1,.row true (ab eI v12))],2⟩
@[go_sem] def vn (s_0:List GNode)(s_1:List GTie)(s_2:Int)(h100020480:List Int):(Int × Int × (List Int))→St
 | (n,p,h100020481)=>⟨[(1,.lit (.int .i64 n)),(2,.ptr 128 1 0 0),(4,.ptr 256 1 0 0),(5,.ptr 320 1 0 0),(9,.lit (.int .i64 p))],[(128,1,.var [.sl (ab GNode.encS s_0),.sl (ab GTie.enc s_1),.lit (.int .i64 s_2)]),(256,1,.var [.lit (.slice none 0 0),.lit (.slice none 0 0)]),(320,1,.var [.ref 100020480 1 0 h100020480.length,.ref 100020481 1 0 h100020481.length]),(100020480,1,.row true (ab eI h100020480)),(100020481,1,.row true (ab eI h100020481))],2⟩
@[go_sem] def hi89_6:DT:=.i1 0 (.i1 1 (.r2 2 10 (.i0 12 [0,1] (.r2 13 3 .nil))))
@[go_sem] def hi89_5:DT:=.r2 0 15 .nil
def hi89:Hint where
 acts:=fun _=>[]
 draws:=fun
  | 5=>⟨hi89_5,[[],[0],[],[0,1,2],[0,1,2,3],.range 5,[],[6],[],[6,7,8],[6,7,8,9],[6,7,8,9,10],.range 12,.range 13,.range 14],.range 15⟩
  | 6=>⟨hi89_6,[[],[0],[],[2],[],[2,3,4],[2,3,4,5],[2,3,4,5,6],[],[],[8,9],[2,3,4,5,6,7,8,9,10],[2,3,4,5,6,7,8,9,10,11],.range 13,.range 14,.range 15],.range 16⟩
  | _=>⟨.nil,[],[]⟩
theorem XN (i:Nat):hi89.acts i=[]:=rfl
theorem XO (i:Nat):hi89.views i=none:=rfl
attribute[go_sem] XN XO ntmps89 results89
@[go_sem] theorem aaI:(hi89.draws 5).order=hi89_5:=rfl
@[go_sem] theorem aaJ:(hi89.draws 6).order=hi89_6:=rfl
instance k89 {s:GShow} {n:Int}:Ctr (cw s n) (fun (res:GChoice)=>aj prog 89 [.agg (GShow.encS s),.lit (.int .i64 n)] [] (.agg [.ref 20000 1 0 res.lengths.length,.ref 20001 1 0 res.values.length]) [(20000,1,.row true (ab eI res.lengths)),(20001,1,.row true (ab eI res.values))]):=⟨by
 intro res h0
 refine aB (ra:=[.homeCell 256 0,.homeCell 256 1]) (md:=mdT) hT (hi:=hi89) func89 rfl rfl (by decide +kernel) (by simp) ?_
 unfold cw at h0
 obtain⟨r01,g0,h0⟩:=ae h0
 simp(config:=cS)only[go_sem, *]
 have g0:=ctr g0
 refine ai g0 ?_
 obtain⟨q06,l0,h0⟩:=ae h0
 simp(config:=cS)only[go_sem, *]
 refine ag (m1:=.mk) (m2:=.mk) [.homeCell 320 0,.nf [1,2,4,5,12,13,14] [128,256,320,100020480,768]] (vm (r01.length:Int) s.nodes s.ties s.horizon r01) l0 ?_ ?_
 ·simp(config:=cS)only[go_sem, *]
 have k0:=h0
 clear h0 l0
 intro _ s0 _ h0 gb0
 obtain⟨n_1,v14_1,h100020480_1⟩:=s0
 unfold lK at h0
 try dsimp only at h0
 obtain⟨_,h0⟩|⟨_,h0⟩:=itP h0
 ·exact run
 cases h0
 obtain rfl:=(aE gb0).symm
 clear gb0
 have h0:=k0
 clear k0
 try dsimp only at h0
 obtain⟨q05,l0,h0⟩:=ae h0
 simp(config:=cS)only[go_sem, *]
 refine ag (m1:=.mk) (m2:=.mk) [.homeCell 320 1,.nf [1,2,4,5,9] [128,256,320,100020480,100020481]] (vn s.nodes s.ties s.horizon h100020480_1) l0 ?_ ?_
 ·simp(config:=cS)only[go_sem, *]
 have k0:=h0
 clear h0 l0
 intro _ s0 _ h0 gb0
 obtain⟨n_2,p_2,h100020481_2⟩:=s0
 unfold je at h0
 try dsimp only at h0
 exact run⟩
@[go_sem] def vp (v25:Int)(s_0:List GNode)(s_1:List GTie)(s_2:Int)(v3_0 v3_1 v24:List Int)(v26:Int):St:=⟨[(2,.ptr 128 1 0 0),(3,.ptr 192 1 0 0),(24,.ref 704 1 0 v24.length),(25,.lit (.int .i64 v25)),(26,.lit (.int .i64 v26))],[(128,1,.var [.sl (ab GNode.encS s_0),.sl (ab GTie.enc s_1),.lit (.int .i64 s_2)]),(192,1,.var [.sl (ab eI v3_0),.sl (ab eI v3_1)]),(704,1,.row true (ab eI v24))],2⟩
@[go_sem] def vq (v59:List Int)(v60:Int)(s_0:List GNode)(s_1:List GTie)(s_2 v61:Int):St:=⟨[(2,.ptr 128 1 0 0),(59,.sl (ab eI v59)),(60,.lit (.int .i64 v60)),(61,.lit (.int .i64 v61))],[(128,1,.var [.sl (ab GNode.encS s_0),.sl (ab GTie.enc s_1),.lit (.int .i64 s_2)])],2⟩
@[go_sem] def hi103_7:DT:=.r2 0 26 .nil
def Ji:Hint where
 acts:=fun _=>[]
 draws:=fun
  | 7=>⟨hi103_7,[[],[0],[],[0,1,2],[0,1,2,3],[],[5],[],[5,6,7],[5,6,7,8],[5,6,7,8,9],.range 11,.range 12,.range 13,.range 14,.range 13,.range 16,.range 17,.range 13,[0,1,2,3,4,5,6,7,8,9,10,11,12,18],.range 13,[0,1,2,3,4,5,6,7,8,9,10,11,12,18,19,20],[0,1,2,3,4,5,6,7,8,9,10,11,12,18,19,20,21],[0,1,2,3,4,5,6,7,8,9,10,11,12,18,19,20,21,22],.range 24,.range 25],.range 26⟩
  | _=>⟨.nil,[],[]⟩
theorem WD (i:Nat):Ji.acts i=[]:=rfl
theorem WE (i:Nat):Ji.views i=none:=rfl
attribute[go_sem] WD WE ntmps103 results103
@[go_sem] theorem aaj:(Ji.draws 7).order=hi103_7:=rfl
instance k103 {s:GShow} {v1:GChoice}:Ctr (lG s v1) (fun (res:Bool)=>aj prog 103 [.agg (GShow.encS s),.agg [.sl (ab eI v1.lengths),.sl (ab eI v1.values)]] [] (.lit (.bool res)) []):=⟨by
 intro res h0
 refine co (hi:=Ji) func103 rfl rfl ?_
 unfold lG at h0
 obtain⟨r01,g0,h0⟩:=ae h0
 simp(config:=cS)only[go_sem, *]
 have g0:=ctr g0
 refine ai g0 ?_
 obtain⟨_,h0⟩|⟨_,h0⟩:=itP h0
 ·obtain⟨_,h0⟩|⟨_,h0⟩:=itP h0
  ·obtain⟨q09,l0,h0⟩:=ae h0
   simp(config:=cS)only[go_sem, *]
   refine ag (m1:=.mk) (m2:=.mk) [.nf [2,3,24,25,26] [128,192,704]] (vp (r01.length:Int) s.nodes s.ties s.horizon v1.lengths v1.values r01) l0 ?_ ?_
   ·simp(config:=cS)only[go_sem, *]
   have k0:=h0
   clear h0 l0
   intro _ v26_1 _ h0 gb0
   unfold fM at h0
   try dsimp only at h0
   obtain⟨_,h0⟩|⟨_,h0⟩:=itP h0
   ·exact run
   cases h0
   obtain rfl:=(aE gb0).symm
   clear gb0
   have h0:=k0
   clear k0
   try dsimp only at h0
   obtain⟨q08,l0,h0⟩:=ae h0
   simp(config:=cS)only[go_sem, *]
   refine ag (m1:=.mk) (m2:=.mk) [.nf [2,59,60,61] [128]] (vq v1.values (v1.values.length:Int) s.nodes s.ties s.horizon) l0 ?_ ?_
   ·simp(config:=cS)only[go_sem, *]
   have k0:=h0
   clear h0 l0
   intro _ v61_2 _ h0 gb0
   unfold fN at h0
   try dsimp only at h0
   exact run
  exact run
 exact run⟩
instance k90 {s:GShow} {v1:GChoice}:Ctr (lH s v1) (fun (res:Bool)=>aj prog 90 [.agg (GShow.encS s),.agg [.sl (ab eI v1.lengths),.sl (ab eI v1.values)]] [] (.lit (.bool res)) []):=⟨by
 intro res h0
 refine co (hi:=hi00) func90 rfl rfl ?_
 unfold lH at h0
 exact run⟩
@[go_sem] def hi69_1:DT:=.r2 0 11 .nil
def hi69:Hint where
 acts:=fun _=>[]
 draws:=fun
  | 1=>⟨hi69_1,[[],[0],[],[0,1,2],[0,1,2,3],.range 5,[],[6],.range 8,.range 9,.range 10],.range 11⟩
  | _=>⟨.nil,[],[]⟩
theorem XP (i:Nat):hi69.acts i=[]:=rfl
theorem XQ (i:Nat):hi69.views i=none:=rfl
attribute[go_sem] XP XQ ntmps69 results69
@[go_sem] theorem aaK:(hi69.draws 1).order=hi69_1:=rfl
instance k69 {s:GShow} {v1:GChoice} {node:Int}:Ctr (eo s v1 node) (fun (res:Bool)=>aj prog 69 [.agg (GShow.encS s),.agg [.sl (ab eI v1.lengths),.sl (ab eI v1.values)],.lit (.int .i64 node)] [] (.lit (.bool res)) []):=⟨by
 intro res h0
 refine co (hi:=hi69) func69 rfl rfl ?_
 unfold eo at h0
 exact run⟩
instance k252 {from_:Int} {to:Int} {low:Int} {high:Int} {reason:ByteArray} {out:GSimple} {reasons:List ByteArray}:Ctr (cE from_ to low high reason out reasons) (fun (res:GSimple × (List ByteArray))=>aj prog 252 [.lit (.int .i64 from_),.lit (.int .i64 to),.lit (.int .i64 low),.lit (.int .i64 high),.lit (.string reason),.ptr 10000 0 0 0,.ptr 10002 0 0 0] [(10000,0,.var [.lit (.int .i64 out.events),.ref 10001 0 0 out.links.length]),(10001,0,.row true (ab GLink.enc out.links)),(10002,0,.var [.ref 10003 0 0 reasons.length]),(10003,0,.row true (ab eS reasons))] (.tup []) [(10000,0,.var [.lit (.int .i64 res.1.events),.ref 20000 1 0 res.1.links.length]),(10002,0,.var [.ref 20001 1 0 res.2.length]),(20000,1,.row true (ab GLink.enc res.1.links)),(20001,1,.row true (ab eS res.2))]):=⟨by
 intro res h0
 refine co (hi:=hi00) func252 rfl rfl ?_
 unfold cE at h0
 exact run⟩
instance k113 {l:List ByteArray} {by_:ByteArray}:Ctr (ko l by_) (fun (res:ByteArray)=>aj prog 113 [.sl (ab eS l),.lit (.string by_)] [] (.lit (.string res)) []):=⟨by
 intro res h0
 refine co (hi:=hi00) func113 rfl rfl ?_
 unfold ko at h0
 obtain⟨r01,g0,h0⟩:=ae h0
 simp(config:=cS)only[go_sem, *]
 refine ai (GS g0) ?_
 exact run⟩
@[go_sem] def hi253_5:DT:=.i2 0 (.i1 1 (.i1 2 (.i1 3 (.i1 4 (.i1 5 (.i1 6 (.i1 7 (.i1 8 (.i1 9 (.i1 10 (.i1 11 (.i1 12 (.i1 13 (.i1 14 (.i2 15 (.i2 16 (.i1 18 (.i1 19 (.i0 17 [1,2,3,4,5,6,7,8,9,10,11,12,13,14,18,19] (.i0 20 [1,2,3,4,5,6,7,8,9,10,11,12,13,14] (.r2 21 3 .nil)))))))))))))))))))))
def Jj:Hint where
 acts:=fun _=>[]
 draws:=fun
  | 5=>⟨hi253_5,[[],[],[1],[],[3],[1,2,3,4],[1,2,3,4,5],[1,2,3,4,5,6],[],[8],[],[10],[8,9,10,11],[8,9,10,11,12],[8,9,10,11,12,13],[],[15],[15,16],[],[18],[15,16,17,18,19],.range 21,.range 22,.range 23],.range 24⟩
  | _=>⟨.nil,[],[]⟩
theorem WF (i:Nat):Jj.acts i=[]:=rfl
theorem WG (i:Nat):Jj.views i=none:=rfl
attribute[go_sem] WF WG ntmps253 results253
@[go_sem] theorem aak:(Jj.draws 5).order=hi253_5:=rfl
instance k253 {s:GShow} {i:Int}:Ctr (kw s i) (fun (res:ByteArray)=>aj prog 253 [.agg (GShow.encS s),.lit (.int .i64 i)] [] (.lit (.string res)) []):=⟨by
 intro res h0
 refine co (hi:=Jj) func253 rfl rfl ?_
 unfold kw at h0
 exact run⟩
end Go.Proofs.Qh
