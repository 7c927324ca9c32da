/- Functions. -/
import Derived.Test.YtpodkllkinpfmaaGreatDoorXmFK0
set_option linter.all false
set_option maxRecDepth 100000
set_option maxHeartbeats 4000000
namespace Go.Proofs.Qm
open Go Tryz
@[go_sem] def qR (zb0:Bool)(f_v1:Nat)(k_v1:List AV):(Int × Int × (List Int))→St
 | (v5,v6,v0)=>⟨[(0,.ref 10000 0 0 v0.length),(1,.fn f_v1 k_v1),(5,.lit (.int .i64 v5)),(6,.lit (.int .i64 v6))],[(10000,0,.row zb0 (ab eI v0))],2⟩
attribute[go_sem] ntmps141 results141 ntmps292 results292 ntmps231 results231 ntmps278 results278 ntmps134 results134 ntmps136 results136 ntmps207 results207 ntmps87 results87 ntmps90 results90 ntmps252 results252 ntmps110 results110 ntmps113 results113 ntmps171 results171 ntmps68 results68 ntmps37 results37 ntmps218 results218 ntmps115 results115 ntmps45 results45 ntmps137 results137 ntmps111 results111 ntmps47 results47 ntmps84 results84 ntmps48 results48 ntmps164 results164 ntmps331 results331 ntmps160 results160 ntmps332 results332 ntmps294 results294 ntmps295 results295 ntmps159 results159 ntmps296 results296 ntmps297 results297 ntmps298 results298 ntmps236 results236 ntmps144 results144 ntmps201 results201 ntmps199 results199 ntmps316 results316 ntmps314 results314 ntmps315 results315 ntmps277 results277 ntmps105 results105 ntmps204 results204 ntmps102 results102 ntmps51 results51 ntmps276 results276 ntmps281 results281 ntmps316 results316 ntmps280 results280 ntmps208 results208 ntmps206 results206 ntmps104 results104
theorem pg {v0:List Int}{v1:Int→Option Bool}{zb0:Bool}{f_v1:Nat}{k_v1:List AV}(hp_v1:∀ y0 r,v1 y0=some r→aj prog f_v1 ([.lit (.int .i64 y0)]++k_v1) [] (.lit (.bool r)) [])(hc_v1:KC k_v1)(hm_v1:∀ a,mdT f_v1 a=⟨[],false⟩)(hk_v1:spf f_v1=false){res:List Int}(h:dE v0 v1=some res):aj prog 141 [.ref 10000 0 0 v0.length,.fn f_v1 k_v1] [(10000,0,.row zb0 (ab eI v0))] (.ref 10000 0 0 res.length) [(10000,0,.row false (ab eI res))]:=by
 refine aE (ra:=[.home 4,.trim 4]) (md:=mdT) hT (hi:=hi00) func141 rfl rfl (by decide +kernel) (by simp) ?_
 unfold dE at h
 obtain⟨r01,g1,h⟩:=af h
 simp(config:=cS)only[go_sem,hc_v1.1,hc_v1.2,hm_v1,hk_v1]
 refine ag (pn hp_v1 hc_v1 hm_v1 hk_v1 g1) ?_
 obtain⟨h2,h⟩|⟨h2,h⟩:=bl h
 ·cases h
  simp(config:=cS)only[go_sem,hc_v1.1,hc_v1.2,hm_v1,hk_v1,eqT h2]
 obtain⟨q05,l3,h⟩:=af h
 simp(config:=cS)only[go_sem,hc_v1.1,hc_v1.2,hm_v1,hk_v1,eqF h2]
 refine ai (m1:=.mk) (m2:=.mk) [.nf [0,1,5,6] [10000]] (qR zb0 f_v1 k_v1) l3 ?_ ?_
 ·simp(config:=cS)only[go_sem,hc_v1.1,hc_v1.2,hm_v1,hk_v1,eqF h2]
 intro nb4 sb4 bb4 b4 gb4
 obtain⟨v5_1,v6_1,v0_1⟩:=sb4
 unfold dO at b4
 try dsimp only at b4
 obtain⟨h5,b4⟩|⟨h5,b4⟩:=bl b4
 ·obtain⟨x02,g6,b4⟩:=af b4
  obtain⟨h7,h8,h9⟩:=eU g6
  obtain⟨r03,g10,b4⟩:=af b4
  simp(config:=cS)only[go_sem,hc_v1.1,hc_v1.2,hm_v1,hk_v1,eqF h2,eqT h5,h7,h8,h9]
  refine ag (hp_v1 _ _ g10) ?_
  obtain⟨h11,b4⟩|⟨h11,b4⟩:=bl b4
  ·cases b4
   simp(config:=cS)only[go_sem,hc_v1.1,hc_v1.2,hm_v1,hk_v1,eqF h2,eqT h5,h7,h8,h9,eZt h11]
   refine iL gb4 ?_
   simp(config:=cS)only[go_sem,hc_v1.1,hc_v1.2,hm_v1,hk_v1,eqF h2,eqT h5,h7,h8,h9,eZt h11]
  obtain⟨x04,g12,b4⟩:=af b4
  obtain⟨h13,h14,h15⟩:=eU g12
  cases b4
  simp(config:=cS)only[go_sem,hc_v1.1,hc_v1.2,hm_v1,hk_v1,eqF h2,eqT h5,h7,h8,h9,eZf h11,h13,h14,h15]
  refine iL gb4 ?_
  simp(config:=cS)only[go_sem,hc_v1.1,hc_v1.2,hm_v1,hk_v1,eqF h2,eqT h5,h7,h8,h9,eZf h11,h13,h14,h15]
 cases b4
 obtain rfl:=(aJ gb4).symm
 try dsimp only at h
 obtain⟨h17,h⟩:=iK h
 obtain⟨h18,h⟩:=iK h
 obtain⟨h19,h⟩:=iK h
 cases h
 simp(config:=cS)only[go_sem,hc_v1.1,hc_v1.2,hm_v1,hk_v1,eqF h2,eqF h5,eqT h17,eqT h18,eqT h19]
instance k292 {i:Int} {v1:GState} {s:GShow}:Ctr (mq i v1 s) (fun (res:Bool)=>aj prog 292 [.lit (.int .i64 i),.loc [.lit (.int .i64 v1.now),.sl (ab eI v1.times),.sl (ab eI v1.values)],.loc [.sl (ab GNode.encS s.nodes),.sl (ab GTie.enc s.ties),.lit (.int .i64 s.horizon)]] [] (.lit (.bool res)) []):=⟨by
 intro res h0
 refine co (hi:=hi00) func292 rfl rfl ?_
 unfold mq at h0
 exact run⟩
instance k231 {s:GShow} {v1:GState}:Ctr (kB s v1) (fun (res:List Int)=>aj prog 231 [.agg (GShow.encS s),.agg (GState.encS v1)] [] (.ref 20000 1 0 res.length) [(20000,1,.row false (ab eI res))]):=⟨by
 intro res h0
 refine aE (ra:=[.home 4,.trim 4]) (md:=mdT) hT (hi:=hi00) func231 rfl rfl (by decide +kernel) (by simp) ?_
 unfold kB at h0
 obtain⟨r01,g0,h0⟩:=af h0
 simp(config:=cS)only[go_sem, *]
 have g0:=ctr g0
 refine ag g0 ?_
 obtain⟨r02,g0,h0⟩:=af h0
 simp(config:=cS)only[go_sem, *]
 refine ag (pg (by exact fun _ _ hr=>by have q:=ctr hr;exact q) (by refine⟨fun _=>?_,fun _=>?_⟩ <;> simp only[go_sem]) (fun _=>rfl) rfl g0) ?_
 exact run⟩
@[go_sem] def uz (nodes:List Int):(Int × (List (List Int)))→St
 | (set,out)=>⟨[(5,.ref 640 1 0 nodes.length),(6,.ref 447 1 0 out.length),(7,.lit (.int .i64 set))],[(640,1,.row false (ab eI nodes)),(447,1,.row true (ab (eLO eI) out))],2⟩
instance k278 {s:GShow} {v1:GState}:Ctr (gh s v1) (fun (res:List (List Int))=>aj prog 278 [.agg (GShow.encS s),.agg (GState.encS v1)] [] (.ref 20000 1 0 res.length) [(20000,1,.row true (ab (eLO eI) res))]):=⟨by
 intro res h0
 refine aE (ra:=[.home 4]) (md:=mdT) hT (hi:=hi00) func278 rfl rfl (by decide +kernel) (by simp) ?_
 unfold gh at h0
 obtain⟨r01,g0,h0⟩:=af h0
 simp(config:=cS)only[go_sem, *]
 have g0:=ctr g0
 refine ag g0 ?_
 obtain⟨_,h0⟩:=ckN h0
 obtain⟨q03,l0,h0⟩:=af h0
 simp(config:=cS)only[go_sem, *]
 refine ai (m1:=.mk) (m2:=.mk) [.home 6,.nf [5,6,7] [640,447]] (uz r01) l0 ?_ ?_
 ·simp(config:=cS)only[go_sem, *]
 have k0:=h0
 clear h0 l0
 intro _ s0 _ h0 gb0
 obtain⟨set_1,out_1⟩:=s0
 unfold iz at h0
 try dsimp only at h0
 exact run⟩
@[go_sem] def wk (v14:List Int)(v15:Int)(s_0:List GNode)(s_1:List GTie)(s_2 v4_0:Int)(v4_1 v4_2:List Int)(out_0:Int)(h833:List Int):(Int × (List Int) × (List Int))→St
 | (v16,props,h832)=>⟨[(3,.ptr 192 1 0 0),(4,.ptr 256 1 0 0),(6,.ptr 384 1 0 0),(8,.ptr 512 1 0 0),(9,.ref 639 1 0 props.length),(14,.sl (ab eI v14)),(15,.lit (.int .i64 v15)),(16,.lit (.int .i64 v16))],[(192,1,.var [.sl (ab GNode.encS s_0),.sl (ab GTie.enc s_1),.lit (.int .i64 s_2)]),(256,1,.var [.lit (.int .i64 v4_0),.sl (ab eI v4_1),.sl (ab eI v4_2)]),(384,1,.var [.lit (.int .i64 0),.lit (.slice none 0 0),.lit (.slice none 0 0)]),(512,1,.var [.lit (.int .i64 out_0),.ref 832 1 0 h832.length,.ref 833 1 0 h833.length]),(832,1,.row true (ab eI h832)),(833,1,.row true (ab eI h833)),(639,1,.row true (ab eI props))],2⟩
instance k134 {s:GShow} {v1:GState} {nodes:List Int}:Ctr (dV s v1 nodes) (fun (res:GState × (List Int))=>aj prog 134 [.agg (GShow.encS s),.agg (GState.encS v1),.sl (ab eI nodes)] [] (.tup [.agg [.lit (.int .i64 res.1.now),.ref 20000 1 0 res.1.times.length,.ref 20001 1 0 res.1.values.length],.ref 20002 1 0 res.2.length]) [(20000,1,.row true (ab eI res.1.times)),(20001,1,.row true (ab eI res.1.values)),(20002,1,.row true (ab eI res.2))]):=⟨by
 intro res h0
 refine aE (ra:=[.homeCell 384 1,.homeCell 384 2,.home 7]) (md:=mdT) hT (hi:=hi00) func134 rfl rfl (by decide +kernel) (by simp) ?_
 unfold dV at h0
 obtain⟨r01,g0,h0⟩:=af h0
 simp(config:=cS)only[go_sem, *]
 have g0:=ctr g0
 refine ag g0 ?_
 obtain⟨q06,l0,h0⟩:=af h0
 simp(config:=cS)only[go_sem, *]
 refine ai (m1:=.mk) (m2:=.mk) [.home 9,.nf [3,4,6,8,9,14,15,16] [192,256,384,512,832,833,639]] (wk nodes (nodes.length:Int) s.nodes s.ties s.horizon v1.now v1.times v1.values r01.now r01.values) l0 ?_ ?_
 ·simp(config:=cS)only[go_sem, *]
 have k0:=h0
 clear h0 l0
 intro _ s0 _ h0 gb0
 obtain⟨v16_1,props_1,h832_1⟩:=s0
 unfold jQ at h0
 try dsimp only at h0
 obtain⟨_,h0⟩|⟨_,h0⟩:=itP h0
 ·exact run
 cases h0
 obtain rfl:=(aJ gb0).symm
 clear gb0
 have h0:=k0
 clear k0
 try dsimp only at h0
 obtain⟨r05,g0,h0⟩:=af h0
 simp(config:=cS)only[go_sem, *]
 refine ag (si g0) ?_
 exact run⟩
@[go_sem] def rI (props:List Int)(v10 v11:Int):St:=⟨[(0,.sl (ab eI props)),(9,.sl (ab eI props)),(10,.lit (.int .i64 v10)),(11,.lit (.int .i64 v11))],[],2⟩
@[go_sem] def rJ (props:List Int)(n v44:Int)(out:List (List Int)):(Int × (List Int))→St
 | (v45,values)=>⟨[(0,.sl (ab eI props)),(5,.ref 383 1 0 out.length),(6,.lit (.int .i64 n)),(7,.ref 511 1 0 values.length),(44,.lit (.int .i64 v44)),(45,.lit (.int .i64 v45))],[(383,1,.row true (ab (eLO eI) out)),(511,1,.row true (ab eI values))],2⟩
@[go_sem] def rK (props:List Int):(Int × (List (List Int)))→St
 | (n,out)=>⟨[(0,.sl (ab eI props)),(5,.ref 383 1 0 out.length),(6,.lit (.int .i64 n))],[(383,1,.row true (ab (eLO eI) out))],2⟩
instance k136 {props:List Int}:Ctr (cI props) (fun (res:List (List Int))=>aj prog 136 [.sl (ab eI props)] [] (.sl (ab (eLS eI) res)) []):=⟨by
 intro res h0
 refine aE (ra:=[.freeze [383],.sliT 2,.nilSl 2]) (md:=mdT) hT (hi:=hi00) func136 rfl rfl (by decide +kernel) (by simp) ?_
 unfold cI at h0
 obtain⟨q05,l0,h0⟩:=af h0
 simp(config:=cS)only[go_sem, *]
 refine ai (m1:=.mk) (m2:=.mk) [.nf [0,9,10,11] []] (rI props (props.length:Int)) l0 ?_ ?_
 ·simp(config:=cS)only[go_sem, *]
 have k0:=h0
 clear h0 l0
 intro _ v11_1 _ h0 gb0
 unfold eX at h0
 try dsimp only at h0
 obtain⟨_,h0⟩|⟨_,h0⟩:=itP h0
 ·exact run
 cases h0
 obtain rfl:=(aJ gb0).symm
 clear gb0
 have h0:=k0
 clear k0
 try dsimp only at h0
 obtain⟨q04,l0,h0⟩:=af h0
 simp(config:=cS)only[go_sem, *]
 refine ai (m1:=.mk) (m2:=.mk) [.home 5,.nf [0,5,6] [383]] (rK props) l0 ?_ ?_
 ·simp(config:=cS)only[go_sem, *]
 have k0:=h0
 clear h0 l0
 intro _ s0 _ h0 gb0
 obtain⟨n_2,out_2⟩:=s0
 unfold eZ at h0
 try dsimp only at h0
 obtain⟨_,h0⟩:=ckN h0
 obtain⟨_,h0⟩|⟨_,h0⟩:=itP h0
 ·obtain⟨q03,l0,h0⟩:=af h0
  simp(config:=cS)only[go_sem, *]
  refine ai (m1:=.mk) (m2:=.mk) [.home 7,.nf [0,5,6,7,44,45] [383,511]] (rJ props n_2 (props.length:Int) out_2) l0 ?_ ?_
  ·simp(config:=cS)only[go_sem, *]
  have k0:=h0
  clear h0 l0
  intro _ s0 _ h0 gb0
  obtain⟨v45_3,values_3⟩:=s0
  unfold eY at h0
  try dsimp only at h0
  exact run
 exact run⟩
@[go_sem] def uV (values v12:List Int)(v13 out_0:Int)(h704:List Int):(Int × (List Int))→St
 | (v14,h705)=>⟨[(2,.sl (ab eI values)),(6,.ptr 384 1 0 0),(7,.ptr 448 1 0 0),(12,.sl (ab eI v12)),(13,.lit (.int .i64 v13)),(14,.lit (.int .i64 v14))],[(384,1,.var [.lit (.int .i64 0),.lit (.slice none 0 0),.lit (.slice none 0 0)]),(448,1,.var [.lit (.int .i64 out_0),.ref 704 1 0 h704.length,.ref 705 1 0 h705.length]),(704,1,.row true (ab eI h704)),(705,1,.row true (ab eI h705))],2⟩
@[go_sem] def hi138_5:DT:=.r2 0 10 .nil
def JM:Hint where
 acts:=fun _=>[]
 draws:=fun
  | 5=>⟨hi138_5,[[],[0],[],[2],[],[],[4,5],[4,5,6],.range 8,.range 9],.range 10⟩
  | _=>⟨.nil,[],[]⟩
theorem Yi (i:Nat):JM.acts i=[]:=rfl
attribute[go_sem] Yi ntmps138 results138
@[go_sem] theorem acs:(JM.draws 5).order=hi138_5:=rfl
instance k138 {v0:GState} {props:List Int} {values:List Int}:Ctr (cF v0 props values) (fun (res:GState)=>aj prog 138 [.agg (GState.encS v0),.sl (ab eI props),.sl (ab eI values)] [] (.agg [.lit (.int .i64 res.now),.ref 20000 1 0 res.times.length,.ref 20001 1 0 res.values.length]) [(20000,1,.row true (ab eI res.times)),(20001,1,.row true (ab eI res.values))]):=⟨by
 intro res h0
 refine aE (ra:=[.homeCell 384 1,.homeCell 384 2]) (md:=mdT) hT (hi:=JM) func138 rfl rfl (by decide +kernel) (by simp) ?_
 unfold cF at h0
 obtain⟨r01,g0,h0⟩:=af h0
 simp(config:=cS)only[go_sem, *]
 have g0:=ctr g0
 refine ag g0 ?_
 obtain⟨q05,l0,h0⟩:=af h0
 simp(config:=cS)only[go_sem, *]
 refine ai (m1:=.mk) (m2:=.mk) [.nf [2,6,7,12,13,14] [384,448,704,705]] (uV values props (props.length:Int) r01.now r01.times) l0 ?_ ?_
 ·simp(config:=cS)only[go_sem, *]
 have k0:=h0
 clear h0 l0
 intro _ s0 _ h0 gb0
 obtain⟨v14_1,h705_1⟩:=s0
 unfold jl at h0
 try dsimp only at h0
 exact run⟩
@[go_sem] def ol (v22:List (List Int))(v23 next_0:Int)(h1152 h1153 props:List Int)(g_0:List GNode)(g_1:List GTie)(g_2:Int):(Int × (List (ByteArray × Bool)))→St
 | (v24,h10001)=>⟨[(0,.ptr 10000 0 0 0),(7,.ptr 448 1 0 0),(8,.ref 1154 1 0 props.length),(22,.sl (ab (eLS eI) v22)),(23,.lit (.int .i64 v23)),(24,.lit (.int .i64 v24))],[(10000,0,.var [.sl (ab GNode.encS g_0),.sl (ab GTie.enc g_1),.lit (.int .i64 g_2),.mp 10001 0]),(10001,0,.map (eM h10001)),(448,1,.var [.lit (.int .i64 next_0),.ref 1152 1 0 h1152.length,.ref 1153 1 0 h1153.length]),(1152,1,.row true (ab eI h1152)),(1153,1,.row true (ab eI h1153)),(1154,1,.tree (ab eI props))],2⟩
@[go_sem] def hi279_1:DT:=.i2 0 (.i1 1 (.i1 2 (.i1 3 (.i1 4 (.i2 5 (.fork (.i2 6 (.i2 7 (.i2 8 (.i2 9 (.i0 10 [1,2,3,4] (.i2 11 (.i2 12 .nil))))))) (.i0 10 [1,2,3,4] (.i2 6 (.i2 7 (.i2 8 (.i2 9 (.i2 11 (.i2 12 .nil)))))))))))))
def JN:Hint where
 acts:=fun _=>[]
 draws:=fun
  | 1=>⟨hi279_1,[[],[0],[0,1],[0,1,2],[],[],.range 6,.range 7,.range 8,.range 8,[],[0,1,2,3,4,5,6,7,8,10],.range 12],[0,1,2,3,4,5,6,7,8,11,9,10,12]⟩
  | _=>⟨.nil,[],[]⟩
theorem Yk (i:Nat):JN.acts i=[]:=rfl
attribute[go_sem] Yk ntmps279 results279
@[go_sem] theorem acu:(JN.draws 1).order=hi279_1:=rfl
theorem qr {rec:GShow→(List (ByteArray × Bool))→GState→Option (Bool × (List (ByteArray × Bool)))}(hrec:∀ {g_s:GShow} {g_known:List (ByteArray × Bool)} {v1:GState} {res:Bool × (List (ByteArray × Bool))},rec g_s g_known v1=some res→aj prog 232 [.ptr 10000 0 0 0,.agg (GState.encS v1)] [(10000,0,.var [.sl (ab GNode.encS g_s.nodes),.sl (ab GTie.enc g_s.ties),.lit (.int .i64 g_s.horizon),.mp 10001 0]),(10001,0,.map (eM g_known))] (.lit (.bool res.1)) [(10000,0,.var [.sl (ab GNode.encS g_s.nodes),.sl (ab GTie.enc g_s.ties),.lit (.int .i64 g_s.horizon),.mp 10001 0]),(10001,0,.map (eM res.2))]){g_s:GShow}{g_known:List (ByteArray × Bool)}{v1:GState}{nodes:List Int}{res:Bool × (List (ByteArray × Bool))}(h:fq rec g_s g_known v1 nodes=some res):aj prog 279 [.ptr 10000 0 0 0,.agg (GState.encS v1),.sl (ab eI nodes)] [(10000,0,.var [.sl (ab GNode.encS g_s.nodes),.sl (ab GTie.enc g_s.ties),.lit (.int .i64 g_s.horizon),.mp 10001 0]),(10001,0,.map (eM g_known))] (.lit (.bool res.1)) [(10000,0,.var [.sl (ab GNode.encS g_s.nodes),.sl (ab GTie.enc g_s.ties),.lit (.int .i64 g_s.horizon),.mp 10001 0]),(10001,0,.map (eM res.2))]:=by
 refine co (hi:=JN) func279 rfl rfl ?_
 unfold fq at h
 try simp(config:=cS)only[go_sem]
 refine dl ?_ ?_
 ·obtain⟨r01,g1,h⟩:=af h
  simp(config:=cS)only[go_sem]
  have g1:=ctr g1
  refine ag g1 ?_
  obtain⟨r02,g2,h⟩:=af h
  simp(config:=cS)only[go_sem]
  have g2:=ctr g2
  refine ag g2 ?_
  obtain⟨q06,l3,h⟩:=af h
  simp(config:=cS)only[go_sem]
  refine ai (m1:=.mk) (m2:=.mk) [.nf [0,7,8,22,23,24] [10000,10001,448,1152,1153,1154]] (ol r02 (r02.length:Int) r01.1.now r01.1.times r01.1.values r01.2 g_s.nodes g_s.ties g_s.horizon) l3 ?_ ?_
  ·simp(config:=cS)only[go_sem]
  intro nb4 sb4 bb4 b4 gb4
  obtain⟨v24_1,h10001_1⟩:=sb4
  unfold eN at b4
  try dsimp only at b4
  obtain⟨h5,b4⟩|⟨h5,b4⟩:=bl b4
  ·obtain⟨x03,g6,b4⟩:=af b4
   obtain⟨h7,h8,h9⟩:=eU g6
   obtain⟨r04,g10,b4⟩:=af b4
   simp(config:=cS)only[go_sem,eqT h5,h7,h8,h9]
   have g10:=ctr g10
   refine ag g10 ?_
   obtain⟨r05,g11,b4⟩:=af b4
   simp(config:=cS)only[go_sem,eqT h5,h7,h8,h9]
   refine ag (hrec g11) ?_
   obtain⟨h12,b4⟩|⟨h12,b4⟩:=bl b4
   ·cases b4
    simp(config:=cS)only[go_sem,eqT h5,h7,h8,h9,eZt h12]
    refine iL gb4 ?_
    simp(config:=cS)only[go_sem,eqT h5,h7,h8,h9,eZt h12]
   cases b4
   obtain rfl:=(aJ gb4).symm
   try dsimp only at h
   cases h
   simp(config:=cS)only[go_sem,eqT h5,h7,h8,h9,eZf h12]
  cases b4
  obtain rfl:=(aJ gb4).symm
  try dsimp only at h
  cases h
  simp(config:=cS)only[go_sem,eqF h5]
 obtain⟨r07,g15,h⟩:=af h
 simp(config:=cS)only[go_sem]
 have g15:=ctr g15
 refine ag g15 ?_
 obtain⟨r08,g16,h⟩:=af h
 simp(config:=cS)only[go_sem]
 have g16:=ctr g16
 refine ag g16 ?_
 obtain⟨q12,l17,h⟩:=af h
 simp(config:=cS)only[go_sem]
 refine ai (m1:=.mk) (m2:=.mk) [.nf [0,7,8,22,23,24] [10000,10001,448,1152,1153,1154]] (ol r08 (r08.length:Int) r07.1.now r07.1.times r07.1.values r07.2 g_s.nodes g_s.ties g_s.horizon) l17 ?_ ?_
 ·simp(config:=cS)only[go_sem]
 intro nb18 sb18 bb18 b18 gb18
 obtain⟨v24_2,h10001_2⟩:=sb18
 unfold eN at b18
 try dsimp only at b18
 obtain⟨h19,b18⟩|⟨h19,b18⟩:=bl b18
 ·obtain⟨x09,g20,b18⟩:=af b18
  obtain⟨h21,h22,h23⟩:=eU g20
  obtain⟨r10,g24,b18⟩:=af b18
  simp(config:=cS)only[go_sem,eqT h19,h21,h22,h23]
  have g24:=ctr g24
  refine ag g24 ?_
  obtain⟨r11,g25,b18⟩:=af b18
  simp(config:=cS)only[go_sem,eqT h19,h21,h22,h23]
  refine ag (hrec g25) ?_
  obtain⟨h26,b18⟩|⟨h26,b18⟩:=bl b18
  ·cases b18
   simp(config:=cS)only[go_sem,eqT h19,h21,h22,h23,eZt h26]
   refine iL gb18 ?_
   simp(config:=cS)only[go_sem,eqT h19,h21,h22,h23,eZt h26]
  cases b18
  obtain rfl:=(aJ gb18).symm
  try dsimp only at h
  cases h
  simp(config:=cS)only[go_sem,eqT h19,h21,h22,h23,eZf h26]
 cases b18
 obtain rfl:=(aJ gb18).symm
 try dsimp only at h
 cases h
 simp(config:=cS)only[go_sem,eqF h19]
@[go_sem] def tR (v14 v3_0:Int)(v3_1 v3_2:List Int)(v13:List (List Int))(g_0:List GNode)(g_1:List GTie)(g_2:Int):(Int × (List (ByteArray × Bool)))→St
 | (v15,h10001)=>⟨[(0,.ptr 10000 0 0 0),(3,.ptr 192 1 0 0),(13,.ref 832 1 0 v13.length),(14,.lit (.int .i64 v14)),(15,.lit (.int .i64 v15))],[(10000,0,.var [.sl (ab GNode.encS g_0),.sl (ab GTie.enc g_1),.lit (.int .i64 g_2),.mp 10001 0]),(10001,0,.map (eM h10001)),(192,1,.var [.lit (.int .i64 v3_0),.sl (ab eI v3_1),.sl (ab eI v3_2)]),(832,1,.tree (ab (eLS eI) v13))],2⟩
@[go_sem] def hi207_1:DT:=.r2 0 5 (.i2 7 (.i2 5 (.i2 6 .nil)))
def JO:Hint where
 acts:=fun _=>[]
 draws:=fun
  | 1=>⟨hi207_1,[[],[0],[0,1],[0,1,2],[],.range 5,.range 6,[]],.range 8⟩
  | _=>⟨.nil,[],[]⟩
@[go_sem] theorem adj (i:Nat):JO.acts i=[]:=rfl
@[go_sem] theorem acv:(JO.draws 1).order=hi207_1:=rfl
theorem qT {rec:GShow→(List (ByteArray × Bool))→GState→Option (Bool × (List (ByteArray × Bool)))}(hrec:∀ {g_s:GShow} {g_known:List (ByteArray × Bool)} {v1:GState} {res:Bool × (List (ByteArray × Bool))},rec g_s g_known v1=some res→aj prog 232 [.ptr 10000 0 0 0,.agg (GState.encS v1)] [(10000,0,.var [.sl (ab GNode.encS g_s.nodes),.sl (ab GTie.enc g_s.ties),.lit (.int .i64 g_s.horizon),.mp 10001 0]),(10001,0,.map (eM g_known))] (.lit (.bool res.1)) [(10000,0,.var [.sl (ab GNode.encS g_s.nodes),.sl (ab GTie.enc g_s.ties),.lit (.int .i64 g_s.horizon),.mp 10001 0]),(10001,0,.map (eM res.2))]){g_s:GShow}{g_known:List (ByteArray × Bool)}{v1:GState}{res:(List Int) × Bool × (List (ByteArray × Bool))}(h:fP rec g_s g_known v1=some res):aj prog 207 [.ptr 10000 0 0 0,.agg (GState.encS v1)] [(10000,0,.var [.sl (ab GNode.encS g_s.nodes),.sl (ab GTie.enc g_s.ties),.lit (.int .i64 g_s.horizon),.mp 10001 0]),(10001,0,.map (eM g_known))] (.tup [.sl (ab eI res.1),.lit (.bool res.2.1)]) [(10000,0,.var [.sl (ab GNode.encS g_s.nodes),.sl (ab GTie.enc g_s.ties),.lit (.int .i64 g_s.horizon),.mp 10001 0]),(10001,0,.map (eM res.2.2))]:=by
 refine aE (ra:=[.nilSl 4]) (md:=mdT) hT (hi:=JO) func207 rfl rfl (by decide +kernel) (by simp) ?_
 unfold fP at h
 obtain⟨r01,g1,h⟩:=af h
 simp(config:=cS)only[go_sem]
 have g1:=ctr g1
 refine ag g1 ?_
 obtain⟨q04,l2,h⟩:=af h
 simp(config:=cS)only[go_sem]
 refine ai (m1:=.mk) (m2:=.mk) [.freeze [832],.nf [0,3,13,14,15] [10000,10001,192,832]] (tR (r01.length:Int) v1.now v1.times v1.values r01 g_s.nodes g_s.ties g_s.horizon) l2 ?_ ?_
 ·simp(config:=cS)only[go_sem]
 intro nb3 sb3 bb3 b3 gb3
 obtain⟨v15_1,h10001_1⟩:=sb3
 unfold gT at b3
 try dsimp only at b3
 obtain⟨h4,b3⟩|⟨h4,b3⟩:=bl b3
 ·obtain⟨x02,g5,b3⟩:=af b3
  obtain⟨h6,h7,h8⟩:=eU g5
  obtain⟨r03,g9,b3⟩:=af b3
  simp(config:=cS)only[go_sem,eqT h4,h6,h7,h8]
  refine ag (qr @hrec g9) ?_
  obtain⟨h10,b3⟩|⟨h10,b3⟩:=bl b3
  ·cases b3
   obtain rfl:=(aJ gb3).symm
   try dsimp only at h
   cases h
   simp(config:=cS)only[go_sem,eqT h4,h6,h7,h8,eZt h10]
  cases b3
  simp(config:=cS)only[go_sem,eqT h4,h6,h7,h8,eZf h10]
  refine iL gb3 ?_
  simp(config:=cS)only[go_sem,eqT h4,h6,h7,h8,eZf h10]
 cases b3
 obtain rfl:=(aJ gb3).symm
 try dsimp only at h
 cases h
 simp(config:=cS)only[go_sem,eqF h4]
@[go_sem] def uA (k:ByteArray)(v45:List (List Int))(v46 v3_0:Int)(v3_1 v3_2:List Int)(g_0:List GNode)(g_1:List GTie)(g_2:Int):(Int × (List (ByteArray × Bool)))→St
 | (v47,h10001)=>⟨[(0,.ptr 10000 0 0 0),(3,.ptr 192 1 0 0),(5,.lit (.string k)),(8,.lit (.bool true)),(45,.sl (ab (eLS eI) v45)),(46,.lit (.int .i64 v46)),(47,.lit (.int .i64 v47))],[(10000,0,.var [.sl (ab GNode.encS g_0),.sl (ab GTie.enc g_1),.lit (.int .i64 g_2),.mp 10001 0]),(10001,0,.map (eM h10001)),(192,1,.var [.lit (.int .i64 v3_0),.sl (ab eI v3_1),.sl (ab eI v3_2)])],2⟩
@[go_sem] def hi232_13:DT:=.r2 0 14 .nil
@[go_sem] def hi232_10:DT:=.r2 0 5 (.i2 7 (.i2 5 (.i2 6 .nil)))
@[go_sem] def hi232_3:DT:=.r2 0 7 .nil
@[go_sem] def hi232_1:DT:=.r2 0 7 .nil
def wm:Hint where
 acts:=fun _=>[]
 draws:=fun
  | 1=>⟨hi232_1,[[],[0],[0,1],[0,1,2],[],.range 5,.range 6],.range 7⟩
  | 3=>⟨hi232_3,[[],[0],[0,1],[0,1,2],[],.range 5,.range 6],.range 7⟩
  | 10=>⟨hi232_10,[[],[0],[0,1],[0,1,2],[],.range 5,.range 6,[]],.range 8⟩
  | 13=>⟨hi232_13,[[],[],[1],[1,2],[1,2,3],[],[],[1,2,3,4,5,6],.range 8,.range 9,.range 10,.range 10,.range 11,.range 13],[0,1,2,3,4,5,6,7,8,9,10,12,11,13]⟩
  | _=>⟨.nil,[],[]⟩
theorem Yn (i:Nat):wm.acts i=[]:=rfl
attribute[go_sem] Yn ntmps232 results232
@[go_sem] theorem acw:(wm.draws 1).order=hi232_1:=rfl
@[go_sem] theorem acx:(wm.draws 3).order=hi232_3:=rfl
@[go_sem] theorem aaX:(wm.draws 10).order=hi232_10:=rfl
@[go_sem] theorem aaY:(wm.draws 13).order=hi232_13:=rfl
theorem yg {rec:GShow→(List (ByteArray × Bool))→GState→Option (Bool × (List (ByteArray × Bool)))}(hrec:∀ {g_s:GShow} {g_known:List (ByteArray × Bool)} {v1:GState} {res:Bool × (List (ByteArray × Bool))},rec g_s g_known v1=some res→aj prog 232 [.ptr 10000 0 0 0,.agg (GState.encS v1)] [(10000,0,.var [.sl (ab GNode.encS g_s.nodes),.sl (ab GTie.enc g_s.ties),.lit (.int .i64 g_s.horizon),.mp 10001 0]),(10001,0,.map (eM g_known))] (.lit (.bool res.1)) [(10000,0,.var [.sl (ab GNode.encS g_s.nodes),.sl (ab GTie.enc g_s.ties),.lit (.int .i64 g_s.horizon),.mp 10001 0]),(10001,0,.map (eM res.2))]){g_s:GShow}{g_known:List (ByteArray × Bool)}{v1:GState}{res:Bool × (List (ByteArray × Bool))}(h:jm rec g_s g_known v1=some res):aj prog 232 [.ptr 10000 0 0 0,.agg (GState.encS v1)] [(10000,0,.var [.sl (ab GNode.encS g_s.nodes),.sl (ab GTie.enc g_s.ties),.lit (.int .i64 g_s.horizon),.mp 10001 0]),(10001,0,.map (eM g_known))] (.lit (.bool res.1)) [(10000,0,.var [.sl (ab GNode.encS g_s.nodes),.sl (ab GTie.enc g_s.ties),.lit (.int .i64 g_s.horizon),.mp 10001 0]),(10001,0,.map (eM res.2))]:=by
 refine co (hi:=wm) func232 rfl rfl ?_
 unfold jm at h
 obtain⟨r01,g1,h⟩:=af h
 simp(config:=cS)only[go_sem]
 have g1:=ctr g1
 refine ag g1 ?_
 obtain⟨h2,h⟩|⟨h2,h⟩:=bl h
 ·cases h
  simp(config:=cS)only[go_sem,eZt h2]
 obtain⟨r02,g3,h⟩:=af h
 simp(config:=cS)only[go_sem,eZf h2]
 have g3:=ctr g3
 refine ag g3 ?_
 obtain⟨h4,h⟩|⟨h4,h⟩:=bl h
 ·cases h
  simp(config:=cS)only[go_sem,eZf h2,eZt h4]
 obtain⟨r03,g5,h⟩:=af h
 simp(config:=cS)only[go_sem,eZf h2,eZf h4]
 have g5:=ctr g5
 refine ag g5 ?_
 obtain⟨x04,g6,h8⟩|⟨g7,h8⟩:=Eh h
 ·cases h8
  simp(config:=cS)only[go_sem,eZf h2,eZf h4,g6]
 obtain⟨r05,g9,h8⟩:=af h8
 simp(config:=cS)only[go_sem,eZf h2,eZf h4,g7]
 have g9:=ctr g9
 refine ag g9 ?_
 obtain⟨q09,l10,h8⟩:=af h8
 simp(config:=cS)only[go_sem,eZf h2,eZf h4,g7]
 refine ai (m1:=.mk) (m2:=.mk) [.nf [0,3,5,8,45,46,47] [10000,10001,192]] (uA r03 r05 (r05.length:Int) v1.now v1.times v1.values g_s.nodes g_s.ties g_s.horizon) l10 ?_ ?_
 ·simp(config:=cS)only[go_sem,eZf h2,eZf h4,g7]
 intro nb11 sb11 bb11 b11 gb11
 obtain⟨v47_1,h10001_1⟩:=sb11
 unfold iA at b11
 try dsimp only at b11
 obtain⟨h12,b11⟩|⟨h12,b11⟩:=bl b11
 ·obtain⟨x06,g13,b11⟩:=af b11
  obtain⟨h14,h15,h16⟩:=eU g13
  obtain⟨r07,g17,b11⟩:=af b11
  simp(config:=cS)only[go_sem,eZf h2,eZf h4,g7,eqT h12,h14,h15,h16]
  have g17:=ctr g17
  refine ag g17 ?_
  obtain⟨r08,g18,b11⟩:=af b11
  simp(config:=cS)only[go_sem,eZf h2,eZf h4,g7,eqT h12,h14,h15,h16]
  refine ag (qT @hrec g18) ?_
  obtain⟨h19,b11⟩|⟨h19,b11⟩:=bl b11
  ·cases b11
   simp(config:=cS)only[go_sem,eZf h2,eZf h4,g7,eqT h12,h14,h15,h16,eZt h19]
   refine iL gb11 ?_
   simp(config:=cS)only[go_sem,eZf h2,eZf h4,g7,eqT h12,h14,h15,h16,eZt h19]
  cases b11
  obtain rfl:=(aJ gb11).symm
  try dsimp only at h8
  cases h8
  simp(config:=cS)only[go_sem,eZf h2,eZf h4,g7,eqT h12,h14,h15,h16,eZf h19]
 cases b11
 obtain rfl:=(aJ gb11).symm
 try dsimp only at h8
 cases h8
 simp(config:=cS)only[go_sem,eZf h2,eZf h4,g7,eqF h12]
theorem uW (fu:Nat):∀ {g_s:GShow} {g_known:List (ByteArray × Bool)} {v1:GState} {res:Bool × (List (ByteArray × Bool))},jt fu g_s g_known v1=some res→aj prog 232 [.ptr 10000 0 0 0,.agg (GState.encS v1)] [(10000,0,.var [.sl (ab GNode.encS g_s.nodes),.sl (ab GTie.enc g_s.ties),.lit (.int .i64 g_s.horizon),.mp 10001 0]),(10001,0,.map (eM g_known))] (.lit (.bool res.1)) [(10000,0,.var [.sl (ab GNode.encS g_s.nodes),.sl (ab GTie.enc g_s.ties),.lit (.int .i64 g_s.horizon),.mp 10001 0]),(10001,0,.map (eM res.2))]:=by
 induction fu with
 | zero=>intro _ _ _ _ h;cases h
 | succ fu ih=>intro _ _ _ _ h;exact yg (@ih) h
theorem kJ {g_s:GShow}{g_known:List (ByteArray × Bool)}{v1:GState}{res:Bool × (List (ByteArray × Bool))}(h:m_impl_game_wins g_s g_known v1=some res):aj prog 232 [.ptr 10000 0 0 0,.agg (GState.encS v1)] [(10000,0,.var [.sl (ab GNode.encS g_s.nodes),.sl (ab GTie.enc g_s.ties),.lit (.int .i64 g_s.horizon),.mp 10001 0]),(10001,0,.map (eM g_known))] (.lit (.bool res.1)) [(10000,0,.var [.sl (ab GNode.encS g_s.nodes),.sl (ab GTie.enc g_s.ties),.lit (.int .i64 g_s.horizon),.mp 10001 0]),(10001,0,.map (eM res.2))]:=uW 40 h
theorem yh {g_s:GShow}{g_known:List (ByteArray × Bool)}{v1:GState}{nodes:List Int}{res:Bool × (List (ByteArray × Bool))}(h:oq g_s g_known v1 nodes=some res):aj prog 279 [.ptr 10000 0 0 0,.agg (GState.encS v1),.sl (ab eI nodes)] [(10000,0,.var [.sl (ab GNode.encS g_s.nodes),.sl (ab GTie.enc g_s.ties),.lit (.int .i64 g_s.horizon),.mp 10001 0]),(10001,0,.map (eM g_known))] (.lit (.bool res.1)) [(10000,0,.var [.sl (ab GNode.encS g_s.nodes),.sl (ab GTie.enc g_s.ties),.lit (.int .i64 g_s.horizon),.mp 10001 0]),(10001,0,.map (eM res.2))]:=qr (@kJ) h
theorem pi {g_s:GShow}{g_known:List (ByteArray × Bool)}{v1:GState}{res:(List Int) × Bool × (List (ByteArray × Bool))}(h:fJ g_s g_known v1=some res):aj prog 207 [.ptr 10000 0 0 0,.agg (GState.encS v1)] [(10000,0,.var [.sl (ab GNode.encS g_s.nodes),.sl (ab GTie.enc g_s.ties),.lit (.int .i64 g_s.horizon),.mp 10001 0]),(10001,0,.map (eM g_known))] (.tup [.sl (ab eI res.1),.lit (.bool res.2.1)]) [(10000,0,.var [.sl (ab GNode.encS g_s.nodes),.sl (ab GTie.enc g_s.ties),.lit (.int .i64 g_s.horizon),.mp 10001 0]),(10001,0,.map (eM res.2.2))]:=qT (@kJ) h
@[go_sem] def hi287_1:DT:=.r2 0 5 (.i1 6 (.i0 5 [6] (.r2 7 3 .nil)))
def JP:Hint where
 acts:=fun _=>[]
 draws:=fun
  | 1=>⟨hi287_1,[[],[],[0,1],[0,1,2],[0,1,2,3],.range 5,[0,1,2,3],.range 7,.range 8,.range 9],.range 10⟩
  | _=>⟨.nil,[],[]⟩
theorem Yp (i:Nat):JP.acts i=[]:=rfl
attribute[go_sem] Yp ntmps287 results287
@[go_sem] theorem acy:(JP.draws 1).order=hi287_1:=rfl
instance k287 {s:GShow} {v1:GState}:Ctr (nD s v1) (fun (res:Bool)=>aj prog 287 [.agg (GShow.encS s),.agg (GState.encS v1)] [] (.lit (.bool res)) []):=⟨by
 intro res h0
 refine co (hi:=JP) func287 rfl rfl ?_
 unfold nD at h0
 obtain⟨r01,g0,h0⟩:=af h0
 simp(config:=cS)only[go_sem, *]
 have g0:=ctr g0
 refine ag g0 ?_
 obtain⟨_,h0⟩|⟨_,h0⟩:=itB h0
 ·obtain⟨r02,g0,h0⟩:=af h0
  simp(config:=cS)only[go_sem, *]
  have g0:=ctr g0
  refine ag g0 ?_
  obtain⟨r03,g0,h0⟩:=af h0
  simp(config:=cS)only[go_sem, *]
  refine ag (kJ g0) ?_
  exact run
 exact run⟩
@[go_sem] def hi217_1:DT:=.i1 0 (.i2 1 (.i0 2 [0] (.i2 3 (.i2 4 .nil))))
def JQ:Hint where
 acts:=fun _=>[]
 draws:=fun
  | 1=>⟨hi217_1,[[],[],[1],[0,1,2],[0,1,2,3]],.range 5⟩
  | _=>⟨.nil,[],[]⟩
theorem Yr (i:Nat):JQ.acts i=[]:=rfl
attribute[go_sem] Yr ntmps217 results217
@[go_sem] theorem acz:(JQ.draws 1).order=hi217_1:=rfl
instance k217 {s:GShow}:Ctr (kS s) (fun (res:Bool)=>aj prog 217 [.agg (GShow.encS s)] [] (.lit (.bool res)) []):=⟨by
 intro res h0
 refine co (hi:=JQ) func217 rfl rfl ?_
 unfold kS at h0
 exact run⟩
@[go_sem] def uX (v7:List GTie)(v8:Int):(Int × (List Int))→St
 | (v9,out)=>⟨[(3,.ref 255 1 0 out.length),(7,.sl (ab GTie.enc v7)),(8,.lit (.int .i64 v8)),(9,.lit (.int .i64 v9))],[(255,1,.row true (ab eI out))],2⟩
instance k87 {s:GShow}:Ctr (eE s) (fun (res:List Int)=>aj prog 87 [.agg (GShow.encS s)] [] (.ref 20000 1 0 res.length) [(20000,1,.row true (ab eI res))]):=⟨by
 intro res h0
 refine aE (ra:=[.home 2]) (md:=mdT) hT (hi:=hi00) func87 rfl rfl (by decide +kernel) (by simp) ?_
 unfold eE at h0
 obtain⟨q02,l0,h0⟩:=af h0
 simp(config:=cS)only[go_sem, *]
 refine ai (m1:=.mk) (m2:=.mk) [.home 3,.nf [3,7,8,9] [255]] (uX s.ties (s.ties.length:Int)) l0 ?_ ?_
 ·simp(config:=cS)only[go_sem, *]
 have k0:=h0
 clear h0 l0
 intro _ s0 _ h0 gb0
 obtain⟨v9_1,out_1⟩:=s0
 unfold jn at h0
 try dsimp only at h0
 exact run⟩
@[go_sem] def sC (v12:Int)(s_0:List GNode)(s_1:List GTie)(s_2:Int)(v11:List Int):(Int × Int)→St
 | (n,v13)=>⟨[(1,.ptr 64 1 0 0),(3,.lit (.int .i64 n)),(11,.ref 704 1 0 v11.length),(12,.lit (.int .i64 v12)),(13,.lit (.int .i64 v13))],[(64,1,.var [.sl (ab GNode.encS s_0),.sl (ab GTie.enc s_1),.lit (.int .i64 s_2)]),(704,1,.row true (ab eI v11))],2⟩
@[go_sem] def sD (s_0:List GNode)(s_1:List GTie)(s_2:Int):(Int × Int)→St
 | (n,p)=>⟨[(1,.ptr 64 1 0 0),(3,.lit (.int .i64 n)),(6,.lit (.int .i64 p))],[(64,1,.var [.sl (ab GNode.encS s_0),.sl (ab GTie.enc s_1),.lit (.int .i64 s_2)])],2⟩
@[go_sem] def hi25_7:DT:=.r2 0 17 .nil
def hi25:Hint where
 acts:=fun _=>[]
 draws:=fun
  | 7=>⟨hi25_7,[[],[],[1],[],[1,2,3],[1,2,3,4],[1,2,3,4,5],[],[7],[],[7,8,9],[7,8,9,10],[7,8,9,10,11],[1,2,3,4,5,6,7,8,9,10,11,12],[1,2,3,4,5,6,7,8,9,10,11,12,13],.range 15,.range 16],.range 17⟩
  | _=>⟨.nil,[],[]⟩
theorem aae (i:Nat):hi25.acts i=[]:=rfl
attribute[go_sem] aae ntmps25 results25
@[go_sem] theorem adk:(hi25.draws 7).order=hi25_7:=rfl
instance k25 {s:GShow}:Ctr (cH s) (fun (res:Int)=>aj prog 25 [.agg (GShow.encS s)] [] (.lit (.int .i64 res)) []):=⟨by
 intro res h0
 refine co (hi:=hi25) func25 rfl rfl ?_
 unfold cH at h0
 obtain⟨r01,g0,h0⟩:=af h0
 simp(config:=cS)only[go_sem, *]
 have g0:=ctr g0
 refine ag g0 ?_
 obtain⟨_,h0⟩|⟨_,h0⟩:=itB h0
 ·obtain⟨r02,g0,h0⟩:=af h0
  simp(config:=cS)only[go_sem, *]
  have g0:=ctr g0
  refine ag g0 ?_
  obtain⟨q07,l0,h0⟩:=af h0
  simp(config:=cS)only[go_sem, *]
  refine ai (m1:=.mk) (m2:=.mk) [.nf [1,3,11,12,13] [64,704]] (sC (r02.length:Int) s.nodes s.ties s.horizon r02) l0 ?_ ?_
  ·simp(config:=cS)only[go_sem, *]
  have k0:=h0
  clear h0 l0
  intro _ s0 _ h0 gb0
  obtain⟨n_1,v13_1⟩:=s0
  unfold cW at h0
  try dsimp only at h0
  obtain⟨_,h0⟩|⟨_,h0⟩:=itP h0
  ·exact run
  cases h0
  obtain rfl:=(aJ gb0).symm
  clear gb0
  have h0:=k0
  clear k0
  try dsimp only at h0
  obtain⟨q06,l0,h0⟩:=af h0
  simp(config:=cS)only[go_sem, *]
  refine ai (m1:=.mk) (m2:=.mk) [.nf [1,3,6] [64]] (sD s.nodes s.ties s.horizon) l0 ?_ ?_
  ·simp(config:=cS)only[go_sem, *]
  have k0:=h0
  clear h0 l0
  intro _ s0 _ h0 gb0
  obtain⟨n_2,p_2⟩:=s0
  unfold cz at h0
  try dsimp only at h0
  exact run
 exact run⟩
@[go_sem] def uY (v13:Int)(s_0:List GNode)(s_1:List GTie)(s_2:Int)(v12:List Int):(Int × Int × (List Int))→St
 | (n,v14,h100020480)=>⟨[(1,.lit (.int .i64 n)),(2,.ptr 128 1 0 0),(4,.ptr 256 1 0 0),(5,.ptr 320 1 0 0),(12,.ref 768 1 0 v12.length),(13,.lit (.int .i64 v13)),(14,.lit (.int .i64 v14))],[(128,1,.var [.sl (ab GNode.encS s_0),.sl (ab GTie.enc s_1),.lit (.int .i64 s_2)]),(256,1,.var [.lit (.slice none 0 0),.lit (.slice none 0 0)]),(320,1,.var [.ref 100020480 1 0 h100020480.length,.lit (.slice none 0 0)]),(100020480,1,.row true (ab eI h100020480)),(768,1,.row true (ab eI v12))],2⟩
@[go_sem] def uZ (s_0:List GNode)(s_1:List GTie)(s_2:Int)(h100020480:List Int):(Int × Int × (List Int))→St
 | (n,p,h100020481)=>⟨[(1,.lit (.int .i64 n)),(2,.ptr 128 1 0 0),(4,.ptr 256 1 0 0),(5,.ptr 320 1 0 0),(9,.lit (.int .i64 p))],[(128,1,.var [.sl (ab GNode.encS s_0),.sl (ab GTie.enc s_1),.lit (.int .i64 s_2)]),(256,1,.var [.lit (.slice none 0 0),.lit (.slice none 0 0)]),(320,1,.var [.ref 100020480 1 0 h100020480.length,.ref 100020481 1 0 h100020481.length]),(100020480,1,.row true (ab eI h100020480)),(100020481,1,.row true (ab eI h100020481))],2⟩
@[go_sem] def hi89_6:DT:=.i1 0 (.i1 1 (.r2 2 10 (.i0 12 [0,1] (.r2 13 3 .nil))))
@[go_sem] def hi89_5:DT:=.r2 0 15 .nil
def hi89:Hint where
 acts:=fun _=>[]
 draws:=fun
  | 5=>⟨hi89_5,[[],[0],[],[0,1,2],[0,1,2,3],.range 5,[],[6],[],[6,7,8],[6,7,8,9],[6,7,8,9,10],.range 12,.range 13,.range 14],.range 15⟩
  | 6=>⟨hi89_6,[[],[0],[],[2],[],[2,3,4],[2,3,4,5],[2,3,4,5,6],[],[],[8,9],[2,3,4,5,6,7,8,9,10],[2,3,4,5,6,7,8,9,10,11],.range 13,.range 14,.range 15],.range 16⟩
  | _=>⟨.nil,[],[]⟩
theorem aag (i:Nat):hi89.acts i=[]:=rfl
attribute[go_sem] aag ntmps89 results89
@[go_sem] theorem adl:(hi89.draws 5).order=hi89_5:=rfl
@[go_sem] theorem adm:(hi89.draws 6).order=hi89_6:=rfl
instance k89 {s:GShow} {n:Int}:Ctr (cG s n) (fun (res:GChoice)=>aj prog 89 [.agg (GShow.encS s),.lit (.int .i64 n)] [] (.agg [.ref 20000 1 0 res.lengths.length,.ref 20001 1 0 res.values.length]) [(20000,1,.row true (ab eI res.lengths)),(20001,1,.row true (ab eI res.values))]):=⟨by
 intro res h0
 refine aE (ra:=[.homeCell 256 0,.homeCell 256 1]) (md:=mdT) hT (hi:=hi89) func89 rfl rfl (by decide +kernel) (by simp) ?_
 unfold cG at h0
 obtain⟨r01,g0,h0⟩:=af h0
 simp(config:=cS)only[go_sem, *]
 have g0:=ctr g0
 refine ag g0 ?_
 obtain⟨q06,l0,h0⟩:=af h0
 simp(config:=cS)only[go_sem, *]
 refine ai (m1:=.mk) (m2:=.mk) [.homeCell 320 0,.nf [1,2,4,5,12,13,14] [128,256,320,100020480,768]] (uY (r01.length:Int) s.nodes s.ties s.horizon r01) l0 ?_ ?_
 ·simp(config:=cS)only[go_sem, *]
 have k0:=h0
 clear h0 l0
 intro _ s0 _ h0 gb0
 obtain⟨n_1,v14_1,h100020480_1⟩:=s0
 unfold dx at h0
 try dsimp only at h0
 obtain⟨_,h0⟩|⟨_,h0⟩:=itP h0
 ·exact run
 cases h0
 obtain rfl:=(aJ gb0).symm
 clear gb0
 have h0:=k0
 clear k0
 try dsimp only at h0
 obtain⟨q05,l0,h0⟩:=af h0
 simp(config:=cS)only[go_sem, *]
 refine ai (m1:=.mk) (m2:=.mk) [.homeCell 320 1,.nf [1,2,4,5,9] [128,256,320,100020480,100020481]] (uZ s.nodes s.ties s.horizon h100020480_1) l0 ?_ ?_
 ·simp(config:=cS)only[go_sem, *]
 have k0:=h0
 clear h0 l0
 intro _ s0 _ h0 gb0
 obtain⟨n_2,p_2,h100020481_2⟩:=s0
 unfold gv at h0
 try dsimp only at h0
 exact run⟩
@[go_sem] def va (v25:Int)(s_0:List GNode)(s_1:List GTie)(s_2:Int)(v3_0 v3_1 v24:List Int)(v26:Int):St:=⟨[(2,.ptr 128 1 0 0),(3,.ptr 192 1 0 0),(24,.ref 704 1 0 v24.length),(25,.lit (.int .i64 v25)),(26,.lit (.int .i64 v26))],[(128,1,.var [.sl (ab GNode.encS s_0),.sl (ab GTie.enc s_1),.lit (.int .i64 s_2)]),(192,1,.var [.sl (ab eI v3_0),.sl (ab eI v3_1)]),(704,1,.row true (ab eI v24))],2⟩
@[go_sem] def vb (v59:List Int)(v60:Int)(s_0:List GNode)(s_1:List GTie)(s_2 v61:Int):St:=⟨[(2,.ptr 128 1 0 0),(59,.sl (ab eI v59)),(60,.lit (.int .i64 v60)),(61,.lit (.int .i64 v61))],[(128,1,.var [.sl (ab GNode.encS s_0),.sl (ab GTie.enc s_1),.lit (.int .i64 s_2)])],2⟩
@[go_sem] def hi103_7:DT:=.r2 0 26 .nil
def JR:Hint where
 acts:=fun _=>[]
 draws:=fun
  | 7=>⟨hi103_7,[[],[0],[],[0,1,2],[0,1,2,3],[],[5],[],[5,6,7],[5,6,7,8],[5,6,7,8,9],.range 11,.range 12,.range 13,.range 14,.range 13,.range 16,.range 17,.range 13,[0,1,2,3,4,5,6,7,8,9,10,11,12,18],.range 13,[0,1,2,3,4,5,6,7,8,9,10,11,12,18,19,20],[0,1,2,3,4,5,6,7,8,9,10,11,12,18,19,20,21],[0,1,2,3,4,5,6,7,8,9,10,11,12,18,19,20,21,22],.range 24,.range 25],.range 26⟩
  | _=>⟨.nil,[],[]⟩
theorem Yt (i:Nat):JR.acts i=[]:=rfl
attribute[go_sem] Yt ntmps103 results103
@[go_sem] theorem acA:(JR.draws 7).order=hi103_7:=rfl
instance k103 {s:GShow} {v1:GChoice}:Ctr (gU s v1) (fun (res:Bool)=>aj prog 103 [.agg (GShow.encS s),.agg [.sl (ab eI v1.lengths),.sl (ab eI v1.values)]] [] (.lit (.bool res)) []):=⟨by
 intro res h0
 refine co (hi:=JR) func103 rfl rfl ?_
 unfold gU at h0
 obtain⟨r01,g0,h0⟩:=af h0
 simp(config:=cS)only[go_sem, *]
 have g0:=ctr g0
 refine ag g0 ?_
 obtain⟨_,h0⟩|⟨_,h0⟩:=itP h0
 ·obtain⟨_,h0⟩|⟨_,h0⟩:=itP h0
  ·obtain⟨q09,l0,h0⟩:=af h0
   simp(config:=cS)only[go_sem, *]
   refine ai (m1:=.mk) (m2:=.mk) [.nf [2,3,24,25,26] [128,192,704]] (va (r01.length:Int) s.nodes s.ties s.horizon v1.lengths v1.values r01) l0 ?_ ?_
   ·simp(config:=cS)only[go_sem, *]
   have k0:=h0
   clear h0 l0
   intro _ v26_1 _ h0 gb0
   unfold gw at h0
   try dsimp only at h0
   obtain⟨_,h0⟩|⟨_,h0⟩:=itP h0
   ·exact run
   cases h0
   obtain rfl:=(aJ gb0).symm
   clear gb0
   have h0:=k0
   clear k0
   try dsimp only at h0
   obtain⟨q08,l0,h0⟩:=af h0
   simp(config:=cS)only[go_sem, *]
   refine ai (m1:=.mk) (m2:=.mk) [.nf [2,59,60,61] [128]] (vb v1.values (v1.values.length:Int) s.nodes s.ties s.horizon) l0 ?_ ?_
   ·simp(config:=cS)only[go_sem, *]
   have k0:=h0
   clear h0 l0
   intro _ v61_2 _ h0 gb0
   unfold gx at h0
   try dsimp only at h0
   exact run
  exact run
 exact run⟩
instance k90 {s:GShow} {v1:GChoice}:Ctr (ju s v1) (fun (res:Bool)=>aj prog 90 [.agg (GShow.encS s),.agg [.sl (ab eI v1.lengths),.sl (ab eI v1.values)]] [] (.lit (.bool res)) []):=⟨by
 intro res h0
 refine co (hi:=hi00) func90 rfl rfl ?_
 unfold ju at h0
 exact run⟩
@[go_sem] def hi69_1:DT:=.r2 0 11 .nil
def hi69:Hint where
 acts:=fun _=>[]
 draws:=fun
  | 1=>⟨hi69_1,[[],[0],[],[0,1,2],[0,1,2,3],.range 5,[],[6],.range 8,.range 9,.range 10],.range 11⟩
  | _=>⟨.nil,[],[]⟩
theorem aai (i:Nat):hi69.acts i=[]:=rfl
attribute[go_sem] aai ntmps69 results69
@[go_sem] theorem adn:(hi69.draws 1).order=hi69_1:=rfl
instance k69 {s:GShow} {v1:GChoice} {node:Int}:Ctr (dW s v1 node) (fun (res:Bool)=>aj prog 69 [.agg (GShow.encS s),.agg [.sl (ab eI v1.lengths),.sl (ab eI v1.values)],.lit (.int .i64 node)] [] (.lit (.bool res)) []):=⟨by
 intro res h0
 refine co (hi:=hi69) func69 rfl rfl ?_
 unfold dW at h0
 exact run⟩
instance k252 {from_:Int} {to:Int} {low:Int} {high:Int} {reason:ByteArray} {out:GSimple} {reasons:List ByteArray}:Ctr (dg from_ to low high reason out reasons) (fun (res:GSimple × (List ByteArray))=>aj prog 252 [.lit (.int .i64 from_),.lit (.int .i64 to),.lit (.int .i64 low),.lit (.int .i64 high),.lit (.string reason),.ptr 10000 0 0 0,.ptr 10002 0 0 0] [(10000,0,.var [.lit (.int .i64 out.events),.ref 10001 0 0 out.links.length]),(10001,0,.row true (ab GLink.enc out.links)),(10002,0,.var [.ref 10003 0 0 reasons.length]),(10003,0,.row true (ab eS reasons))] (.tup []) [(10000,0,.var [.lit (.int .i64 res.1.events),.ref 20000 1 0 res.1.links.length]),(10002,0,.var [.ref 20001 1 0 res.2.length]),(20000,1,.row true (ab GLink.enc res.1.links)),(20001,1,.row true (ab eS res.2))]):=⟨by
 intro res h0
 refine co (hi:=hi00) func252 rfl rfl ?_
 unfold dg at h0
 exact run⟩
instance k110 {n:Int}:Ctr (cX n) (fun (res:ByteArray)=>aj prog 110 [.lit (.int .i64 n)] [] (.lit (.string res)) []):=⟨by
 intro res h0
 refine co (hi:=hi00) func110 rfl rfl ?_
 unfold cX at h0
 obtain⟨r01,g0,h0⟩:=af h0
 simp(config:=cS)only[go_sem, *]
 refine ag (HL g0) ?_
 exact run⟩
instance k113 {l:List ByteArray} {by_:ByteArray}:Ctr (kl l by_) (fun (res:ByteArray)=>aj prog 113 [.sl (ab eS l),.lit (.string by_)] [] (.lit (.string res)) []):=⟨by
 intro res h0
 refine co (hi:=hi00) func113 rfl rfl ?_
 unfold kl at h0
 obtain⟨r01,g0,h0⟩:=af h0
 simp(config:=cS)only[go_sem, *]
 refine ag (HM g0) ?_
 exact run⟩
@[go_sem] def hi253_5:DT:=.i2 0 (.i1 1 (.i1 2 (.i1 3 (.i1 4 (.i1 5 (.i1 6 (.i1 7 (.i1 8 (.i1 9 (.i1 10 (.i1 11 (.i1 12 (.i1 13 (.i1 14 (.i2 15 (.i2 16 (.i1 18 (.i1 19 (.i0 17 [1,2,3,4,5,6,7,8,9,10,11,12,13,14,18,19] (.i0 20 [1,2,3,4,5,6,7,8,9,10,11,12,13,14] (.r2 21 3 .nil)))))))))))))))))))))
def JS:Hint where
 acts:=fun _=>[]
 draws:=fun
  | 5=>⟨hi253_5,[[],[],[1],[],[3],[1,2,3,4],[1,2,3,4,5],[1,2,3,4,5,6],[],[8],[],[10],[8,9,10,11],[8,9,10,11,12],[8,9,10,11,12,13],[],[15],[15,16],[],[18],[15,16,17,18,19],.range 21,.range 22,.range 23],.range 24⟩
  | _=>⟨.nil,[],[]⟩
theorem Yv (i:Nat):JS.acts i=[]:=rfl
attribute[go_sem] Yv ntmps253 results253
@[go_sem] theorem acB:(JS.draws 5).order=hi253_5:=rfl
instance k253 {s:GShow} {i:Int}:Ctr (kC s i) (fun (res:ByteArray)=>aj prog 253 [.agg (GShow.encS s),.lit (.int .i64 i)] [] (.lit (.string res)) []):=⟨by
 intro res h0
 refine co (hi:=JS) func253 rfl rfl ?_
 unfold kC at h0
 exact run⟩
@[go_sem] def wn (v28:List GNode)(v29:Int)(s_1:List GTie)(s_2:Int)(v3_0 v3_1:List Int):(Int × Int × (List GLink) × (List ByteArray))→St
 | (v30,out_0,h100024577,h100028672)=>⟨[(2,.ptr 128 1 0 0),(3,.ptr 192 1 0 0),(4,.ptr 256 1 0 0),(6,.ptr 384 1 0 0),(7,.ptr 448 1 0 0),(8,.fn 252 [.ptr 384 1 0 0,.ptr 448 1 0 0]),(28,.sl (ab GNode.encS v28)),(29,.lit (.int .i64 v29)),(30,.lit (.int .i64 v30))],[(128,1,.var [.sl (ab GNode.encS v28),.sl (ab GTie.enc s_1),.lit (.int .i64 s_2)]),(192,1,.var [.sl (ab eI v3_0),.sl (ab eI v3_1)]),(256,1,.var [.lit (.int .i64 0),.lit (.slice none 0 0)]),(384,1,.var [.lit (.int .i64 out_0),.ref 100024577 1 0 h100024577.length]),(100024577,1,.row true (ab GLink.enc h100024577)),(448,1,.var [.ref 100028672 1 0 h100028672.length]),(100028672,1,.row true (ab eS h100028672))],2⟩
@[go_sem] def wo (v51:List GTie)(v52:Int)(s_0:List GNode)(s_2:Int)(v3_0 v3_1 free:List Int):(Int × Int × (List GLink) × (List ByteArray))→St
 | (v53,out_0,h100024577,h100028672)=>⟨[(2,.ptr 128 1 0 0),(3,.ptr 192 1 0 0),(4,.ptr 256 1 0 0),(6,.ptr 384 1 0 0),(7,.ptr 448 1 0 0),(8,.fn 252 [.ptr 384 1 0 0,.ptr 448 1 0 0]),(11,.ref 3136 1 0 free.length),(51,.sl (ab GTie.enc v51)),(52,.lit (.int .i64 v52)),(53,.lit (.int .i64 v53))],[(128,1,.var [.sl (ab GNode.encS s_0),.sl (ab GTie.enc v51),.lit (.int .i64 s_2)]),(192,1,.var [.sl (ab eI v3_0),.sl (ab eI v3_1)]),(256,1,.var [.lit (.int .i64 0),.lit (.slice none 0 0)]),(384,1,.var [.lit (.int .i64 out_0),.ref 100024577 1 0 h100024577.length]),(100024577,1,.row true (ab GLink.enc h100024577)),(448,1,.var [.ref 100028672 1 0 h100028672.length]),(100028672,1,.row true (ab eS h100028672)),(3136,1,.row true (ab eI free))],2⟩
@[go_sem] def wq (v100:Int)(s_0:List GNode)(s_1:List GTie)(s_2:Int)(v3_0 v3_1:List Int):(Int × Int × (List GLink) × (List ByteArray))→St
 | (v101,out_0,h100024577,h100028672)=>⟨[(2,.ptr 128 1 0 0),(3,.ptr 192 1 0 0),(4,.ptr 256 1 0 0),(6,.ptr 384 1 0 0),(7,.ptr 448 1 0 0),(8,.fn 252 [.ptr 384 1 0 0,.ptr 448 1 0 0]),(100,.lit (.int .i64 v100)),(101,.lit (.int .i64 v101))],[(128,1,.var [.sl (ab GNode.encS s_0),.sl (ab GTie.enc s_1),.lit (.int .i64 s_2)]),(192,1,.var [.sl (ab eI v3_0),.sl (ab eI v3_1)]),(256,1,.var [.lit (.int .i64 0),.lit (.slice none 0 0)]),(384,1,.var [.lit (.int .i64 out_0),.ref 100024577 1 0 h100024577.length]),(100024577,1,.row true (ab GLink.enc h100024577)),(448,1,.var [.ref 100028672 1 0 h100028672.length]),(100028672,1,.row true (ab eS h100028672))],2⟩
@[go_sem] def wu (i:Int)(v114:List GNode)(v115:Int)(v122:List Int)(v123:Int)(s_1:List GTie)(s_2:Int)(v3_0 v3_1:List Int)(n_0:ByteArray)(n_2:Int):(Int × Int × (List GLink) × (List ByteArray))→St
 | (v124,out_0,h100024577,h100028672)=>⟨[(2,.ptr 128 1 0 0),(3,.ptr 192 1 0 0),(4,.ptr 256 1 0 0),(6,.ptr 384 1 0 0),(7,.ptr 448 1 0 0),(8,.fn 252 [.ptr 384 1 0 0,.ptr 448 1 0 0]),(17,.lit (.int .i64 i)),(18,.ptr 1152 1 0 0),(114,.sl (ab GNode.encS v114)),(115,.lit (.int .i64 v115)),(116,.lit (.int .i64 i)),(122,.sl (ab eI v122)),(123,.lit (.int .i64 v123)),(124,.lit (.int .i64 v124))],[(128,1,.var [.sl (ab GNode.encS v114),.sl (ab GTie.enc s_1),.lit (.int .i64 s_2)]),(192,1,.var [.sl (ab eI v3_0),.sl (ab eI v3_1)]),(256,1,.var [.lit (.int .i64 0),.lit (.slice none 0 0)]),(384,1,.var [.lit (.int .i64 out_0),.ref 100024577 1 0 h100024577.length]),(100024577,1,.row true (ab GLink.enc h100024577)),(448,1,.var [.ref 100028672 1 0 h100028672.length]),(100028672,1,.row true (ab eS h100028672)),(1152,1,.var [.lit (.string n_0),.sl (ab eI v122),.lit (.int .i64 n_2)])],2⟩
@[go_sem] def wv (v114:List GNode)(v115:Int)(s_1:List GTie)(s_2:Int)(v3_0 v3_1:List Int):(Int × Int × (List GLink) × (List ByteArray))→St
 | (v116,out_0,h100024577,h100028672)=>⟨[(2,.ptr 128 1 0 0),(3,.ptr 192 1 0 0),(4,.ptr 256 1 0 0),(6,.ptr 384 1 0 0),(7,.ptr 448 1 0 0),(8,.fn 252 [.ptr 384 1 0 0,.ptr 448 1 0 0]),(114,.sl (ab GNode.encS v114)),(115,.lit (.int .i64 v115)),(116,.lit (.int .i64 v116))],[(128,1,.var [.sl (ab GNode.encS v114),.sl (ab GTie.enc s_1),.lit (.int .i64 s_2)]),(192,1,.var [.sl (ab eI v3_0),.sl (ab eI v3_1)]),(256,1,.var [.lit (.int .i64 0),.lit (.slice none 0 0)]),(384,1,.var [.lit (.int .i64 out_0),.ref 100024577 1 0 h100024577.length]),(100024577,1,.row true (ab GLink.enc h100024577)),(448,1,.var [.ref 100028672 1 0 h100028672.length]),(100028672,1,.row true (ab eS h100028672))],2⟩
@[go_sem] def hi171_38:DT:=.i2 0 (.i1 1 (.i0 2 [1] (.i2 3 .nil)))
@[go_sem] def hi171_35:DT:=.r2 0 15 .nil
@[go_sem] def hi171_34:DT:=.i1 0 (.i2 1 (.i0 2 [0] (.i2 3 (.i2 4 .nil))))
@[go_sem] def hi171_19:DT:=.i2 0 (.i1 1 (.i1 2 (.i1 3 (.i1 4 (.r2 5 4 (.i0 9 [1,2,3,4] (.i2 10 .nil)))))))
@[go_sem] def hi171_17:DT:=.i1 0 (.i1 1 (.i2 2 (.i2 3 (.i0 4 [0,1] (.r2 5 3 .nil)))))
@[go_sem] def hi171_15:DT:=.r2 0 6 .nil
def bF:Hint where
 acts:=fun i=>match i with|8=>[.homeCell 384 1,.homeCell 448 0]|_=>[]
 draws:=fun
  | 15=>⟨hi171_15,[[],[0],[],[2],[0,1],.range 5],[0,1,3,4,2,5]⟩
  | 17=>⟨hi171_17,[[],[0],[],[],[2,3],.range 5,.range 6,.range 7],.range 8⟩
  | 19=>⟨hi171_19,[[],[],[1],[],[3],[],[],[],[],[7,8],.range 10],.range 11⟩
  | 34=>⟨hi171_34,[[],[],[1],[0,1,2],[0,1,2,3]],.range 5⟩
  | 35=>⟨hi171_35,[[],[],[],[],[3],[],[3,4,5],[3,4,5,6],[3,4,5,6,7],[3,4,5,6,7,8],[3,4,5,6,7,8,9],[],[11],[3,4,5,6,7,8,9,10,11,12],.range 14],.range 15⟩
  | 38=>⟨hi171_38,[[],[],[0],[0,1,2]],[0,2,1,3]⟩
  | _=>⟨.nil,[],[]⟩
@[go_sem] theorem acC:bF.acts 0=[]:=rfl
@[go_sem] theorem acD:bF.acts 1=[]:=rfl
@[go_sem] theorem acE:bF.acts 2=[]:=rfl
@[go_sem] theorem acF:bF.acts 3=[]:=rfl
@[go_sem] theorem acG:bF.acts 4=[]:=rfl
@[go_sem] theorem acH:bF.acts 5=[]:=rfl
@[go_sem] theorem acI:bF.acts 6=[]:=rfl
@[go_sem] theorem acJ:bF.acts 7=[]:=rfl
@[go_sem] theorem acK:bF.acts 8=[.homeCell 384 1,.homeCell 448 0]:=rfl
@[go_sem] theorem acL:bF.acts 9=[]:=rfl
@[go_sem] theorem aaZ:bF.acts 10=[]:=rfl
@[go_sem] theorem aba:bF.acts 11=[]:=rfl
@[go_sem] theorem abb:bF.acts 12=[]:=rfl
@[go_sem] theorem abc:bF.acts 13=[]:=rfl
@[go_sem] theorem abd:bF.acts 14=[]:=rfl
@[go_sem] theorem abe:bF.acts 15=[]:=rfl
@[go_sem] theorem abf:bF.acts 16=[]:=rfl
@[go_sem] theorem abg:bF.acts 17=[]:=rfl
@[go_sem] theorem abh:bF.acts 18=[]:=rfl
@[go_sem] theorem abi:bF.acts 19=[]:=rfl
@[go_sem] theorem abj:bF.acts 20=[]:=rfl
@[go_sem] theorem abk:bF.acts 21=[]:=rfl
@[go_sem] theorem abl:bF.acts 22=[]:=rfl
@[go_sem] theorem abm:bF.acts 23=[]:=rfl
@[go_sem] theorem abn:bF.acts 24=[]:=rfl
@[go_sem] theorem abo:bF.acts 25=[]:=rfl
@[go_sem] theorem abp:bF.acts 26=[]:=rfl
@[go_sem] theorem abq:bF.acts 27=[]:=rfl
@[go_sem] theorem abr:bF.acts 28=[]:=rfl
@[go_sem] theorem abt:bF.acts 29=[]:=rfl
@[go_sem] theorem abu:bF.acts 30=[]:=rfl
@[go_sem] theorem abw:bF.acts 31=[]:=rfl
@[go_sem] theorem abx:bF.acts 32=[]:=rfl
@[go_sem] theorem aby:bF.acts 33=[]:=rfl
@[go_sem] theorem abz:bF.acts 34=[]:=rfl
@[go_sem] theorem abA:bF.acts 35=[]:=rfl
@[go_sem] theorem abB:bF.acts 36=[]:=rfl
@[go_sem] theorem abC:bF.acts 37=[]:=rfl
@[go_sem] theorem abD:bF.acts 38=[]:=rfl
@[go_sem] theorem abE:(bF.draws 15).order=hi171_15:=rfl
@[go_sem] theorem abF:(bF.draws 17).order=hi171_17:=rfl
@[go_sem] theorem abG:(bF.draws 19).order=hi171_19:=rfl
@[go_sem] theorem abH:(bF.draws 34).order=hi171_34:=rfl
@[go_sem] theorem abI:(bF.draws 35).order=hi171_35:=rfl
@[go_sem] theorem abJ:(bF.draws 38).order=hi171_38:=rfl
instance k171 {s:GShow} {v1:GChoice}:Ctr (mH s v1) (fun (res:GSimple × (List ByteArray))=>aj prog 171 [.agg (GShow.encS s),.agg [.sl (ab eI v1.lengths),.sl (ab eI v1.values)]] [] (.tup [.agg [.lit (.int .i64 res.1.events),.ref 20000 1 0 res.1.links.length],.ref 20001 1 0 res.2.length]) [(20000,1,.row true (ab GLink.enc res.1.links)),(20001,1,.row true (ab eS res.2))]):=⟨by
 intro res h0
 refine aE (ra:=[.homeCell 256 1,.home 5]) (md:=mdT) hT (hi:=bF) func171 rfl rfl (by decide +kernel) (by simp) ?_
 unfold mH at h0
 obtain⟨q27,l0,h0⟩:=af h0
 simp(config:=cS)only[go_sem, *]
 refine ai (m1:=.mk) (m2:=.mk) [.homeCell 384 1,.homeCell 448 0,.nfp [2,3,4,6,7,8,28,29,30] [(128,128),(192,192),(256,256),(384,384),(2944,100024577),(100024577,100024577),(448,448),(2945,100028672),(100028672,100028672)] []] (wn s.nodes (s.nodes.length:Int) s.ties s.horizon v1.lengths v1.values) l0 ?_ ?_
 ·simp(config:=cS)only[go_sem, *]
 have k0:=h0
 clear h0 l0
 intro _ s0 _ h0 gb0
 obtain⟨v30_1,out_0_1,h100024577_1,h100028672_1⟩:=s0
 unfold jR at h0
 try dsimp only at h0
 obtain⟨_,h0⟩|⟨_,h0⟩:=itP h0
 ·exact run
 cases h0
 obtain rfl:=(aJ gb0).symm
 clear gb0
 have h0:=k0
 clear k0
 try dsimp only at h0
 obtain⟨r04,g0,h0⟩:=af h0
 simp(config:=cS)only[go_sem, *]
 have g0:=ctr g0
 refine ag g0 ?_
 obtain⟨q26,l0,h0⟩:=af h0
 simp(config:=cS)only[go_sem, *]
 refine ai (m1:=.mk) (m2:=.mk) [.nfp [2,3,4,6,7,8,11,51,52,53] [(128,128),(192,192),(256,256),(384,384),(6144,100024577),(100024577,100024577),(448,448),(6145,100028672),(100028672,100028672),(3136,3136)] []] (wo s.ties (s.ties.length:Int) s.nodes s.horizon v1.lengths v1.values r04) l0 ?_ ?_
 ·simp(config:=cS)only[go_sem, *]
 have k0:=h0
 clear h0 l0
 intro _ s0 _ h0 gb0
 obtain⟨v53_2,out_0_2,h100024577_2,h100028672_2⟩:=s0
 unfold jS at h0
 try dsimp only at h0
 obtain⟨_,h0⟩|⟨_,h0⟩:=itP h0
 ·exact run
 cases h0
 obtain rfl:=(aJ gb0).symm
 clear gb0
 have h0:=k0
 clear k0
 try dsimp only at h0
 obtain⟨q25,l0,h0⟩:=af h0
 simp(config:=cS)only[go_sem, *]
 refine ai (m1:=.mk) (m2:=.mk) [.nfp [2,3,4,6,7,8,100,101] [(128,128),(192,192),(256,256),(384,384),(7104,100024577),(100024577,100024577),(448,448),(7105,100028672),(100028672,100028672)] []] (wq (s.nodes.length:Int) s.nodes s.ties s.horizon v1.lengths v1.values) l0 ?_ ?_
 ·simp(config:=cS)only[go_sem, *]
 have k0:=h0
 clear h0 l0
 intro _ s0 _ h0 gb0
 obtain⟨v101_3,out_0_3,h100024577_3,h100028672_3⟩:=s0
 unfold jT at h0
 try dsimp only at h0
 obtain⟨_,h0⟩|⟨_,h0⟩:=itP h0
 ·exact run
 cases h0
 obtain rfl:=(aJ gb0).symm
 clear gb0
 have h0:=k0
 clear k0
 try dsimp only at h0
 obtain⟨q24,l0,h0⟩:=af h0
 simp(config:=cS)only[go_sem, *]
 refine ai (m1:=.mk) (m2:=.mk) [.nf [2,3,4,6,7,8,114,115,116] [128,192,256,384,100024577,448,100028672]] (wv s.nodes (s.nodes.length:Int) s.ties s.horizon v1.lengths v1.values) l0 ?_ ?_
 ·simp(config:=cS)only[go_sem, *]
 have k0:=h0
 clear h0 l0
 intro _ s0 _ h0 gb0
 obtain⟨v116_4,out_0_4,h100024577_4,h100028672_4⟩:=s0
 unfold jV at h0
 try dsimp only at h0
 obtain⟨_,h0⟩|⟨_,h0⟩:=itP h0
 ·obtain⟨x16,_,_,_,h0⟩:=gtI h0
  obtain⟨q23,l0,h0⟩:=af h0
  simp(config:=cS)only[go_sem, *]
  refine ai (m1:=.mk) (m2:=.mk) [.nfp [2,3,4,6,7,8,17,18,114,115,116,122,123,124] [(128,128),(192,192),(256,256),(384,384),(9600,100024577),(100024577,100024577),(448,448),(9601,100028672),(100028672,100028672),(1152,1152)] []] (wu v116_4 s.nodes (s.nodes.length:Int) x16.label (x16.label.length:Int) s.ties s.horizon v1.lengths v1.values x16.name x16.watch) l0 ?_ ?_
  ·simp(config:=cS)only[go_sem, *]
  have k0:=h0
  clear h0 l0
  intro _ s0 _ h0 gb0
  obtain⟨v124_5,out_0_5,h100024577_5,h100028672_5⟩:=s0
  unfold jU at h0
  try dsimp only at h0
  obtain⟨_,h0⟩|⟨_,h0⟩:=itP h0
  ·obtain⟨x17,_,_,_,h0⟩:=gtI h0
   obtain⟨r18,g0,h0⟩:=af h0
   simp(config:=cS)only[go_sem, *]
   have g0:=ctr g0
   refine ag g0 ?_
   obtain⟨_,h0⟩|⟨_,h0⟩:=itB h0
   ·obtain⟨r19,g0,h0⟩:=af h0
    simp(config:=cS)only[go_sem, *]
    have g0:=ctr g0
    refine ag g0 ?_
    obtain⟨r20,g0,h0⟩:=af h0
    simp(config:=cS)only[go_sem, *]
    have g0:=ctr g0
    refine ag g0 ?_
    obtain⟨x21,_,_,_,h0⟩:=gtI h0
    obtain⟨_,h0⟩:=ckP h0
    obtain⟨a1,h0⟩:=ckP h0
    try simp(config:=cS)only[go_sem]at a1
    obtain⟨a2,h0⟩:=ckP h0
    try simp(config:=cS)only[go_sem]at a2
    exact run
   exact run
  exact run
 exact run⟩
instance k68 {s:GShow} {v1:GChoice}:Ctr (gy s v1) (fun (res:GSimple × Bool)=>aj prog 68 [.agg (GShow.encS s),.agg [.sl (ab eI v1.lengths),.sl (ab eI v1.values)]] [] (.tup [.agg [.lit (.int .i64 res.1.events),.ref 20000 1 0 res.1.links.length],.lit (.bool res.2)]) [(20000,1,.row true (ab GLink.enc res.1.links))]):=⟨by
 intro res h0
 refine aE (ra:=[.homeCell 256 1]) (md:=mdT) hT (hi:=hi00) func68 rfl rfl (by decide +kernel) (by simp) ?_
 unfold gy at h0
 exact run⟩
instance k37 {s:GShow} {v1:GChoice}:Ctr (kT s v1) (fun (res:Bool)=>aj prog 37 [.agg (GShow.encS s),.agg [.sl (ab eI v1.lengths),.sl (ab eI v1.values)]] [] (.lit (.bool res)) []):=⟨by
 intro res h0
 refine co (hi:=hi00) func37 rfl rfl ?_
 unfold kT at h0
 exact run⟩
@[go_sem] def tn (most:Int)(s_0:List GNode)(s_1:List GTie)(s_2 n:Int):St:=⟨[(1,.ptr 64 1 0 0),(3,.lit (.int .i64 n)),(4,.lit (.int .i64 most))],[(64,1,.var [.sl (ab GNode.encS s_0),.sl (ab GTie.enc s_1),.lit (.int .i64 s_2)])],2⟩
@[go_sem] def hi288_4:DT:=.i1 0 (.i2 1 (.i2 2 (.i0 3 [0] (.i2 4 (.i2 5 .nil)))))
def JT:Hint where
 acts:=fun _=>[]
 draws:=fun
  | 4=>⟨hi288_4,[[],[],[],[1,2],[0,1,2,3],.range 5],.range 6⟩
  | _=>⟨.nil,[],[]⟩
theorem Yy (i:Nat):JT.acts i=[]:=rfl
attribute[go_sem] Yy ntmps288 results288
@[go_sem] theorem acM:(JT.draws 4).order=hi288_4:=rfl
instance k288 {s:GShow}:Ctr (jo s) (fun (res:Int)=>aj prog 288 [.agg (GShow.encS s)] [] (.lit (.int .i64 res)) []):=⟨by
 intro res h0
 refine co (hi:=JT) func288 rfl rfl ?_
 unfold jo at h0
 obtain⟨r01,g0,h0⟩:=af h0
 simp(config:=cS)only[go_sem, *]
 have g0:=ctr g0
 refine ag g0 ?_
 obtain⟨q04,l0,h0⟩:=af h0
 simp(config:=cS)only[go_sem, *]
 refine ai (m1:=.mk) (m2:=.mk) [.nf [1,3,4] [64]] (tn r01 s.nodes s.ties s.horizon) l0 ?_ ?_
 ·simp(config:=cS)only[go_sem, *]
 have k0:=h0
 clear h0 l0
 intro _ n_1 _ h0 gb0
 unfold gz at h0
 try dsimp only at h0
 exact run⟩
instance k218 {s:GShow}:Ctr (pF s) (fun (res:Bool)=>aj prog 218 [.agg (GShow.encS s)] [] (.lit (.bool res)) []):=⟨by
 intro res h0
 refine co (hi:=hi00) func218 rfl rfl ?_
 unfold pF at h0
 exact run⟩
instance k115 {s:GShow}:Ctr (mI s) (fun (res:Int)=>aj prog 115 [.agg (GShow.encS s)] [] (.lit (.int .i64 res)) []):=⟨by
 intro res h0
 refine co (hi:=hi00) func115 rfl rfl ?_
 unfold mI at h0
 exact run⟩
instance k45 {t:GSheet}:Ctr (iB t) (fun (res:Int)=>aj prog 45 [.agg (GSheet.encS t)] [] (.lit (.int .i64 res)) []):=⟨by
 intro res h0
 refine co (hi:=hi00) func45 rfl rfl ?_
 unfold iB at h0
 exact run⟩
@[go_sem] def rh (v15:List (List Int))(v16 v3_0:Int)(v3_1 v3_2:List Int)(g_0:List GNode)(g_1:List GTie)(g_2:Int):(Int × (List (ByteArray × Bool)))→St
 | (v17,h10001)=>⟨[(0,.ptr 10000 0 0 0),(3,.ptr 192 1 0 0),(15,.sl (ab (eLS eI) v15)),(16,.lit (.int .i64 v16)),(17,.lit (.int .i64 v17))],[(10000,0,.var [.sl (ab GNode.encS g_0),.sl (ab GTie.enc g_1),.lit (.int .i64 g_2),.mp 10001 0]),(10001,0,.map (eM h10001)),(192,1,.var [.lit (.int .i64 v3_0),.sl (ab eI v3_1),.sl (ab eI v3_2)])],2⟩
@[go_sem] def hi130_4:DT:=.r2 0 14 .nil
@[go_sem] def hi130_1:DT:=.r2 0 5 (.i2 7 (.i2 5 (.i2 6 .nil)))
def ED:Hint where
 acts:=fun _=>[]
 draws:=fun
  | 1=>⟨hi130_1,[[],[0],[0,1],[0,1,2],[],.range 5,.range 6,[]],.range 8⟩
  | 4=>⟨hi130_4,[[],[],[1],[1,2],[1,2,3],[],[],[1,2,3,4,5,6],.range 8,.range 9,.range 10,.range 10,.range 11,.range 13],[0,1,2,3,4,5,6,7,8,9,10,12,11,13]⟩
  | _=>⟨.nil,[],[]⟩
theorem YA (i:Nat):ED.acts i=[]:=rfl
attribute[go_sem] YA ntmps130 results130
@[go_sem] theorem acN:(ED.draws 1).order=hi130_1:=rfl
@[go_sem] theorem acO:(ED.draws 4).order=hi130_4:=rfl
instance k130 {g_s:GShow} {g_known:List (ByteArray × Bool)} {v1:GState}:Ctr (fX g_s g_known v1) (fun (res:(List Int) × Bool × (List (ByteArray × Bool)))=>aj prog 130 [.ptr 10000 0 0 0,.agg (GState.encS v1)] [(10000,0,.var [.sl (ab GNode.encS g_s.nodes),.sl (ab GTie.enc g_s.ties),.lit (.int .i64 g_s.horizon),.mp 10001 0]),(10001,0,.map (eM g_known))] (.tup [.sl (ab eI res.1),.lit (.bool res.2.1)]) [(10000,0,.var [.sl (ab GNode.encS g_s.nodes),.sl (ab GTie.enc g_s.ties),.lit (.int .i64 g_s.horizon),.mp 10001 0]),(10001,0,.map (eM res.2.2))]):=⟨by
 intro res h0
 refine aE (ra:=[.nilSl 4]) (md:=mdT) hT (hi:=ED) func130 rfl rfl (by decide +kernel) (by simp) ?_
 unfold fX at h0
 obtain⟨r01,g0,h0⟩:=af h0
 simp(config:=cS)only[go_sem, *]
 have g0:=ctr g0
 refine ag g0 ?_
 obtain⟨q05,l0,h0⟩:=af h0
 simp(config:=cS)only[go_sem, *]
 refine ai (m1:=.mk) (m2:=.mk) [.nf [0,3,15,16,17] [10000,10001,192]] (rh r01 (r01.length:Int) v1.now v1.times v1.values g_s.nodes g_s.ties g_s.horizon) l0 ?_ ?_
 ·simp(config:=cS)only[go_sem, *]
 have k0:=h0
 clear h0 l0
 intro _ s0 _ h0 gb0
 obtain⟨v17_1,h10001_1⟩:=s0
 unfold eF at h0
 try dsimp only at h0
 obtain⟨_,h0⟩|⟨_,h0⟩:=itP h0
 ·obtain⟨x02,_,_,_,h0⟩:=gtI h0
  obtain⟨r03,g0,h0⟩:=af h0
  simp(config:=cS)only[go_sem, *]
  have g0:=ctr g0
  refine ag g0 ?_
  obtain⟨r04,g0,h0⟩:=af h0
  simp(config:=cS)only[go_sem, *]
  refine ag (pi g0) ?_
  exact run
 exact run⟩
@[go_sem] def hi133_3:DT:=.r2 0 7 .nil
def JU:Hint where
 acts:=fun _=>[]
 draws:=fun
  | 3=>⟨hi133_3,[[],[0],[0,1],[0,1,2],[],.range 5,.range 6],.range 7⟩
  | _=>⟨.nil,[],[]⟩
theorem YC (i:Nat):JU.acts i=[]:=rfl
attribute[go_sem] YC ntmps133 results133
@[go_sem] theorem acP:(JU.draws 3).order=hi133_3:=rfl
instance k133 {g_s:GShow} {g_known:List (ByteArray × Bool)} {v1:GState} {policy:Int}:Ctr (dX g_s g_known v1 policy) (fun (res:(List Int) × (List (ByteArray × Bool)))=>aj prog 133 [.ptr 10000 0 0 0,.agg (GState.encS v1),.lit (.int .i64 policy)] [(10000,0,.var [.sl (ab GNode.encS g_s.nodes),.sl (ab GTie.enc g_s.ties),.lit (.int .i64 g_s.horizon),.mp 10001 0]),(10001,0,.map (eM g_known))] (.sl (ab eI res.1)) [(10000,0,.var [.sl (ab GNode.encS g_s.nodes),.sl (ab GTie.enc g_s.ties),.lit (.int .i64 g_s.horizon),.mp 10001 0]),(10001,0,.map (eM res.2))]):=⟨by
 intro res h0
 refine aE (ra:=[.freeze [1088],.sliT 6,.nilSl 6,.trim 6]) (md:=mdT) hT (hi:=JU) func133 rfl rfl (by decide +kernel) (by simp) ?_
 unfold dX at h0
 obtain⟨_,h0⟩|⟨_,h0⟩:=itP h0
 ·exact run
 obtain⟨_,h0⟩|⟨_,h0⟩:=itP h0
 ·obtain⟨r02,g0,h0⟩:=af h0
  simp(config:=cS)only[go_sem, *]
  refine ag (pi g0) ?_
  exact run
 exact run⟩
@[go_sem] def mU (v23:List (List Int))(v24 next_0:Int)(h1216 h1217 props:List Int)(g_0:List GNode)(g_1:List GTie)(g_2:Int):(Int × (List (ByteArray × Bool)))→St
 | (v25,h10001)=>⟨[(0,.ptr 10000 0 0 0),(8,.ptr 512 1 0 0),(9,.ref 1218 1 0 props.length),(23,.sl (ab (eLS eI) v23)),(24,.lit (.int .i64 v24)),(25,.lit (.int .i64 v25))],[(10000,0,.var [.sl (ab GNode.encS g_0),.sl (ab GTie.enc g_1),.lit (.int .i64 g_2),.mp 10001 0]),(10001,0,.map (eM h10001)),(512,1,.var [.lit (.int .i64 next_0),.ref 1216 1 0 h1216.length,.ref 1217 1 0 h1217.length]),(1216,1,.row true (ab eI h1216)),(1217,1,.row true (ab eI h1217)),(1218,1,.tree (ab eI props))],2⟩
@[go_sem] def hi135_1:DT:=.i2 0 (.i1 1 (.i1 2 (.i1 3 (.i1 4 (.i2 5 (.fork (.i2 6 (.i2 7 (.i2 8 (.i2 9 (.i0 10 [1,2,3,4] (.i2 11 (.i2 12 .nil))))))) (.i0 10 [1,2,3,4] (.i2 6 (.i2 7 (.i2 8 (.i2 9 (.i2 11 (.i2 12 .nil)))))))))))))
def JV:Hint where
 acts:=fun _=>[]
 draws:=fun
  | 1=>⟨hi135_1,[[],[0],[0,1],[0,1,2],[],[],.range 6,.range 7,.range 8,.range 8,[],[0,1,2,3,4,5,6,7,8,10],.range 12],[0,1,2,3,4,5,6,7,8,11,9,10,12]⟩
  | _=>⟨.nil,[],[]⟩
theorem YE (i:Nat):JV.acts i=[]:=rfl
attribute[go_sem] YE ntmps135 results135
@[go_sem] theorem acQ:(JV.draws 1).order=hi135_1:=rfl
instance k135 {g_s:GShow} {g_known:List (ByteArray × Bool)} {v1:GState} {nodes:List Int}:Ctr (eO g_s g_known v1 nodes) (fun (res:(List Int) × Bool × (List (ByteArray × Bool)))=>aj prog 135 [.ptr 10000 0 0 0,.agg (GState.encS v1),.sl (ab eI nodes)] [(10000,0,.var [.sl (ab GNode.encS g_s.nodes),.sl (ab GTie.enc g_s.ties),.lit (.int .i64 g_s.horizon),.mp 10001 0]),(10001,0,.map (eM g_known))] (.tup [.sl (ab eI res.1),.lit (.bool res.2.1)]) [(10000,0,.var [.sl (ab GNode.encS g_s.nodes),.sl (ab GTie.enc g_s.ties),.lit (.int .i64 g_s.horizon),.mp 10001 0]),(10001,0,.map (eM res.2.2))]):=⟨by
 intro res h0
 refine aE (ra:=[.nilSl 6]) (md:=mdT) hT (hi:=JV) func135 rfl rfl (by decide +kernel) (by simp) ?_
 unfold eO at h0
 try simp(config:=cS)only[go_sem, *]
 refine dl ?_ ?_
 ·obtain⟨r01,g0,h0⟩:=af h0
  simp(config:=cS)only[go_sem, *]
  have g0:=ctr g0
  refine ag g0 ?_
  obtain⟨r02,g0,h0⟩:=af h0
  simp(config:=cS)only[go_sem, *]
  have g0:=ctr g0
  refine ag g0 ?_
  obtain⟨q06,l0,h0⟩:=af h0
  simp(config:=cS)only[go_sem, *]
  refine ai (m1:=.mk) (m2:=.mk) [.nf [0,8,9,23,24,25] [10000,10001,512,1216,1217,1218]] (mU r02 (r02.length:Int) r01.1.now r01.1.times r01.1.values r01.2 g_s.nodes g_s.ties g_s.horizon) l0 ?_ ?_
  ·simp(config:=cS)only[go_sem, *]
  have k0:=h0
  clear h0 l0
  intro _ s0 _ h0 gb0
  obtain⟨v25_1,h10001_1⟩:=s0
  unfold dm at h0
  try dsimp only at h0
  obtain⟨_,h0⟩|⟨_,h0⟩:=itP h0
  ·obtain⟨x03,_,_,_,h0⟩:=gtI h0
   obtain⟨r04,g0,h0⟩:=af h0
   simp(config:=cS)only[go_sem, *]
   have g0:=ctr g0
   refine ag g0 ?_
   obtain⟨r05,g0,h0⟩:=af h0
   simp(config:=cS)only[go_sem, *]
   refine ag (kJ g0) ?_
   exact run
  exact run
 obtain⟨r07,g0,h0⟩:=af h0
 simp(config:=cS)only[go_sem, *]
 have g0:=ctr g0
 refine ag g0 ?_
 obtain⟨r08,g0,h0⟩:=af h0
 simp(config:=cS)only[go_sem, *]
 have g0:=ctr g0
 refine ag g0 ?_
 obtain⟨q12,l0,h0⟩:=af h0
 simp(config:=cS)only[go_sem, *]
 refine ai (m1:=.mk) (m2:=.mk) [.nf [0,8,9,23,24,25] [10000,10001,512,1216,1217,1218]] (mU r08 (r08.length:Int) r07.1.now r07.1.times r07.1.values r07.2 g_s.nodes g_s.ties g_s.horizon) l0 ?_ ?_
 ·simp(config:=cS)only[go_sem, *]
 have k0:=h0
 clear h0 l0
 intro _ s0 _ h0 gb0
 obtain⟨v25_2,h10001_2⟩:=s0
 unfold dm at h0
 try dsimp only at h0
 obtain⟨_,h0⟩|⟨_,h0⟩:=itP h0
 ·obtain⟨x09,_,_,_,h0⟩:=gtI h0
  obtain⟨r10,g0,h0⟩:=af h0
  simp(config:=cS)only[go_sem, *]
  have g0:=ctr g0
  refine ag g0 ?_
  obtain⟨r11,g0,h0⟩:=af h0
  simp(config:=cS)only[go_sem, *]
  refine ag (kJ g0) ?_
  exact run
 exact run⟩
@[go_sem] def vc (values v8:List Int)(v9:Int):(Int × (List Int))→St
 | (v10,out)=>⟨[(1,.sl (ab eI values)),(5,.ref 383 1 0 out.length),(8,.sl (ab eI v8)),(9,.lit (.int .i64 v9)),(10,.lit (.int .i64 v10))],[(383,1,.row true (ab eI out))],2⟩
instance k137 {props:List Int} {values:List Int}:Ctr (cU props values) (fun (res:List Int)=>aj prog 137 [.sl (ab eI props),.sl (ab eI values)] [] (.ref 20000 1 0 res.length) [(20000,1,.row true (ab eI res))]):=⟨by
 intro res h0
 refine aE (ra:=[.home 4]) (md:=mdT) hT (hi:=hi00) func137 rfl rfl (by decide +kernel) (by simp) ?_
 unfold cU at h0
 obtain⟨q03,l0,h0⟩:=af h0
 simp(config:=cS)only[go_sem, *]
 refine ai (m1:=.mk) (m2:=.mk) [.home 5,.nf [1,5,8,9,10] [383]] (vc values props (props.length:Int)) l0 ?_ ?_
 ·simp(config:=cS)only[go_sem, *]
 have k0:=h0
 clear h0 l0
 intro _ s0 _ h0 gb0
 obtain⟨v10_1,out_1⟩:=s0
 unfold gA at h0
 try dsimp only at h0
 exact run⟩
@[go_sem] def tp (v13:List Int)(v14:Int):(Int × (List ByteArray))→St
 | (v15,parts)=>⟨[(3,.ref 255 1 0 parts.length),(13,.sl (ab eI v13)),(14,.lit (.int .i64 v14)),(15,.lit (.int .i64 v15))],[(255,1,.row true (ab eS parts))],2⟩
instance k111 {l:List Int}:Ctr (ot l) (fun (res:ByteArray)=>aj prog 111 [.sl (ab eI l)] [] (.lit (.string res)) []):=⟨by
 intro res h0
 refine co (hi:=hi00) func111 rfl rfl ?_
 unfold ot at h0
 obtain⟨r01,g0,h0⟩:=af h0
 simp(config:=cS)only[go_sem, *]
 have g0:=ctr g0
 refine ag g0 ?_
 obtain⟨_,h0⟩|⟨_,h0⟩:=itB h0
 ·obtain⟨_,h0⟩|⟨_,h0⟩:=itP h0
  ·exact run
  obtain⟨q06,l0,h0⟩:=af h0
  simp(config:=cS)only[go_sem, *]
  refine ai (m1:=.mk) (m2:=.mk) [.home 3,.nf [3,13,14,15] [255]] (tp l (l.length:Int)) l0 ?_ ?_
  ·simp(config:=cS)only[go_sem, *]
  have k0:=h0
  clear h0 l0
  intro _ s0 _ h0 gb0
  obtain⟨v15_1,parts_1⟩:=s0
  unfold pU at h0
  try dsimp only at h0
  obtain⟨_,h0⟩|⟨_,h0⟩:=itP h0
  ·obtain⟨x02,_,_,_,h0⟩:=gtI h0
   obtain⟨r03,g0,h0⟩:=af h0
   simp(config:=cS)only[go_sem, *]
   have g0:=ctr g0
   refine ag g0 ?_
   obtain⟨r04,g0,h0⟩:=af h0
   simp(config:=cS)only[go_sem, *]
   have g0:=ctr g0
   refine ag g0 ?_
   obtain⟨_,h0⟩:=ckP h0
   obtain⟨_,h0⟩|⟨_,h0⟩:=itP h0
   ·obtain⟨a1,h0⟩:=ckP h0
    try simp(config:=cS)only[go_sem]at a1
    exact run
   exact run
  exact run
 exact run⟩
@[go_sem] def uB (v15:List Int)(v16:Int)(s_0:List GNode)(s_1:List GTie)(s_2 e_0:Int)(e_2 e_3:List Int):(ByteArray × Int)→St
 | (out,v17)=>⟨[(2,.ptr 128 1 0 0),(3,.ptr 192 1 0 0),(5,.lit (.string out)),(15,.sl (ab eI v15)),(16,.lit (.int .i64 v16)),(17,.lit (.int .i64 v17))],[(128,1,.var [.sl (ab GNode.encS s_0),.sl (ab GTie.enc s_1),.lit (.int .i64 s_2)]),(192,1,.var [.lit (.int .i64 e_0),.sl (ab eI v15),.sl (ab eI e_2),.sl (ab eI e_3)])],2⟩
@[go_sem] def uC (v37:List Int)(v38:Int)(s_0:List GNode)(s_1:List GTie)(s_2 e_0:Int)(e_1 e_3:List Int):(ByteArray × Int)→St
 | (out,v39)=>⟨[(2,.ptr 128 1 0 0),(3,.ptr 192 1 0 0),(5,.lit (.string out)),(37,.sl (ab eI v37)),(38,.lit (.int .i64 v38)),(39,.lit (.int .i64 v39))],[(128,1,.var [.sl (ab GNode.encS s_0),.sl (ab GTie.enc s_1),.lit (.int .i64 s_2)]),(192,1,.var [.lit (.int .i64 e_0),.sl (ab eI e_1),.sl (ab eI v37),.sl (ab eI e_3)])],2⟩
@[go_sem] def hi106_5:DT:=.r2 0 15 .nil
def JW:Hint where
 acts:=fun _=>[]
 draws:=fun
  | 5=>⟨hi106_5,[[],[],[1],[],[3],[],[3,4,5],[3,4,5,6],[3,4,5,6,7],[1,2,3,4,5,6,7,8],[1,2,3,4,5,6,7,8,9],[1,2,3,4,5,6,7,8,9,10],[1,2,3,4,5,6,7,8,9,10,11],.range 13,.range 14],.range 15⟩
  | _=>⟨.nil,[],[]⟩
theorem YG (i:Nat):JW.acts i=[]:=rfl
attribute[go_sem] YG ntmps106 results106
@[go_sem] theorem acR:(JW.draws 5).order=hi106_5:=rfl
instance k106 {s:GShow} {e:an}:Ctr (fa s e) (fun (res:ByteArray)=>aj prog 106 [.agg (GShow.encS s),.agg (an.encS e)] [] (.lit (.string res)) []):=⟨by
 intro res h0
 refine co (hi:=JW) func106 rfl rfl ?_
 unfold fa at h0
 obtain⟨r01,g0,h0⟩:=af h0
 simp(config:=cS)only[go_sem, *]
 have g0:=ctr g0
 refine ag g0 ?_
 obtain⟨_,h0⟩:=ckP h0
 obtain⟨q09,l0,h0⟩:=af h0
 simp(config:=cS)only[go_sem, *]
 refine ai (m1:=.mk) (m2:=.mk) [.nf [2,3,5,15,16,17] [128,192]] (uB e.ties (e.ties.length:Int) s.nodes s.ties s.horizon e.now e.nodes e.values) l0 ?_ ?_
 ·simp(config:=cS)only[go_sem, *]
 have k0:=h0
 clear h0 l0
 intro _ s0 _ h0 gb0
 obtain⟨out_1,v17_1⟩:=s0
 unfold iC at h0
 try dsimp only at h0
 obtain⟨_,h0⟩|⟨_,h0⟩:=itP h0
 ·obtain⟨x02,_,_,_,h0⟩:=gtI h0
  obtain⟨x03,_,_,_,h0⟩:=gtI h0
  obtain⟨x04,_,_,_,h0⟩:=gtI h0
  obtain⟨_,h0⟩:=ckP h0
  obtain⟨a1,h0⟩:=ckP h0
  try simp(config:=cS)only[go_sem]at a1
  exact run
 cases h0
 obtain rfl:=(aJ gb0).symm
 clear gb0
 have h0:=k0
 clear k0
 try dsimp only at h0
 obtain⟨q08,l0,h0⟩:=af h0
 simp(config:=cS)only[go_sem, *]
 refine ai (m1:=.mk) (m2:=.mk) [.nf [2,3,5,37,38,39] [128,192]] (uC e.nodes (e.nodes.length:Int) s.nodes s.ties s.horizon e.now e.ties e.values) l0 ?_ ?_
 ·simp(config:=cS)only[go_sem, *]
 have k0:=h0
 clear h0 l0
 intro _ s0 _ h0 gb0
 obtain⟨out_2,v39_2⟩:=s0
 unfold nQ at h0
 try dsimp only at h0
 obtain⟨_,h0⟩|⟨_,h0⟩:=itP h0
 ·obtain⟨x05,_,_,_,h0⟩:=gtI h0
  obtain⟨x06,_,_,_,h0⟩:=gtI h0
  obtain⟨_,h0⟩:=ckP h0
  obtain⟨a2,h0⟩:=ckP h0
  try simp(config:=cS)only[go_sem]at a2
  exact run
 cases h0
 obtain rfl:=(aJ gb0).symm
 clear gb0
 have h0:=k0
 clear k0
 try dsimp only at h0
 obtain⟨_,h0⟩|⟨_,h0⟩:=itP h0
 ·obtain⟨r07,g0,h0⟩:=af h0
  simp(config:=cS)only[go_sem, *]
  have g0:=ctr g0
  refine ag g0 ?_
  obtain⟨_,h0⟩:=ckP h0
  obtain⟨a3,h0⟩:=ckP h0
  try simp(config:=cS)only[go_sem]at a3
  exact run
 exact run⟩
@[go_sem] def nP (policy:Int)(s_0:List GNode)(s_1:List GTie)(s_2:Int)(g_0:List GNode)(g_1:List GTie)(g_2:Int):(Int × (List ByteArray) × (List (ByteArray × Bool)) × (List Int) × (List Int))→St
 | (v7_0,log,h1857,h1984,h1985)=>⟨[(1,.lit (.int .i64 policy)),(2,.ptr 128 1 0 0),(4,.ptr 256 1 0 0),(6,.ptr 1856 1 0 0),(7,.ptr 448 1 0 0),(8,.ref 575 1 0 log.length)],[(128,1,.var [.sl (ab GNode.encS s_0),.sl (ab GTie.enc s_1),.lit (.int .i64 s_2)]),(256,1,.var [.lit (.int .i64 0),.lit (.slice none 0 0),.lit (.slice none 0 0)]),(1856,1,.var [.sl (ab GNode.encS g_0),.sl (ab GTie.enc g_1),.lit (.int .i64 g_2),.mp 1857 1]),(1857,1,.map (eM h1857)),(448,1,.var [.lit (.int .i64 v7_0),.ref 1984 1 0 h1984.length,.ref 1985 1 0 h1985.length]),(1984,1,.row true (ab eI h1984)),(1985,1,.row true (ab eI h1985)),(575,1,.row true (ab eS log))],2⟩
@[go_sem] def hi46_15:DT:=.i2 0 (.i1 1 (.i1 2 (.i1 3 (.r2 4 4 (.i0 8 [1,2,3] (.r2 9 5 .nil))))))
@[go_sem] def hi46_3:DT:=.i1 0 (.i1 2 (.fork (.i0 1 [2] (.fork (.i2 3 (.i0 4 [0,2] (.i2 5 (.i2 6 .nil)))) (.i0 4 [0,2] (.i2 3 (.i2 5 (.i2 6 .nil)))))) (.i0 4 [0,2] (.i0 1 [2] (.i2 3 (.i2 5 (.i2 6 .nil)))))))
def hi46:Hint where
 acts:=fun _=>[]
 draws:=fun
  | 3=>⟨hi46_3,[[],[0],[],[0,1,2],[],.range 5,.range 6],.range 7⟩
  | 15=>⟨hi46_15,[[],[],[],[2],[],[],[],[],[6,7],[2,3,4,5,6,7,8],[1,2,3,4,5,6,7,8,9],[1,2,3,4,5,6,7,8,9,10],.range 12,.range 13],.range 14⟩
  | _=>⟨.nil,[],[]⟩
theorem aak (i:Nat):hi46.acts i=[]:=rfl
attribute[go_sem] aak ntmps46 results46
@[go_sem] theorem ado:(hi46.draws 3).order=hi46_3:=rfl
@[go_sem] theorem acS:(hi46.draws 15).order=hi46_15:=rfl
instance k46 {s:GShow} {policy:Int}:Ctr (nE s policy) (fun (res:GState × (List ByteArray))=>aj prog 46 [.agg (GShow.encS s),.lit (.int .i64 policy)] [] (.tup [.agg [.lit (.int .i64 res.1.now),.ref 20000 1 0 res.1.times.length,.ref 20001 1 0 res.1.values.length],.ref 20002 1 0 res.2.length]) [(20000,1,.row true (ab eI res.1.times)),(20001,1,.row true (ab eI res.1.values)),(20002,1,.row true (ab eS res.2))]):=⟨by
 intro res h0
 refine aE (ra:=[.homeCell 256 1,.homeCell 256 2,.home 5]) (md:=mdT) hT (hi:=hi46) func46 rfl rfl (by decide +kernel) (by simp) ?_
 unfold nE at h0
 obtain⟨r01,g0,h0⟩:=af h0
 simp(config:=cS)only[go_sem, *]
 have g0:=ctr g0
 refine ag g0 ?_
 obtain⟨_,h0⟩|⟨_,h0⟩:=itB h0
 ·obtain⟨_,h0⟩|⟨_,h0⟩:=itP h0
  ·exact run
  obtain⟨_,h0⟩|⟨_,h0⟩:=itP h0
  ·exact run
  try simp(config:=cS)only[go_sem, *]
  refine dl ?_ ?_
  ·obtain⟨r02,g0,h0⟩:=af h0
   simp(config:=cS)only[go_sem, *]
   have g0:=ctr g0
   refine ag g0 ?_
   try simp(config:=cS)only[go_sem, *]
   refine dl ?_ ?_
   ·obtain⟨r03,g0,h0⟩:=af h0
    simp(config:=cS)only[go_sem, *]
    have g0:=ctr g0
    refine ag g0 ?_
    obtain⟨q33,l0,h0⟩:=af h0
    simp(config:=cS)only[go_sem, *]
    refine ai (m1:=.mk) (m2:=.mk) [.home 8,.nfp [1,2,4,6,7,8] [(128,128),(256,256),(1856,1856),(1857,1857),(448,448),(6784,1984),(1984,1984),(6785,1985),(1985,1985),(575,575)] []] (nP policy s.nodes s.ties s.horizon r02.1.nodes r02.1.ties r02.1.horizon) l0 ?_ ?_
    ·simp(config:=cS)only[go_sem, *]
    have k0:=h0
    clear h0 l0
    intro _ s0 _ h0 gb0
    obtain⟨v7_0_1,log_1,h1857_1,h1984_1,h1985_1⟩:=s0
    unfold fb at h0
    try dsimp only at h0
    obtain⟨r04,g0,h0⟩:=af h0
    simp(config:=cS)only[go_sem, *]
    have g0:=ctr g0
    refine ag g0 ?_
    obtain⟨_,h0⟩|⟨_,h0⟩:=itB h0
    ·exact run
    obtain⟨r05,g0,h0⟩:=af h0
    simp(config:=cS)only[go_sem, *]
    have g0:=ctr g0
    refine ag g0 ?_
    obtain⟨_,h0⟩|⟨_,h0⟩:=itB h0
    ·exact run
    obtain⟨_,h0⟩|⟨_,h0⟩:=itP h0
    ·obtain⟨r06,g0,h0⟩:=af h0
     simp(config:=cS)only[go_sem, *]
     have g0:=ctr g0
     refine ag g0 ?_
     obtain⟨_,h0⟩|⟨_,h0⟩:=itB h0
     ·obtain⟨r07,g0,h0⟩:=af h0
      simp(config:=cS)only[go_sem, *]
      have g0:=ctr g0
      refine ag g0 ?_
      obtain⟨r08,g0,h0⟩:=af h0
      simp(config:=cS)only[go_sem, *]
      have g0:=ctr g0
      refine ag g0 ?_
      obtain⟨r09,g0,h0⟩:=af h0
      simp(config:=cS)only[go_sem, *]
      have g0:=ctr g0
      refine ag g0 ?_
      obtain⟨r10,g0,h0⟩:=af h0
      simp(config:=cS)only[go_sem, *]
      have g0:=ctr g0
      refine ag g0 ?_
      obtain⟨_,h0⟩|⟨_,h0⟩:=itB h0
      ·exact run
      obtain⟨r14,g0,h0⟩:=af h0
      simp(config:=cS)only[go_sem, *]
      have g0:=ctr g0
      refine ag g0 ?_
      obtain⟨x15,g1,h0⟩:=af h0
      have:=bD (k:=0) g1
      exact run
     obtain⟨r19,g0,h0⟩:=af h0
     simp(config:=cS)only[go_sem, *]
     have g0:=ctr g0
     refine ag g0 ?_
     obtain⟨x20,g2,h0⟩:=af h0
     have:=bD (k:=0) g2
     obtain⟨r21,g0,h0⟩:=af h0
     simp(config:=cS)only[go_sem, *]
     have g0:=ctr g0
     refine ag g0 ?_
     obtain⟨r22,g0,h0⟩:=af h0
     simp(config:=cS)only[go_sem, *]
     have g0:=ctr g0
     refine ag g0 ?_
     obtain⟨r23,g0,h0⟩:=af h0
     simp(config:=cS)only[go_sem, *]
     have g0:=ctr g0
     refine ag g0 ?_
     obtain⟨r24,g0,h0⟩:=af h0
     simp(config:=cS)only[go_sem, *]
     have g0:=ctr g0
     refine ag g0 ?_
     obtain⟨_,h0⟩|⟨_,h0⟩:=itB h0
     ·exact run
     obtain⟨r28,g0,h0⟩:=af h0
     simp(config:=cS)only[go_sem, *]
     have g0:=ctr g0
     refine ag g0 ?_
     obtain⟨x29,g3,h0⟩:=af h0
     have:=bD (k:=0) g3
     exact run
    exact run
   obtain⟨r34,g0,h0⟩:=af h0
   simp(config:=cS)only[go_sem, *]
   have g0:=ctr g0
   refine ag g0 ?_
   obtain⟨q64,l0,h0⟩:=af h0
   simp(config:=cS)only[go_sem, *]
   refine ai (m1:=.mk) (m2:=.mk) [.home 8,.nfp [1,2,4,6,7,8] [(128,128),(256,256),(1856,1856),(1857,1857),(448,448),(6784,1984),(1984,1984),(6785,1985),(1985,1985),(575,575)] []] (nP policy s.nodes s.ties s.horizon r02.1.nodes r02.1.ties r02.1.horizon) l0 ?_ ?_
   ·simp(config:=cS)only[go_sem, *]
   have k0:=h0
   clear h0 l0
   intro _ s0 _ h0 gb0
   obtain⟨v7_0_2,log_2,h1857_2,h1984_2,h1985_2⟩:=s0
   unfold fb at h0
   try dsimp only at h0
   obtain⟨r35,g0,h0⟩:=af h0
   simp(config:=cS)only[go_sem, *]
   have g0:=ctr g0
   refine ag g0 ?_
   obtain⟨_,h0⟩|⟨_,h0⟩:=itB h0
   ·exact run
   obtain⟨r36,g0,h0⟩:=af h0
   simp(config:=cS)only[go_sem, *]
   have g0:=ctr g0
   refine ag g0 ?_
   obtain⟨_,h0⟩|⟨_,h0⟩:=itB h0
   ·exact run
   obtain⟨_,h0⟩|⟨_,h0⟩:=itP h0
   ·obtain⟨r37,g0,h0⟩:=af h0
    simp(config:=cS)only[go_sem, *]
    have g0:=ctr g0
    refine ag g0 ?_
    obtain⟨_,h0⟩|⟨_,h0⟩:=itB h0
    ·obtain⟨r38,g0,h0⟩:=af h0
     simp(config:=cS)only[go_sem, *]
     have g0:=ctr g0
     refine ag g0 ?_
     obtain⟨r39,g0,h0⟩:=af h0
     simp(config:=cS)only[go_sem, *]
     have g0:=ctr g0
     refine ag g0 ?_
     obtain⟨r40,g0,h0⟩:=af h0
     simp(config:=cS)only[go_sem, *]
     have g0:=ctr g0
     refine ag g0 ?_
     obtain⟨r41,g0,h0⟩:=af h0
     simp(config:=cS)only[go_sem, *]
     have g0:=ctr g0
     refine ag g0 ?_
     obtain⟨_,h0⟩|⟨_,h0⟩:=itB h0
     ·exact run
     obtain⟨r45,g0,h0⟩:=af h0
     simp(config:=cS)only[go_sem, *]
     have g0:=ctr g0
     refine ag g0 ?_
     obtain⟨x46,g4,h0⟩:=af h0
     have:=bD (k:=0) g4
     exact run
    obtain⟨r50,g0,h0⟩:=af h0
    simp(config:=cS)only[go_sem, *]
    have g0:=ctr g0
    refine ag g0 ?_
    obtain⟨x51,g5,h0⟩:=af h0
    have:=bD (k:=0) g5
    obtain⟨r52,g0,h0⟩:=af h0
    simp(config:=cS)only[go_sem, *]
    have g0:=ctr g0
    refine ag g0 ?_
    obtain⟨r53,g0,h0⟩:=af h0
    simp(config:=cS)only[go_sem, *]
    have g0:=ctr g0
    refine ag g0 ?_
    obtain⟨r54,g0,h0⟩:=af h0
    simp(config:=cS)only[go_sem, *]
    have g0:=ctr g0
    refine ag g0 ?_
    obtain⟨r55,g0,h0⟩:=af h0
    simp(config:=cS)only[go_sem, *]
    have g0:=ctr g0
    refine ag g0 ?_
    obtain⟨_,h0⟩|⟨_,h0⟩:=itB h0
    ·exact run
    obtain⟨r59,g0,h0⟩:=af h0
    simp(config:=cS)only[go_sem, *]
    have g0:=ctr g0
    refine ag g0 ?_
    obtain⟨x60,g6,h0⟩:=af h0
    have:=bD (k:=0) g6
    exact run
   exact run
  obtain⟨r65,g0,h0⟩:=af h0
  simp(config:=cS)only[go_sem, *]
  have g0:=ctr g0
  refine ag g0 ?_
  obtain⟨r66,g0,h0⟩:=af h0
  simp(config:=cS)only[go_sem, *]
  have g0:=ctr g0
  refine ag g0 ?_
  obtain⟨q96,l0,h0⟩:=af h0
  simp(config:=cS)only[go_sem, *]
  refine ai (m1:=.mk) (m2:=.mk) [.home 8,.nfp [1,2,4,6,7,8] [(128,128),(256,256),(1856,1856),(1857,1857),(448,448),(6784,1984),(1984,1984),(6785,1985),(1985,1985),(575,575)] []] (nP policy s.nodes s.ties s.horizon r65.1.nodes r65.1.ties r65.1.horizon) l0 ?_ ?_
  ·simp(config:=cS)only[go_sem, *]
  have k0:=h0
  clear h0 l0
  intro _ s0 _ h0 gb0
  obtain⟨v7_0_3,log_3,h1857_3,h1984_3,h1985_3⟩:=s0
  unfold fb at h0
  try dsimp only at h0
  obtain⟨r67,g0,h0⟩:=af h0
  simp(config:=cS)only[go_sem, *]
  have g0:=ctr g0
  refine ag g0 ?_
  obtain⟨_,h0⟩|⟨_,h0⟩:=itB h0
  ·exact run
  obtain⟨r68,g0,h0⟩:=af h0
  simp(config:=cS)only[go_sem, *]
  have g0:=ctr g0
  refine ag g0 ?_
  obtain⟨_,h0⟩|⟨_,h0⟩:=itB h0
  ·exact run
  obtain⟨_,h0⟩|⟨_,h0⟩:=itP h0
  ·obtain⟨r69,g0,h0⟩:=af h0
   simp(config:=cS)only[go_sem, *]
   have g0:=ctr g0
   refine ag g0 ?_
   obtain⟨_,h0⟩|⟨_,h0⟩:=itB h0
   ·obtain⟨r70,g0,h0⟩:=af h0
    simp(config:=cS)only[go_sem, *]
    have g0:=ctr g0
    refine ag g0 ?_
    obtain⟨r71,g0,h0⟩:=af h0
    simp(config:=cS)only[go_sem, *]
    have g0:=ctr g0
    refine ag g0 ?_
    obtain⟨r72,g0,h0⟩:=af h0
    simp(config:=cS)only[go_sem, *]
    have g0:=ctr g0
    refine ag g0 ?_
    obtain⟨r73,g0,h0⟩:=af h0
    simp(config:=cS)only[go_sem, *]
    have g0:=ctr g0
    refine ag g0 ?_
    obtain⟨_,h0⟩|⟨_,h0⟩:=itB h0
    ·exact run
    obtain⟨r77,g0,h0⟩:=af h0
    simp(config:=cS)only[go_sem, *]
    have g0:=ctr g0
    refine ag g0 ?_
    obtain⟨x78,g7,h0⟩:=af h0
    have:=bD (k:=0) g7
    exact run
   obtain⟨r82,g0,h0⟩:=af h0
   simp(config:=cS)only[go_sem, *]
   have g0:=ctr g0
   refine ag g0 ?_
   obtain⟨x83,g8,h0⟩:=af h0
   have:=bD (k:=0) g8
   obtain⟨r84,g0,h0⟩:=af h0
   simp(config:=cS)only[go_sem, *]
   have g0:=ctr g0
   refine ag g0 ?_
   obtain⟨r85,g0,h0⟩:=af h0
   simp(config:=cS)only[go_sem, *]
   have g0:=ctr g0
   refine ag g0 ?_
   obtain⟨r86,g0,h0⟩:=af h0
   simp(config:=cS)only[go_sem, *]
   have g0:=ctr g0
   refine ag g0 ?_
   obtain⟨r87,g0,h0⟩:=af h0
   simp(config:=cS)only[go_sem, *]
   have g0:=ctr g0
   refine ag g0 ?_
   obtain⟨_,h0⟩|⟨_,h0⟩:=itB h0
   ·exact run
   obtain⟨r91,g0,h0⟩:=af h0
   simp(config:=cS)only[go_sem, *]
   have g0:=ctr g0
   refine ag g0 ?_
   obtain⟨x92,g9,h0⟩:=af h0
   have:=bD (k:=0) g9
   exact run
  exact run
 exact run⟩
instance k47 {s:GShow} {v1:GState}:Ctr (lH s v1) (fun (res:Bool)=>aj prog 47 [.agg (GShow.encS s),.agg (GState.encS v1)] [] (.lit (.bool res)) []):=⟨by
 intro res h0
 refine co (hi:=hi00) func47 rfl rfl ?_
 unfold lH at h0
 exact run⟩
@[go_sem] def xr (n:Int):(Int × (List Int) × Int × Int)→St
 | (i,v5_0,v5_1,v5_2)=>⟨[(1,.lit (.int .i64 n)),(5,.ptr 512 1 0 0),(6,.lit (.int .i64 i))],[(512,1,.var [.sl (ab (eK .u8) v5_0),.lit (.int .i64 v5_1),.lit (.int .i64 v5_2)])],2⟩
instance k84 {code:List Int} {n:Int}:Ctr (nF code n) (fun (res:GL01Cur)=>aj prog 84 [.sl (ab (eK .u8) code),.lit (.int .i64 n)] [] (.ptr 20000 1 0 0) [(20000,1,.var [.sl (ab (eK .u8) res.b),.lit (.int .i64 res.i),.lit (.int .i64 res.h)])]):=⟨by
 intro res h0
 refine co (hi:=hi00) func84 rfl rfl ?_
 unfold nF at h0
 obtain⟨r01,g0,h0⟩:=af h0
 simp(config:=cS)only[go_sem, *]
 have g0:=ctr g0
 refine ag g0 ?_
 obtain⟨q03,l0,h0⟩:=af h0
 simp(config:=cS)only[go_sem, *]
 refine ai (m1:=.mk) (m2:=.mk) [.nf [1,5,6] [512]] (xr n) l0 ?_ ?_
 ·simp(config:=cS)only[go_sem, *]
 have k0:=h0
 clear h0 l0
 intro _ s0 _ h0 gb0
 obtain⟨i_1,v5_0_1,v5_1_1,v5_2_1⟩:=s0
 unfold kU at h0
 try dsimp only at h0
 exact run⟩
instance k48 {code:List Int} {n:Int}:Ctr (gB code n) (fun (res:Int)=>aj prog 48 [.sl (ab (eK .u8) code),.lit (.int .i64 n)] [] (.lit (.int .i64 res)) []):=⟨by
 intro res h0
 refine co (hi:=hi00) func48 rfl rfl ?_
 unfold gB at h0
 exact run⟩
instance k164 {n:Int} {lo:Int} {hi:Int}:Ctr (dP n lo hi) (fun (res:Bool)=>aj prog 164 [.lit (.int .i64 n),.lit (.int .i64 lo),.lit (.int .i64 hi)] [] (.lit (.bool res)) []):=⟨by
 intro res h0
 refine co (hi:=hi00) func164 rfl rfl ?_
 unfold dP at h0
 exact run⟩
@[go_sem] def xt (s:ByteArray)(i:Int):St:=⟨[(0,.lit (.string s)),(3,.lit (.int .i64 i))],[],2⟩
instance k331 {s:ByteArray}:Ctr (nG s) (fun (res:Bool)=>aj prog 331 [.lit (.string s)] [] (.lit (.bool res)) []):=⟨by
 intro res h0
 refine co (hi:=hi00) func331 rfl rfl ?_
 unfold nG at h0
 obtain⟨q03,l0,h0⟩:=af h0
 simp(config:=cS)only[go_sem, *]
 refine ai (m1:=.mk) (m2:=.mk) [.nf [0,3] []] (xt s) l0 ?_ ?_
 ·simp(config:=cS)only[go_sem, *]
 have k0:=h0
 clear h0 l0
 intro _ i_1 _ h0 gb0
 unfold iR at h0
 try dsimp only at h0
 exact run⟩
instance k160 {n:Int}:Ctr (fw n) (fun (res:Int)=>aj prog 160 [.lit (.int .i64 n)] [] (.lit (.int .i64 res)) []):=⟨by
 intro res h0
 refine co (hi:=hi00) func160 rfl rfl ?_
 unfold fw at h0
 exact run⟩
@[go_sem] def ww (l:List Int)(v6 v7:Int):St:=⟨[(0,.sl (ab eI l)),(5,.sl (ab eI l)),(6,.lit (.int .i64 v6)),(7,.lit (.int .i64 v7))],[],2⟩
instance k332 {l:List Int}:Ctr (iS l) (fun (res:Bool)=>aj prog 332 [.sl (ab eI l)] [] (.lit (.bool res)) []):=⟨by
 intro res h0
 refine co (hi:=hi00) func332 rfl rfl ?_
 unfold iS at h0
 obtain⟨q06,l0,h0⟩:=af h0
 simp(config:=cS)only[go_sem, *]
 refine ai (m1:=.mk) (m2:=.mk) [.nf [0,5,6,7] []] (ww l (l.length:Int)) l0 ?_ ?_
 ·simp(config:=cS)only[go_sem, *]
 have k0:=h0
 clear h0 l0
 intro _ v7_1 _ h0 gb0
 unfold il at h0
 try dsimp only at h0
 exact run⟩
instance k294 {n:GNode}:Ctr (nH n) (fun (res:Bool)=>aj prog 294 [.agg (GNode.encS n)] [] (.lit (.bool res)) []):=⟨by
 intro res h0
 refine co (hi:=hi00) func294 rfl rfl ?_
 unfold nH at h0
 exact run⟩
@[go_sem] def uD (name:ByteArray)(v8:List GNode)(v9 v10:Int):St:=⟨[(1,.lit (.string name)),(8,.sl (ab GNode.encS v8)),(9,.lit (.int .i64 v9)),(10,.lit (.int .i64 v10))],[],2⟩
instance k295 {s:GShow} {name:ByteArray}:Ctr (kV s name) (fun (res:Int)=>aj prog 295 [.agg (GShow.encS s),.lit (.string name)] [] (.lit (.int .i64 res)) []):=⟨by
 intro res h0
 refine co (hi:=hi00) func295 rfl rfl ?_
 unfold kV at h0
 obtain⟨q02,l0,h0⟩:=af h0
 simp(config:=cS)only[go_sem, *]
 refine ai (m1:=.mk) (m2:=.mk) [.nf [1,8,9,10] []] (uD name s.nodes (s.nodes.length:Int)) l0 ?_ ?_
 ·simp(config:=cS)only[go_sem, *]
 have k0:=h0
 clear h0 l0
 intro _ v10_1 _ h0 gb0
 unfold fQ at h0
 try dsimp only at h0
 exact run⟩
@[go_sem] def tS (p:Int)(v8:List GNode)(v9 v10:Int):St:=⟨[(1,.lit (.int .i64 p)),(8,.sl (ab GNode.encS v8)),(9,.lit (.int .i64 v9)),(10,.lit (.int .i64 v10))],[],2⟩
instance k159 {s:GShow} {p:Int}:Ctr (cJ s p) (fun (res:Int)=>aj prog 159 [.agg (GShow.encS s),.lit (.int .i64 p)] [] (.lit (.int .i64 res)) []):=⟨by
 intro res h0
 refine co (hi:=hi00) func159 rfl rfl ?_
 unfold cJ at h0
 obtain⟨q02,l0,h0⟩:=af h0
 simp(config:=cS)only[go_sem, *]
 refine ai (m1:=.mk) (m2:=.mk) [.nf [1,8,9,10] []] (tS p s.nodes (s.nodes.length:Int)) l0 ?_ ?_
 ·simp(config:=cS)only[go_sem, *]
 have k0:=h0
 clear h0 l0
 intro _ v10_1 _ h0 gb0
 unfold fy at h0
 try dsimp only at h0
 exact run⟩
@[go_sem] def xu (n:Int)(v7:List Int)(v8 v9:Int):St:=⟨[(1,.lit (.int .i64 n)),(7,.sl (ab eI v7)),(8,.lit (.int .i64 v8)),(9,.lit (.int .i64 v9))],[],2⟩
instance k296 {l:List Int} {n:Int}:Ctr (gb l n) (fun (res:Bool)=>aj prog 296 [.sl (ab eI l),.lit (.int .i64 n)] [] (.lit (.bool res)) []):=⟨by
 intro res h0
 refine co (hi:=hi00) func296 rfl rfl ?_
 unfold gb at h0
 obtain⟨q02,l0,h0⟩:=af h0
 simp(config:=cS)only[go_sem, *]
 refine ai (m1:=.mk) (m2:=.mk) [.nf [1,7,8,9] []] (xu n l (l.length:Int)) l0 ?_ ?_
 ·simp(config:=cS)only[go_sem, *]
 have k0:=h0
 clear h0 l0
 intro _ v9_1 _ h0 gb0
 unfold iT at h0
 try dsimp only at h0
 exact run⟩
@[go_sem] def sE (a v15:List Int)(v16 v17:Int):St:=⟨[(0,.sl (ab eI a)),(15,.sl (ab eI v15)),(16,.lit (.int .i64 v16)),(17,.lit (.int .i64 v17))],[],2⟩
instance k297 {a:List Int} {b:List Int}:Ctr (fR a b) (fun (res:Bool)=>aj prog 297 [.sl (ab eI a),.sl (ab eI b)] [] (.lit (.bool res)) []):=⟨by
 intro res h0
 refine co (hi:=hi00) func297 rfl rfl ?_
 unfold fR at h0
 obtain⟨r01,g0,h0⟩:=af h0
 simp(config:=cS)only[go_sem, *]
 have g0:=ctr g0
 refine ag g0 ?_
 obtain⟨_,h0⟩|⟨_,h0⟩:=itB h0
 ·obtain⟨r02,g0,h0⟩:=af h0
  simp(config:=cS)only[go_sem, *]
  have g0:=ctr g0
  refine ag g0 ?_
  obtain⟨_,h0⟩|⟨_,h0⟩:=itB h0
  ·obtain⟨q05,l0,h0⟩:=af h0
   simp(config:=cS)only[go_sem, *]
   refine ai (m1:=.mk) (m2:=.mk) [.nf [0,15,16,17] []] (sE a b (b.length:Int)) l0 ?_ ?_
   ·simp(config:=cS)only[go_sem, *]
   have k0:=h0
   clear h0 l0
   intro _ v17_1 _ h0 gb0
   unfold dY at h0
   try dsimp only at h0
   exact run
  exact run
 exact run⟩
@[go_sem] def vd (v33:List GNode)(v34:Int)(s_1:List GTie)(s_2 v35:Int):St:=⟨[(1,.ptr 64 1 0 0),(33,.sl (ab GNode.encS v33)),(34,.lit (.int .i64 v34)),(35,.lit (.int .i64 v35))],[(64,1,.var [.sl (ab GNode.encS v33),.sl (ab GTie.enc s_1),.lit (.int .i64 s_2)])],2⟩
@[go_sem] def ve (v66:List GNode)(v67 v68:Int)(v73:List Int)(v74:Int)(s_1:List GTie)(s_2:Int)(n_0:ByteArray)(n_2 v75:Int):St:=⟨[(1,.ptr 64 1 0 0),(6,.ptr 384 1 0 0),(66,.sl (ab GNode.encS v66)),(67,.lit (.int .i64 v67)),(68,.lit (.int .i64 v68)),(73,.sl (ab eI v73)),(74,.lit (.int .i64 v74)),(75,.lit (.int .i64 v75))],[(64,1,.var [.sl (ab GNode.encS v66),.sl (ab GTie.enc s_1),.lit (.int .i64 s_2)]),(384,1,.var [.lit (.string n_0),.sl (ab eI v73),.lit (.int .i64 n_2)])],2⟩
@[go_sem] def vf (v66:List GNode)(v67:Int)(s_1:List GTie)(s_2 v68:Int):St:=⟨[(1,.ptr 64 1 0 0),(66,.sl (ab GNode.encS v66)),(67,.lit (.int .i64 v67)),(68,.lit (.int .i64 v68))],[(64,1,.var [.sl (ab GNode.encS v66),.sl (ab GTie.enc s_1),.lit (.int .i64 s_2)])],2⟩
@[go_sem] def hi234_16:DT:=.r2 0 35 .nil
@[go_sem] def hi234_15:DT:=.i1 0 (.i2 1 (.i0 2 [0] (.i2 3 (.i2 4 .nil))))
def EE:Hint where
 acts:=fun _=>[]
 draws:=fun
  | 15=>⟨hi234_15,[[],[],[1],[0,1,2],[0,1,2,3]],.range 5⟩
  | 16=>⟨hi234_16,[[],[0],[0,1],[0,1,2],[0,1,2,3],[0,1,2],.range 6,.range 7,.range 8,[0,1,2],.range 10,.range 11,.range 12,.range 13,.range 14,.range 13,.range 16,.range 17,.range 18,.range 13,[0,1,2,3,4,5,6,7,8,9,10,11,12,19],.range 21,.range 22,.range 23,.range 24,.range 25,.range 24,[0,1,2,3,4,5,6,7,8,9,10,11,12,13,14,15,16,17,18,19,20,21,22,23,26],.range 24,[0,1,2,3,4,5,6,7,8,9,10,11,12,13,14,15,16,17,18,19,20,21,22,23,26,27,28],[0,1,2,3,4,5,6,7,8,9,10,11,12,13,14,15,16,17,18,19,20,21,22,23,26,27,28,29],[0,1,2,3,4,5,6,7,8,9,10,11,12,13,14,15,16,17,18,19,20,21,22,23,26,27,28,29,30],.range 32,.range 33,.range 34],.range 35⟩
  | _=>⟨.nil,[],[]⟩
theorem YI (i:Nat):EE.acts i=[]:=rfl
attribute[go_sem] YI ntmps234 results234
@[go_sem] theorem abK:(EE.draws 15).order=hi234_15:=rfl
@[go_sem] theorem abL:(EE.draws 16).order=hi234_16:=rfl
instance k234 {s:GShow}:Ctr (lI s) (fun (res:Bool)=>aj prog 234 [.agg (GShow.encS s)] [] (.lit (.bool res)) []):=⟨by
 intro res h0
 refine co (hi:=EE) func234 rfl rfl ?_
 unfold lI at h0
 obtain⟨r01,g0,h0⟩:=af h0
 simp(config:=cS)only[go_sem, *]
 have g0:=ctr g0
 refine ag g0 ?_
 obtain⟨_,h0⟩|⟨_,h0⟩:=itB h0
 ·obtain⟨x02,g1,h0⟩:=af h0
  have:=bD (k:=0) g1
  obtain⟨_,h0⟩|⟨_,h0⟩:=itP h0
  ·exact run
  obtain⟨_,h0⟩|⟨_,h0⟩:=itP h0
  ·obtain⟨q17,l0,h0⟩:=af h0
   simp(config:=cS)only[go_sem, *]
   refine ai (m1:=.mk) (m2:=.mk) [.nf [1,33,34,35] [64]] (vd s.nodes (s.nodes.length:Int) s.ties s.horizon) l0 ?_ ?_
   ·simp(config:=cS)only[go_sem, *]
   have k0:=h0
   clear h0 l0
   intro _ v35_1 _ h0 gb0
   unfold gC at h0
   try dsimp only at h0
   obtain⟨_,h0⟩|⟨_,h0⟩:=itP h0
   ·exact run
   cases h0
   obtain rfl:=(aJ gb0).symm
   clear gb0
   have h0:=k0
   clear k0
   try dsimp only at h0
   obtain⟨q16,l0,h0⟩:=af h0
   simp(config:=cS)only[go_sem, *]
   refine ai (m1:=.mk) (m2:=.mk) [.nf [1,66,67,68] [64]] (vf s.nodes (s.nodes.length:Int) s.ties s.horizon) l0 ?_ ?_
   ·simp(config:=cS)only[go_sem, *]
   have k0:=h0
   clear h0 l0
   intro _ v68_2 _ h0 gb0
   unfold gE at h0
   try dsimp only at h0
   obtain⟨_,h0⟩|⟨_,h0⟩:=itP h0
   ·obtain⟨x07,_,_,_,h0⟩:=gtI h0
    obtain⟨q15,l0,h0⟩:=af h0
    simp(config:=cS)only[go_sem, *]
    refine ai (m1:=.mk) (m2:=.mk) [.nf [1,6,66,67,68,73,74,75] [64,384]] (ve s.nodes (s.nodes.length:Int) v68_2 x07.label (x07.label.length:Int) s.ties s.horizon x07.name x07.watch) l0 ?_ ?_
    ·simp(config:=cS)only[go_sem, *]
    have k0:=h0
    clear h0 l0
    intro _ v75_3 _ h0 gb0
    unfold gD at h0
    try dsimp only at h0
    exact run
   exact run
  exact run
 exact run⟩
@[go_sem] def wx (b v12:List Int)(v13 v14:Int):St:=⟨[(1,.sl (ab eI b)),(12,.sl (ab eI v12)),(13,.lit (.int .i64 v13)),(14,.lit (.int .i64 v14))],[],2⟩
instance k298 {a:List Int} {b:List Int}:Ctr (mJ a b) (fun (res:Bool)=>aj prog 298 [.sl (ab eI a),.sl (ab eI b)] [] (.lit (.bool res)) []):=⟨by
 intro res h0
 refine co (hi:=hi00) func298 rfl rfl ?_
 unfold mJ at h0
 obtain⟨_,h0⟩|⟨_,h0⟩:=itP h0
 ·obtain⟨q03,l0,h0⟩:=af h0
  simp(config:=cS)only[go_sem, *]
  refine ai (m1:=.mk) (m2:=.mk) [.nf [1,12,13,14] []] (wx b a (a.length:Int)) l0 ?_ ?_
  ·simp(config:=cS)only[go_sem, *]
  have k0:=h0
  clear h0 l0
  intro _ v14_1 _ h0 gb0
  unfold im at h0
  try dsimp only at h0
  exact run
 exact run⟩
@[go_sem] def wy (node:Int)(v8:List GTie)(v9 v10:Int):St:=⟨[(1,.lit (.int .i64 node)),(8,.sl (ab GTie.enc v8)),(9,.lit (.int .i64 v9)),(10,.lit (.int .i64 v10))],[],2⟩
instance k236 {s:GShow} {node:Int}:Ctr (iU s node) (fun (res:Int)=>aj prog 236 [.agg (GShow.encS s),.lit (.int .i64 node)] [] (.lit (.int .i64 res)) []):=⟨by
 intro res h0
 refine co (hi:=hi00) func236 rfl rfl ?_
 unfold iU at h0
 obtain⟨q02,l0,h0⟩:=af h0
 simp(config:=cS)only[go_sem, *]
 refine ai (m1:=.mk) (m2:=.mk) [.nf [1,8,9,10] []] (wy node s.ties (s.ties.length:Int)) l0 ?_ ?_
 ·simp(config:=cS)only[go_sem, *]
 have k0:=h0
 clear h0 l0
 intro _ v10_1 _ h0 gb0
 unfold io at h0
 try dsimp only at h0
 exact run⟩
@[go_sem] def hi235_5:DT:=.r2 0 43 (.i2 44 (.i2 43 (.r2 45 4 .nil)))
def JX:Hint where
 acts:=fun _=>[]
 draws:=fun
  | 5=>⟨hi235_5,[[],[0],[0,1],[0,1,2],[0,1,2,3],.range 5,.range 6,.range 7,.range 8,.range 9,.range 10,.range 11,.range 12,.range 13,.range 14,.range 13,[0,1,2,3,4,5,6,7,8,9,10,11,12,15],.range 17,.range 18,.range 19,.range 20,.range 21,.range 22,.range 23,.range 24,.range 23,[0,1,2,3,4,5,6,7,8,9,10,11,12,13,14,15,16,17,18,19,20,21,22,25],.range 27,.range 28,.range 29,.range 23,[0,1,2,3,4,5,6,7,8,9,10,11,12,13,14,15,16,17,18,19,20,21,22,30],.range 23,[0,1,2,3,4,5,6,7,8,9,10,11,12,13,14,15,16,17,18,19,20,21,22,32],[0,1,2,3,4,5,6,7,8,9,10,11,12,13,14,15,16,17,18,19,20,21,22,30,31,32,33],[0,1,2,3,4,5,6,7,8,9,10,11,12,13,14,15,16,17,18,19,20,21,22,30,31,32,33,34],[0,1,2,3,4,5,6,7,8,9,10,11,12,13,14,15,16,17,18,19,20,21,22,30,31,32,33,34,35],.range 37,.range 38,.range 39,.range 40,.range 40,[0,1,2,3,4,5,6,7,8,9,10,11,12,13,14,15,16,17,18,19,20,21,22,23,24,25,26,27,28,29,30,31,32,33,34,35,36,37,38,39,41],.range 43,.range 40,.range 45,.range 46,.range 47,.range 48],.range 49⟩
  | _=>⟨.nil,[],[]⟩
theorem YK (i:Nat):JX.acts i=[]:=rfl
attribute[go_sem] YK ntmps235 results235
@[go_sem] theorem acT:(JX.draws 5).order=hi235_5:=rfl
instance k235 {s:GShow} {i:Int}:Ctr (nI s i) (fun (res:Bool)=>aj prog 235 [.agg (GShow.encS s),.lit (.int .i64 i)] [] (.lit (.bool res)) []):=⟨by
 intro res h0
 refine co (hi:=JX) func235 rfl rfl ?_
 unfold nI at h0
 exact run⟩
@[go_sem] def xv (v21:Int)(s_0:List GNode)(s_1:List GTie)(s_2 v22:Int):St:=⟨[(1,.ptr 64 1 0 0),(21,.lit (.int .i64 v21)),(22,.lit (.int .i64 v22))],[(64,1,.var [.sl (ab GNode.encS s_0),.sl (ab GTie.enc s_1),.lit (.int .i64 s_2)])],2⟩
instance k144 {s:GShow}:Ctr (nJ s) (fun (res:Bool)=>aj prog 144 [.agg (GShow.encS s)] [] (.lit (.bool res)) []):=⟨by
 intro res h0
 refine co (hi:=hi00) func144 rfl rfl ?_
 unfold nJ at h0
 obtain⟨r01,g0,h0⟩:=af h0
 simp(config:=cS)only[go_sem, *]
 have g0:=ctr g0
 refine ag g0 ?_
 obtain⟨_,h0⟩|⟨_,h0⟩:=itB h0
 ·obtain⟨_,h0⟩|⟨_,h0⟩:=itP h0
  ·exact run
  obtain⟨r02,g0,h0⟩:=af h0
  simp(config:=cS)only[go_sem, *]
  have g0:=ctr g0
  refine ag g0 ?_
  obtain⟨_,h0⟩|⟨_,h0⟩:=itB h0
  ·obtain⟨q04,l0,h0⟩:=af h0
   simp(config:=cS)only[go_sem, *]
   refine ai (m1:=.mk) (m2:=.mk) [.nf [1,21,22] [64]] (xv (s.ties.length:Int) s.nodes s.ties s.horizon) l0 ?_ ?_
   ·simp(config:=cS)only[go_sem, *]
   have k0:=h0
   clear h0 l0
   intro _ v22_1 _ h0 gb0
   unfold iV at h0
   try dsimp only at h0
   exact run
  exact run
 exact run⟩
@[go_sem] def wz (v8:List GTie)(v9:Int):(Int × (List Int))→St
 | (v10,out)=>⟨[(3,.ref 384 1 0 out.length),(8,.sl (ab GTie.enc v8)),(9,.lit (.int .i64 v9)),(10,.lit (.int .i64 v10))],[(384,1,.row true (ab eI out))],2⟩
instance k201 {s:GShow}:Ctr (kD s) (fun (res:List Int)=>aj prog 201 [.agg (GShow.encS s)] [] (.ref 20000 1 0 res.length) [(20000,1,.row true (ab eI res))]):=⟨by
 intro res h0
 refine aE (ra:=[.home 2]) (md:=mdT) hT (hi:=hi00) func201 rfl rfl (by decide +kernel) (by simp) ?_
 unfold kD at h0
 obtain⟨q02,l0,h0⟩:=af h0
 simp(config:=cS)only[go_sem, *]
 refine ai (m1:=.mk) (m2:=.mk) [.nf [3,8,9,10] [384]] (wz s.ties (s.ties.length:Int)) l0 ?_ ?_
 ·simp(config:=cS)only[go_sem, *]
 have k0:=h0
 clear h0 l0
 intro _ s0 _ h0 gb0
 obtain⟨v10_1,out_1⟩:=s0
 unfold jW at h0
 try dsimp only at h0
 exact run⟩
@[go_sem] def sG (v12:Int)(s_0:List GNode)(s_1:List GTie)(s_2:Int)(v11:List Int):(Int × Int)→St
 | (n,v13)=>⟨[(1,.ptr 64 1 0 0),(3,.lit (.int .i64 n)),(11,.ref 704 1 0 v11.length),(12,.lit (.int .i64 v12)),(13,.lit (.int .i64 v13))],[(64,1,.var [.sl (ab GNode.encS s_0),.sl (ab GTie.enc s_1),.lit (.int .i64 s_2)]),(704,1,.row true (ab eI v11))],2⟩
@[go_sem] def sH (s_0:List GNode)(s_1:List GTie)(s_2:Int):(Int × Int)→St
 | (n,p)=>⟨[(1,.ptr 64 1 0 0),(3,.lit (.int .i64 n)),(6,.lit (.int .i64 p))],[(64,1,.var [.sl (ab GNode.encS s_0),.sl (ab GTie.enc s_1),.lit (.int .i64 s_2)])],2⟩
@[go_sem] def hi100_7:DT:=.r2 0 17 .nil
def JY:Hint where
 acts:=fun _=>[]
 draws:=fun
  | 7=>⟨hi100_7,[[],[],[1],[],[1,2,3],[1,2,3,4],[1,2,3,4,5],[],[7],[],[7,8,9],[7,8,9,10],[7,8,9,10,11],[1,2,3,4,5,6,7,8,9,10,11,12],[1,2,3,4,5,6,7,8,9,10,11,12,13],.range 15,.range 16],.range 17⟩
  | _=>⟨.nil,[],[]⟩
theorem YM (i:Nat):JY.acts i=[]:=rfl
attribute[go_sem] YM ntmps100 results100
@[go_sem] theorem acU:(JY.draws 7).order=hi100_7:=rfl
instance k100 {s:GShow}:Ctr (bE s) (fun (res:Int)=>aj prog 100 [.agg (GShow.encS s)] [] (.lit (.int .i64 res)) []):=⟨by
 intro res h0
 refine co (hi:=JY) func100 rfl rfl ?_
 unfold bE at h0
 obtain⟨r01,g0,h0⟩:=af h0
 simp(config:=cS)only[go_sem, *]
 have g0:=ctr g0
 refine ag g0 ?_
 obtain⟨_,h0⟩|⟨_,h0⟩:=itB h0
 ·obtain⟨r02,g0,h0⟩:=af h0
  simp(config:=cS)only[go_sem, *]
  have g0:=ctr g0
  refine ag g0 ?_
  obtain⟨q07,l0,h0⟩:=af h0
  simp(config:=cS)only[go_sem, *]
  refine ai (m1:=.mk) (m2:=.mk) [.nf [1,3,11,12,13] [64,704]] (sG (r02.length:Int) s.nodes s.ties s.horizon r02) l0 ?_ ?_
  ·simp(config:=cS)only[go_sem, *]
  have k0:=h0
  clear h0 l0
  intro _ s0 _ h0 gb0
  obtain⟨n_1,v13_1⟩:=s0
  unfold cA at h0
  try dsimp only at h0
  obtain⟨_,h0⟩|⟨_,h0⟩:=itP h0
  ·exact run
  cases h0
  obtain rfl:=(aJ gb0).symm
  clear gb0
  have h0:=k0
  clear k0
  try dsimp only at h0
  obtain⟨q06,l0,h0⟩:=af h0
  simp(config:=cS)only[go_sem, *]
  refine ai (m1:=.mk) (m2:=.mk) [.nf [1,3,6] [64]] (sH s.nodes s.ties s.horizon) l0 ?_ ?_
  ·simp(config:=cS)only[go_sem, *]
  have k0:=h0
  clear h0 l0
  intro _ s0 _ h0 gb0
  obtain⟨n_2,p_2⟩:=s0
  unfold cY at h0
  try dsimp only at h0
  exact run
 exact run⟩
@[go_sem] def vg (v22:Int)(s_0:List GNode)(s_1:List GTie)(s_2:Int)(v21:List Int):(Int × Int × (List Int))→St
 | (n,v23,h100024576)=>⟨[(1,.lit (.int .i64 n)),(2,.ptr 128 1 0 0),(4,.ptr 256 1 0 0),(6,.ptr 384 1 0 0),(21,.ref 1344 1 0 v21.length),(22,.lit (.int .i64 v22)),(23,.lit (.int .i64 v23))],[(128,1,.var [.sl (ab GNode.encS s_0),.sl (ab GTie.enc s_1),.lit (.int .i64 s_2)]),(256,1,.var [.lit (.slice none 0 0),.lit (.slice none 0 0)]),(384,1,.var [.ref 100024576 1 0 h100024576.length,.lit (.slice none 0 0)]),(100024576,1,.row true (ab eI h100024576)),(1344,1,.row true (ab eI v21))],2⟩
@[go_sem] def vh (s_0:List GNode)(s_1:List GTie)(s_2:Int)(h100024576:List Int):(Int × Int × (List Int))→St
 | (n,p,h100024577)=>⟨[(1,.lit (.int .i64 n)),(2,.ptr 128 1 0 0),(4,.ptr 256 1 0 0),(6,.ptr 384 1 0 0),(10,.lit (.int .i64 p))],[(128,1,.var [.sl (ab GNode.encS s_0),.sl (ab GTie.enc s_1),.lit (.int .i64 s_2)]),(256,1,.var [.lit (.slice none 0 0),.lit (.slice none 0 0)]),(384,1,.var [.ref 100024576 1 0 h100024576.length,.ref 100024577 1 0 h100024577.length]),(100024576,1,.row true (ab eI h100024576)),(100024577,1,.row true (ab eI h100024577))],2⟩
@[go_sem] def hi99_8:DT:=.i1 0 (.i1 1 (.r2 2 10 (.i0 12 [0,1] (.r2 13 3 .nil))))
@[go_sem] def hi99_7:DT:=.r2 0 15 .nil
def hi99:Hint where
 acts:=fun _=>[]
 draws:=fun
  | 7=>⟨hi99_7,[[],[0],[],[0,1,2],[0,1,2,3],.range 5,[],[6],[],[6,7,8],[6,7,8,9],[6,7,8,9,10],.range 12,.range 13,.range 14],.range 15⟩
  | 8=>⟨hi99_8,[[],[0],[],[2],[],[2,3,4],[2,3,4,5],[2,3,4,5,6],[],[],[8,9],[2,3,4,5,6,7,8,9,10],[2,3,4,5,6,7,8,9,10,11],.range 13,.range 14,.range 15],.range 16⟩
  | _=>⟨.nil,[],[]⟩
theorem aam (i:Nat):hi99.acts i=[]:=rfl
attribute[go_sem] aam ntmps99 results99
@[go_sem] theorem adp:(hi99.draws 7).order=hi99_7:=rfl
@[go_sem] theorem adq:(hi99.draws 8).order=hi99_8:=rfl
instance k99 {s:GShow} {n:Int}:Ctr (dr s n) (fun (res:GChoice × Bool)=>aj prog 99 [.agg (GShow.encS s),.lit (.int .i64 n)] [] (.tup [.agg [.ref 20000 1 0 res.1.lengths.length,.ref 20001 1 0 res.1.values.length],.lit (.bool res.2)]) [(20000,1,.row true (ab eI res.1.lengths)),(20001,1,.row true (ab eI res.1.values))]):=⟨by
 intro res h0
 refine aE (ra:=[.homeCell 256 0,.homeCell 256 1]) (md:=mdT) hT (hi:=hi99) func99 rfl rfl (by decide +kernel) (by simp) ?_
 unfold dr at h0
 obtain⟨r01,g0,h0⟩:=af h0
 simp(config:=cS)only[go_sem, *]
 have g0:=ctr g0
 refine ag g0 ?_
 obtain⟨r02,g0,h0⟩:=af h0
 simp(config:=cS)only[go_sem, *]
 have g0:=ctr g0
 refine ag g0 ?_
 obtain⟨_,h0⟩|⟨_,h0⟩:=itB h0
 ·obtain⟨r03,g0,h0⟩:=af h0
  simp(config:=cS)only[go_sem, *]
  have g0:=ctr g0
  refine ag g0 ?_
  obtain⟨q08,l0,h0⟩:=af h0
  simp(config:=cS)only[go_sem, *]
  refine ai (m1:=.mk) (m2:=.mk) [.homeCell 384 0,.nf [1,2,4,6,21,22,23] [128,256,384,100024576,1344]] (vg (r03.length:Int) s.nodes s.ties s.horizon r03) l0 ?_ ?_
  ·simp(config:=cS)only[go_sem, *]
  have k0:=h0
  clear h0 l0
  intro _ s0 _ h0 gb0
  obtain⟨n_1,v23_1,h100024576_1⟩:=s0
  unfold bT at h0
  try dsimp only at h0
  obtain⟨_,h0⟩|⟨_,h0⟩:=itP h0
  ·exact run
  cases h0
  obtain rfl:=(aJ gb0).symm
  clear gb0
  have h0:=k0
  clear k0
  try dsimp only at h0
  obtain⟨q07,l0,h0⟩:=af h0
  simp(config:=cS)only[go_sem, *]
  refine ai (m1:=.mk) (m2:=.mk) [.homeCell 384 1,.nf [1,2,4,6,10] [128,256,384,100024576,100024577]] (vh s.nodes s.ties s.horizon h100024576_1) l0 ?_ ?_
  ·simp(config:=cS)only[go_sem, *]
  have k0:=h0
  clear h0 l0
  intro _ s0 _ h0 gb0
  obtain⟨n_2,p_2,h100024577_2⟩:=s0
  unfold bU at h0
  try dsimp only at h0
  exact run
 exact run⟩
@[go_sem] def hi32_1:DT:=.i1 0 (.i2 1 (.i2 2 (.i1 4 (.fork (.i0 3 [0,4] (.fork (.i0 5 [0] (.i2 6 (.fork (.i2 7 (.i2 8 (.i2 9 (.i2 10 (.i0 11 [0,4] (.i2 12 (.i2 13 .nil))))))) (.i0 11 [0,4] (.i2 7 (.i2 8 (.i2 9 (.i2 10 (.i2 12 (.i2 13 .nil)))))))))) (.i0 11 [0,4] (.i0 5 [0] (.i2 6 (.i2 7 (.i2 8 (.i2 9 (.i2 10 (.i2 12 (.i2 13 .nil))))))))))) (.i0 11 [0,4] (.i0 3 [0,4] (.i0 5 [0] (.i2 6 (.i2 7 (.i2 8 (.i2 9 (.i2 10 (.i2 12 (.i2 13 .nil))))))))))))))
def hi32:Hint where
 acts:=fun _=>[]
 draws:=fun
  | 1=>⟨hi32_1,[[],[],[],[1,2],[],[1,2,3,4],[1,2,3,4,5],.range 7,.range 8,.range 9,.range 9,[],[0,1,2,3,4,5,6,7,8,9,11],.range 13],[0,1,2,3,4,5,6,7,8,9,12,10,11,13]⟩
  | _=>⟨.nil,[],[]⟩
theorem aao (i:Nat):hi32.acts i=[]:=rfl
attribute[go_sem] aao ntmps32 results32
@[go_sem] theorem adr:(hi32.draws 1).order=hi32_1:=rfl
instance k32 {code:List Int} {n:Int} {s:GShow}:Ctr (jX code n s) (fun (res:GChoice)=>aj prog 32 [.sl (ab (eK .u8) code),.lit (.int .i64 n),.agg (GShow.encS s)] [] (.agg [.ref 20000 1 0 res.lengths.length,.ref 20001 1 0 res.values.length]) [(20000,1,.row true (ab eI res.lengths)),(20001,1,.row true (ab eI res.values))]):=⟨by
 intro res h0
 refine aE (ra:=[.homeCell 384 0,.homeCell 384 1]) (md:=mdT) hT (hi:=hi32) func32 rfl rfl (by decide +kernel) (by simp) ?_
 unfold jX at h0
 try simp(config:=cS)only[go_sem, *]
 refine dl ?_ ?_
 ·obtain⟨r01,g0,h0⟩:=af h0
  simp(config:=cS)only[go_sem, *]
  have g0:=ctr g0
  refine ag g0 ?_
  try simp(config:=cS)only[go_sem, *]
  refine dl ?_ ?_
  ·obtain⟨r02,g0,h0⟩:=af h0
   simp(config:=cS)only[go_sem, *]
   have g0:=ctr g0
   refine ag g0 ?_
   obtain⟨_,h0⟩:=ckN h0
   try simp(config:=cS)only[go_sem, *]
   refine dl ?_ ?_
   ·exact run
   exact run
  exact run
 exact run⟩
instance k199 {v0:List GTie}:Ctr (jp v0) (fun (res:List GTie)=>aj prog 199 [.sl (ab GTie.enc v0)] [] (.ref 20000 1 0 res.length) [(20000,1,.row true (ab GTie.enc res))]):=⟨by
 intro res h0
 refine aE (ra:=[.home 2]) (md:=mdT) hT (hi:=hi00) func199 rfl rfl (by decide +kernel) (by simp) ?_
 unfold jp at h0
 obtain⟨_,h0,_⟩|⟨a0,h0⟩:=HS h0
 ·exact run
 have:=fun (e:_→List AV)=>Ef (e:=e) a0
 exact run⟩
@[go_sem] def pT (v13:List GNode)(v14 out_2:Int)(h512:List GTie):(Int × (List GNode))→St
 | (v15,h100012288)=>⟨[(2,.ptr 128 1 0 0),(3,.ptr 192 1 0 0),(13,.sl (ab GNode.encS v13)),(14,.lit (.int .i64 v14)),(15,.lit (.int .i64 v15))],[(128,1,.var [.lit (.slice none 0 0),.lit (.slice none 0 0),.lit (.int .i64 0)]),(192,1,.var [.ref 100012288 1 0 h100012288.length,.ref 512 1 0 h512.length,.lit (.int .i64 out_2)]),(100012288,1,.row true (ab GNode.encO h100012288)),(512,1,.row true (ab GTie.enc h512))],2⟩
@[go_sem] def hi97_1:DT:=.i1 0 (.i1 1 (.i1 3 (.i1 4 (.fork (.i0 2 [3,4] (.i2 5 (.i0 6 [0,1,3,4] (.i2 7 .nil)))) (.i0 6 [0,1,3,4] (.i0 2 [3,4] (.i2 5 (.i2 7 .nil))))))))
def hi97:Hint where
 acts:=fun _=>[]
 draws:=fun
  | 1=>⟨hi97_1,[[],[0],[0,1],[],[3],.range 5,[],.range 7],.range 8⟩
  | _=>⟨.nil,[],[]⟩
theorem aaq (i:Nat):hi97.acts i=[]:=rfl
attribute[go_sem] aaq ntmps97 results97
@[go_sem] theorem ads:(hi97.draws 1).order=hi97_1:=rfl
instance k97 {s:GShow}:Ctr (jv s) (fun (res:GShow)=>aj prog 97 [.agg (GShow.encS s)] [] (.agg [.ref 20000 1 0 res.nodes.length,.ref 20001 1 0 res.ties.length,.lit (.int .i64 res.horizon)]) [(20000,1,.row true (ab GNode.encO res.nodes)),(20001,1,.row true (ab GTie.enc res.ties))]):=⟨by
 intro res h0
 refine aE (ra:=[.homeCell 128 0,.homeCell 128 1]) (md:=mdT) hT (hi:=hi97) func97 rfl rfl (by decide +kernel) (by simp) ?_
 unfold jv at h0
 try simp(config:=cS)only[go_sem, *]
 refine dl ?_ ?_
 ·obtain⟨r01,g0,h0⟩:=af h0
  simp(config:=cS)only[go_sem, *]
  have g0:=ctr g0
  refine ag g0 ?_
  obtain⟨q04,l0,h0⟩:=af h0
  simp(config:=cS)only[go_sem, *]
  refine ai (m1:=.mk) (m2:=.mk) [.homeCell 192 0,.nf [2,3,13,14,15] [128,192,100012288,512]] (pT s.nodes (s.nodes.length:Int) s.horizon r01) l0 ?_ ?_
  ·simp(config:=cS)only[go_sem, *]
  have k0:=h0
  clear h0 l0
  intro _ s0 _ h0 gb0
  obtain⟨v15_1,h100012288_1⟩:=s0
  unfold gF at h0
  try dsimp only at h0
  exact run
 obtain⟨r05,g0,h0⟩:=af h0
 simp(config:=cS)only[go_sem, *]
 have g0:=ctr g0
 refine ag g0 ?_
 obtain⟨q08,l0,h0⟩:=af h0
 simp(config:=cS)only[go_sem, *]
 refine ai (m1:=.mk) (m2:=.mk) [.homeCell 192 0,.nf [2,3,13,14,15] [128,192,100012288,512]] (pT s.nodes (s.nodes.length:Int) s.horizon r05) l0 ?_ ?_
 ·simp(config:=cS)only[go_sem, *]
 have k0:=h0
 clear h0 l0
 intro _ s0 _ h0 gb0
 obtain⟨v15_2,h100012288_2⟩:=s0
 unfold gF at h0
 try dsimp only at h0
 exact run⟩
@[go_sem] def hi31_3:DT:=.i2 0 (.i1 2 (.i2 4 (.i0 1 [2] (.i2 3 (.r2 5 3 .nil)))))
def hi31:Hint where
 acts:=fun _=>[]
 draws:=fun
  | 3=>⟨hi31_3,[[],[0],[],[0,1,2],[],.range 5,.range 6,.range 7],.range 8⟩
  | _=>⟨.nil,[],[]⟩
theorem aas (i:Nat):hi31.acts i=[]:=rfl
attribute[go_sem] aas ntmps31 results31
@[go_sem] theorem adt:(hi31.draws 3).order=hi31_3:=rfl
instance k31 {s:GShow} {lazy:Bool}:Ctr (mK s lazy) (fun (res:GDesk × Bool)=>aj prog 31 [.agg (GShow.encS s),.lit (.bool lazy)] [] (.tup [.agg [.ref 20000 1 0 res.1.show_.nodes.length,.ref 20001 1 0 res.1.show_.ties.length,.lit (.int .i64 res.1.show_.horizon),.lit (.int .i64 res.1.state.now),.ref 20002 1 0 res.1.state.times.length,.ref 20003 1 0 res.1.state.values.length,.lit (.bool res.1.lazy),.ref 20004 1 0 res.1.log.length],.lit (.bool res.2)]) [(20000,1,.row true (ab GNode.encO res.1.show_.nodes)),(20001,1,.row true (ab GTie.enc res.1.show_.ties)),(20002,1,.row true (ab eI res.1.state.times)),(20003,1,.row true (ab eI res.1.state.values)),(20004,1,.row true (ab an.encO res.1.log))]):=⟨by
 intro res h0
 refine aE (ra:=[.homeCell 256 0,.homeCell 256 1,.homeCell 256 4,.homeCell 256 5,.homeCell 256 7]) (md:=mdT) hT (hi:=hi31) func31 rfl rfl (by decide +kernel) (by simp) ?_
 unfold mK at h0
 exact run⟩
@[go_sem] def wA (v6:List an)(v7:Int):(Int × (List an))→St
 | (v8,out)=>⟨[(3,.ref 255 1 0 out.length),(6,.sl (ab an.encS v6)),(7,.lit (.int .i64 v7)),(8,.lit (.int .i64 v8))],[(255,1,.row true (ab an.encO out))],2⟩
@[go_sem] def hi203_5:DT:=.i2 0 (.i1 1 (.i1 2 (.i2 3 (.i2 4 (.i1 6 (.i1 7 (.i1 9 (.i1 10 (.i0 5 [1,2,6,7,9,10] (.i0 8 [1,2,9,10] (.i0 11 [1,2] (.r2 12 4 .nil))))))))))))
def JZ:Hint where
 acts:=fun _=>[]
 draws:=fun
  | 5=>⟨hi203_5,[[],[],[1],[],[3],[3,4],[],[6],[3,4,5,6,7],[],[9],[3,4,5,6,7,8,9,10],[1,2,3,4,5,6,7,8,9,10,11],[1,2,3,4,5,6,7,8,9,10,11,12],.range 14,.range 15],.range 16⟩
  | _=>⟨.nil,[],[]⟩
theorem YO (i:Nat):JZ.acts i=[]:=rfl
attribute[go_sem] YO ntmps203 results203
@[go_sem] theorem acV:(JZ.draws 5).order=hi203_5:=rfl
instance k203 {log:List an}:Ctr (mL log) (fun (res:List an)=>aj prog 203 [.sl (ab an.encS log)] [] (.ref 20000 1 0 res.length) [(20000,1,.row true (ab an.encO res))]):=⟨by
 intro res h0
 refine aE (ra:=[.home 2]) (md:=mdT) hT (hi:=JZ) func203 rfl rfl (by decide +kernel) (by simp) ?_
 unfold mL at h0
 obtain⟨q05,l0,h0⟩:=af h0
 simp(config:=cS)only[go_sem, *]
 refine ai (m1:=.mk) (m2:=.mk) [.home 3,.nf [3,6,7,8] [255]] (wA log (log.length:Int)) l0 ?_ ?_
 ·simp(config:=cS)only[go_sem, *]
 have k0:=h0
 clear h0 l0
 intro _ s0 _ h0 gb0
 obtain⟨v8_1,out_1⟩:=s0
 unfold jY at h0
 try dsimp only at h0
 exact run⟩
@[go_sem] def hi101_1:DT:=.i2 0 (.i2 1 (.i1 3 (.i1 4 (.i1 6 (.i1 7 (.i1 8 (.i1 9 (.i0 2 [3,4,6,7,8,9] (.i0 5 [6,7,8,9] (.i0 10 [6,7] (.i2 11 (.i2 12 .nil))))))))))))
def Ka:Hint where
 acts:=fun _=>[]
 draws:=fun
  | 1=>⟨hi101_1,[[],[0],[0,1],[],[3],.range 5,[],[6],[],[8],[0,1,2,3,4,5,8,9],.range 11,.range 12],.range 13⟩
  | _=>⟨.nil,[],[]⟩
theorem YQ (i:Nat):Ka.acts i=[]:=rfl
attribute[go_sem] YQ ntmps101 results101
@[go_sem] theorem acW:(Ka.draws 1).order=hi101_1:=rfl
instance k101 {d:GDesk}:Ctr (jw d) (fun (res:GDesk)=>aj prog 101 [.agg (GDesk.encS d)] [] (.agg [.ref 20000 1 0 res.show_.nodes.length,.ref 20001 1 0 res.show_.ties.length,.lit (.int .i64 res.show_.horizon),.lit (.int .i64 res.state.now),.ref 20002 1 0 res.state.times.length,.ref 20003 1 0 res.state.values.length,.lit (.bool res.lazy),.ref 20004 1 0 res.log.length]) [(20000,1,.row true (ab GNode.encO res.show_.nodes)),(20001,1,.row true (ab GTie.enc res.show_.ties)),(20002,1,.row true (ab eI res.state.times)),(20003,1,.row true (ab eI res.state.values)),(20004,1,.row true (ab an.encO res.log))]):=⟨by
 intro res h0
 refine aE (ra:=[.homeCell 128 0,.homeCell 128 1,.homeCell 128 4,.homeCell 128 5,.homeCell 128 7]) (md:=mdT) hT (hi:=Ka) func101 rfl rfl (by decide +kernel) (by simp) ?_
 unfold jw at h0
 exact run⟩
@[go_sem] def qS (v0:List (List Int))(f_v1:Nat)(k_v1:List AV)(v7 v8:Int):St:=⟨[(0,.sl (ab (eLS eI) v0)),(1,.fn f_v1 k_v1),(7,.lit (.int .i64 v7)),(8,.lit (.int .i64 v8))],[],2⟩
theorem tT {v0:List (List Int)}{v1:(List Int)→Option Bool}{f_v1:Nat}{k_v1:List AV}(hp_v1:∀ y0 r,v1 y0=some r→aj prog f_v1 ([.sl (ab eI y0)]++k_v1) [] (.lit (.bool r)) [])(hc_v1:KC k_v1)(hm_v1:∀ a,mdT f_v1 a=⟨[],false⟩)(hk_v1:spf f_v1=false){res:Int}(h:fG v0 v1=some res):aj prog 316 [.sl (ab (eLS eI) v0),.fn f_v1 k_v1] [] (.lit (.int .i64 res)) []:=by
 refine co (hi:=hi00) func316 rfl rfl ?_
 unfold fG at h
 obtain⟨q03,l1,h⟩:=af h
 simp(config:=cS)only[go_sem,hc_v1.1,hc_v1.2,hm_v1,hk_v1]
 refine ai (m1:=.mk) (m2:=.mk) [.nf [0,1,7,8] []] (qS v0 f_v1 k_v1 (v0.length:Int)) l1 ?_ ?_
 ·simp(config:=cS)only[go_sem,hc_v1.1,hc_v1.2,hm_v1,hk_v1]
 intro nb2 v8_1 bb2 b2 gb2
 unfold cP at b2
 try dsimp only at b2
 obtain⟨h3,b2⟩|⟨h3,b2⟩:=bl b2
 ·obtain⟨x01,g4,b2⟩:=af b2
  obtain⟨h5,h6,h7⟩:=eU g4
  obtain⟨r02,g8,b2⟩:=af b2
  simp(config:=cS)only[go_sem,hc_v1.1,hc_v1.2,hm_v1,hk_v1,eqT h3,h5,h6,h7]
  refine ag (hp_v1 _ _ g8) ?_
  obtain⟨h9,b2⟩|⟨h9,b2⟩:=bl b2
  ·cases b2
   obtain rfl:=(aJ gb2).symm
   try dsimp only at h
   cases h
   simp(config:=cS)only[go_sem,hc_v1.1,hc_v1.2,hm_v1,hk_v1,eqT h3,h5,h6,h7,eZt h9]
  cases b2
  simp(config:=cS)only[go_sem,hc_v1.1,hc_v1.2,hm_v1,hk_v1,eqT h3,h5,h6,h7,eZf h9]
  refine iL gb2 ?_
  simp(config:=cS)only[go_sem,hc_v1.1,hc_v1.2,hm_v1,hk_v1,eqT h3,h5,h6,h7,eZf h9]
 cases b2
 obtain rfl:=(aJ gb2).symm
 try dsimp only at h
 cases h
 simp(config:=cS)only[go_sem,hc_v1.1,hc_v1.2,hm_v1,hk_v1,eqF h3]
theorem se {v0:List (List Int)}{v1:(List Int)→Option Bool}{f_v1:Nat}{k_v1:List AV}(hp_v1:∀ y0 r,v1 y0=some r→aj prog f_v1 ([.sl (ab eI y0)]++k_v1) [] (.lit (.bool r)) [])(hc_v1:KC k_v1)(hm_v1:∀ a,mdT f_v1 a=⟨[],false⟩)(hk_v1:spf f_v1=false){res:Bool}(h:gd v0 v1=some res):aj prog 314 [.sl (ab (eLS eI) v0),.fn f_v1 k_v1] [] (.lit (.bool res)) []:=by
 refine co (hi:=hi00) func314 rfl rfl ?_
 unfold gd at h
 obtain⟨r01,g1,h⟩:=af h
 simp(config:=cS)only[go_sem,hc_v1.1,hc_v1.2,hm_v1,hk_v1]
 refine ag (tT hp_v1 hc_v1 hm_v1 hk_v1 g1) ?_
 cases h
 simp(config:=cS)only[go_sem,hc_v1.1,hc_v1.2,hm_v1,hk_v1]
instance k315 {y:List Int} {v1:List Int}:Ctr (pG y v1) (fun (res:Bool)=>aj prog 315 [.sl (ab eI y),.loc [.sl (ab eI v1)]] [] (.lit (.bool res)) []):=⟨by
 intro res h0
 refine co (hi:=hi00) func315 rfl rfl ?_
 unfold pG at h0
 exact run⟩
instance k277 {list:List (List Int)} {v1:List Int}:Ctr (mZ list v1) (fun (res:Bool)=>aj prog 277 [.sl (ab (eLS eI) list),.sl (ab eI v1)] [] (.lit (.bool res)) []):=⟨by
 intro res h0
 refine co (hi:=hi00) func277 rfl rfl ?_
 unfold mZ at h0
 obtain⟨r01,g0,h0⟩:=af h0
 simp(config:=cS)only[go_sem, *]
 refine ag (se (by exact fun _ _ hr=>by have q:=ctr hr;exact q) (by refine⟨fun _=>?_,fun _=>?_⟩ <;> simp only[go_sem]) (fun _=>rfl) rfl g0) ?_
 exact run⟩
@[go_sem] def yi (v58:List Int)(v59 next_0:Int)(h3456 h3457 props:List Int):(Int × (List Int) × (List Int))→St
 | (v60,seen,values)=>⟨[(6,.ptr 384 1 0 0),(9,.ptr 576 1 0 0),(10,.ref 3458 1 0 props.length),(11,.ref 767 1 0 seen.length),(12,.ref 831 1 0 values.length),(58,.sl (ab eI v58)),(59,.lit (.int .i64 v59)),(60,.lit (.int .i64 v60))],[(384,1,.var [.lit (.int .i64 0),.lit (.slice none 0 0),.lit (.slice none 0 0)]),(576,1,.var [.lit (.int .i64 next_0),.ref 3456 1 0 h3456.length,.ref 3457 1 0 h3457.length]),(3456,1,.row true (ab eI h3456)),(3457,1,.row true (ab eI h3457)),(3458,1,.row true (ab eI props)),(767,1,.row true (ab eI seen)),(831,1,.row true (ab eI values))],2⟩
@[go_sem] def hi210_4:DT:=.i2 0 (.i2 1 (.i1 3 (.i1 4 (.i0 2 [3,4] (.i2 5 (.i2 6 .nil))))))
@[go_sem] def hi210_1:DT:=.r2 0 8 (.i1 9 (.i1 10 (.i0 8 [9,10] (.r2 11 9 .nil))))
def EF:Hint where
 acts:=fun _=>[]
 draws:=fun
  | 1=>⟨hi210_1,[[],[0],[],[2],[0,1,2,3],.range 5,.range 6,.range 6,.range 8,.range 6,[0,1,2,3,4,5,9],.range 11,.range 12,.range 13,.range 14,.range 15,.range 16,.range 17,.range 18,.range 19],.range 20⟩
  | 4=>⟨hi210_4,[[],[],[0,1],[],[3],.range 5,.range 6],.range 7⟩
  | _=>⟨.nil,[],[]⟩
theorem YS (i:Nat):EF.acts i=[]:=rfl
attribute[go_sem] YS ntmps210 results210
@[go_sem] theorem acX:(EF.draws 1).order=hi210_1:=rfl
@[go_sem] theorem acY:(EF.draws 4).order=hi210_4:=rfl
instance k210 {s:GShow} {v1:GState} {e:an}:Ctr (ou s v1 e) (fun (res:GState × Bool)=>aj prog 210 [.agg (GShow.encS s),.agg (GState.encS v1),.agg (an.encS e)] [] (.tup [.agg [.lit (.int .i64 res.1.now),.ref 20000 1 0 res.1.times.length,.ref 20001 1 0 res.1.values.length],.lit (.bool res.2)]) [(20000,1,.row true (ab eI res.1.times)),(20001,1,.row true (ab eI res.1.values))]):=⟨by
 intro res h0
 refine aE (ra:=[.homeCell 384 1,.homeCell 384 2]) (md:=mdT) hT (hi:=EF) func210 rfl rfl (by decide +kernel) (by simp) ?_
 unfold ou at h0
 obtain⟨_,h0⟩|⟨_,h0⟩:=itP h0
 ·obtain⟨r01,g0,h0⟩:=af h0
  simp(config:=cS)only[go_sem, *]
  have g0:=ctr g0
  refine ag g0 ?_
  obtain⟨r02,g0,h0⟩:=af h0
  simp(config:=cS)only[go_sem, *]
  have g0:=ctr g0
  refine ag g0 ?_
  obtain⟨_,h0⟩|⟨_,h0⟩:=itB h0
  ·obtain⟨r03,g0,h0⟩:=af h0
   simp(config:=cS)only[go_sem, *]
   have g0:=ctr g0
   refine ag g0 ?_
   obtain⟨_,h0⟩|⟨_,h0⟩:=itB h0
   ·obtain⟨r04,g0,h0⟩:=af h0
    simp(config:=cS)only[go_sem, *]
    have g0:=ctr g0
    refine ag g0 ?_
    obtain⟨r05,g0,h0⟩:=af h0
    simp(config:=cS)only[go_sem, *]
    have g0:=ctr g0
    refine ag g0 ?_
    obtain⟨r06,g0,h0⟩:=af h0
    simp(config:=cS)only[go_sem, *]
    have g0:=ctr g0
    refine ag g0 ?_
    obtain⟨_,h0⟩|⟨_,h0⟩:=itB h0
    ·obtain⟨r07,g0,h0⟩:=af h0
     simp(config:=cS)only[go_sem, *]
     have g0:=ctr g0
     refine ag g0 ?_
     obtain⟨q13,l0,h0⟩:=af h0
     simp(config:=cS)only[go_sem, *]
     refine ai (m1:=.mk) (m2:=.mk) [.home 11,.home 12,.nf [6,9,10,11,12,58,59,60] [384,576,3456,3457,3458,767,831]] (yi e.values (e.values.length:Int) r07.1.now r07.1.times r07.1.values r07.2) l0 ?_ ?_
     ·simp(config:=cS)only[go_sem, *]
     have k0:=h0
     clear h0 l0
     intro _ s0 _ h0 gb0
     obtain⟨v60_1,seen_1,values_1⟩:=s0
     unfold lJ at h0
     try dsimp only at h0
     exact run
    exact run
   exact run
  exact run
 exact run⟩
@[go_sem] def uE (v17:List an)(v18:Int)(s_0:List GNode)(s_1:List GTie)(s_2:Int):(Int × Int × (List Int) × (List Int))→St
 | (v19,v6_0,h1024,h1025)=>⟨[(2,.ptr 128 1 0 0),(4,.ptr 256 1 0 0),(6,.ptr 384 1 0 0),(17,.sl (ab an.encS v17)),(18,.lit (.int .i64 v18)),(19,.lit (.int .i64 v19))],[(128,1,.var [.sl (ab GNode.encS s_0),.sl (ab GTie.enc s_1),.lit (.int .i64 s_2)]),(256,1,.var [.lit (.int .i64 0),.lit (.slice none 0 0),.lit (.slice none 0 0)]),(384,1,.var [.lit (.int .i64 v6_0),.ref 1024 1 0 h1024.length,.ref 1025 1 0 h1025.length]),(1024,1,.row true (ab eI h1024)),(1025,1,.row true (ab eI h1025))],2⟩
instance k105 {s:GShow} {log:List an}:Ctr (kW s log) (fun (res:GState × Bool)=>aj prog 105 [.agg (GShow.encS s),.sl (ab an.encS log)] [] (.tup [.agg [.lit (.int .i64 res.1.now),.ref 20000 1 0 res.1.times.length,.ref 20001 1 0 res.1.values.length],.lit (.bool res.2)]) [(20000,1,.row true (ab eI res.1.times)),(20001,1,.row true (ab eI res.1.values))]):=⟨by
 intro res h0
 refine aE (ra:=[.homeCell 256 1,.homeCell 256 2]) (md:=mdT) hT (hi:=hi00) func105 rfl rfl (by decide +kernel) (by simp) ?_
 unfold kW at h0
 obtain⟨r01,g0,h0⟩:=af h0
 simp(config:=cS)only[go_sem, *]
 have g0:=ctr g0
 refine ag g0 ?_
 obtain⟨_,h0⟩|⟨_,h0⟩:=itB h0
 ·obtain⟨r02,g0,h0⟩:=af h0
  simp(config:=cS)only[go_sem, *]
  have g0:=ctr g0
  refine ag g0 ?_
  obtain⟨q05,l0,h0⟩:=af h0
  simp(config:=cS)only[go_sem, *]
  refine ai (m1:=.mk) (m2:=.mk) [.nfp [2,4,6,17,18,19] [(128,128),(256,256),(384,384),(1728,1024),(1024,1024),(1729,1025),(1025,1025)] []] (uE log (log.length:Int) s.nodes s.ties s.horizon) l0 ?_ ?_
  ·simp(config:=cS)only[go_sem, *]
  have k0:=h0
  clear h0 l0
  intro _ s0 _ h0 gb0
  obtain⟨v19_1,v6_0_1,h1024_1,h1025_1⟩:=s0
  unfold iD at h0
  try dsimp only at h0
  exact run
 exact run⟩
instance k204 {a:GState} {b:GState}:Ctr (jZ a b) (fun (res:Bool)=>aj prog 204 [.agg (GState.encS a),.agg (GState.encS b)] [] (.lit (.bool res)) []):=⟨by
 intro res h0
 refine co (hi:=hi00) func204 rfl rfl ?_
 unfold jZ at h0
 exact run⟩
instance k102 {d:GDesk}:Ctr (ln d) (fun (res:Bool)=>aj prog 102 [.agg (GDesk.encS d)] [] (.lit (.bool res)) []):=⟨by
 intro res h0
 refine co (hi:=hi00) func102 rfl rfl ?_
 unfold ln at h0
 exact run⟩
@[go_sem] def hi143_1:DT:=.i1 0 (.i1 1 (.i1 2 (.i1 3 (.i1 4 (.i1 5 (.i2 6 (.i1 7 (.i1 8 (.i1 9 (.i1 10 (.i1 11 (.i2 12 (.i1 13 (.i1 14 (.i2 15 (.i2 16 (.i0 17 [0,1,2,3,4,5,7,8,9,10,11,13,14] (.r2 18 4 .nil))))))))))))))))))
def Kb:Hint where
 acts:=fun _=>[]
 draws:=fun
  | 1=>⟨hi143_1,[[],[0],[],[2],[],[4],[],[4,5,6],[4,5,6,7],[4,5,6,7,8],[2,3,4,5,6,7,8,9],[2,3,4,5,6,7,8,9,10],.range 12,[],[13],[],[],[15,16],[13,14,15,16,17],[13,14,15,16,17,18],.range 20,.range 21],.range 22⟩
  | _=>⟨.nil,[],[]⟩
theorem YU (i:Nat):Kb.acts i=[]:=rfl
attribute[go_sem] YU ntmps143 results143
@[go_sem] theorem acZ:(Kb.draws 1).order=hi143_1:=rfl
instance k143 {i:Int} {v1:GState} {s:GShow} {v3:GChoice} {free:List Int}:Ctr (lb i v1 s v3 free) (fun (res:Bool)=>aj prog 143 [.lit (.int .i64 i),.loc [.lit (.int .i64 v1.now),.sl (ab eI v1.times),.sl (ab eI v1.values)],.loc [.sl (ab GNode.encS s.nodes),.sl (ab GTie.enc s.ties),.lit (.int .i64 s.horizon)],.loc [.sl (ab eI v3.lengths),.sl (ab eI v3.values)],.loc [.sl (ab eI free)]] [] (.lit (.bool res)) []):=⟨by
 intro res h0
 refine co (hi:=Kb) func143 rfl rfl ?_
 unfold lb at h0
 exact run⟩
instance k51 {s:GShow} {v1:GState} {v2:GChoice}:Ctr (iW s v1 v2) (fun (res:List Int)=>aj prog 51 [.agg (GShow.encS s),.agg (GState.encS v1),.agg [.sl (ab eI v2.lengths),.sl (ab eI v2.values)]] [] (.ref 20000 1 0 res.length) [(20000,1,.row false (ab eI res))]):=⟨by
 intro res h0
 refine aE (ra:=[.home 6,.trim 6]) (md:=mdT) hT (hi:=hi00) func51 rfl rfl (by decide +kernel) (by simp) ?_
 unfold iW at h0
 obtain⟨r01,g0,h0⟩:=af h0
 simp(config:=cS)only[go_sem, *]
 have g0:=ctr g0
 refine ag g0 ?_
 obtain⟨_,h0⟩|⟨_,h0⟩:=itB h0
 ·obtain⟨r02,g0,h0⟩:=af h0
  simp(config:=cS)only[go_sem, *]
  have g0:=ctr g0
  refine ag g0 ?_
  obtain⟨_,h0⟩|⟨_,h0⟩:=itB h0
  ·obtain⟨r03,g0,h0⟩:=af h0
   simp(config:=cS)only[go_sem, *]
   have g0:=ctr g0
   refine ag g0 ?_
   obtain⟨r04,g0,h0⟩:=af h0
   simp(config:=cS)only[go_sem, *]
   have g0:=ctr g0
   refine ag g0 ?_
   obtain⟨r05,g0,h0⟩:=af h0
   simp(config:=cS)only[go_sem, *]
   refine ag (pg (by exact fun _ _ hr=>by have q:=ctr hr;exact q) (by refine⟨fun _=>?_,fun _=>?_⟩ <;> simp only[go_sem]) (fun _=>rfl) rfl g0) ?_
   exact run
  exact run
 exact run⟩
instance k276 {v:Int}:Ctr (iE v) (fun (res:Bool)=>aj prog 276 [.lit (.int .i64 v)] [] (.lit (.bool res)) []):=⟨by
 intro res h0
 refine co (hi:=hi00) func276 rfl rfl ?_
 unfold iE at h0
 exact run⟩
instance k281 {nodes:List Int} {g_s:GShow} {g_known:List (ByteArray × Bool)} {v2:GState}:Ctr (fS nodes g_s g_known v2) (fun (res:Bool × (List (ByteArray × Bool)))=>aj prog 281 [.sl (ab eI nodes),.ptr 10000 0 0 0,.ptr 10003 0 0 0] [(10000,0,.var [.ptr 10001 0 0 0]),(10001,0,.var [.sl (ab GNode.encS g_s.nodes),.sl (ab GTie.enc g_s.ties),.lit (.int .i64 g_s.horizon),.mp 10002 0]),(10002,0,.map (eM g_known)),(10003,0,.var [.lit (.int .i64 v2.now),.sl (ab eI v2.times),.sl (ab eI v2.values)])] (.lit (.bool res.1)) [(10000,0,.var [.ptr 10001 0 0 0]),(10001,0,.var [.sl (ab GNode.encS g_s.nodes),.sl (ab GTie.enc g_s.ties),.lit (.int .i64 g_s.horizon),.mp 10002 0]),(10002,0,.map (eM res.2)),(10003,0,.var [.lit (.int .i64 v2.now),.sl (ab eI v2.times),.sl (ab eI v2.values)])]):=⟨by
 intro res h0
 refine co (hi:=hi00) func281 rfl rfl ?_
 unfold fS at h0
 obtain⟨r01,g0,h0⟩:=af h0
 simp(config:=cS)only[go_sem, *]
 refine ag (yh g0) ?_
 exact run⟩
@[go_sem] def kx (zb0:Bool)(v7:Int)(v0:List (List Int))(h10002_0:List GNode)(h10002_1:List GTie)(h10002_2 h10004_0:Int)(h10004_1 h10004_2:List Int):(Int × (List (ByteArray × Bool)))→St
 | (v8,h10003)=>⟨[(0,.ref 10000 0 0 v0.length),(1,.fn 281 [.ptr 10001 0 0 0,.ptr 10004 0 0 0]),(7,.lit (.int .i64 v7)),(8,.lit (.int .i64 v8))],[(10000,0,.row zb0 (ab (eLS eI) v0)),(10001,0,.var [.ptr 10002 0 0 0]),(10002,0,.var [.sl (ab GNode.encS h10002_0),.sl (ab GTie.enc h10002_1),.lit (.int .i64 h10002_2),.mp 10003 0]),(10003,0,.map (eM h10003)),(10004,0,.var [.lit (.int .i64 h10004_0),.sl (ab eI h10004_1),.sl (ab eI h10004_2)])],2⟩
theorem mc {v0:List (List Int)}{g_s:GShow}{g_known:List (ByteArray × Bool)}{cap1:GState}{zb0:Bool}{res:Int × (List (List Int)) × (List (ByteArray × Bool))}(h0:bw v0 g_s g_known cap1=some res):aj prog 316 [.ref 10000 0 0 v0.length,.fn 281 [.ptr 10001 0 0 0,.ptr 10004 0 0 0]] [(10000,0,.row zb0 (ab (eLS eI) v0)),(10001,0,.var [.ptr 10002 0 0 0]),(10002,0,.var [.sl (ab GNode.encS g_s.nodes),.sl (ab GTie.enc g_s.ties),.lit (.int .i64 g_s.horizon),.mp 10003 0]),(10003,0,.map (eM g_known)),(10004,0,.var [.lit (.int .i64 cap1.now),.sl (ab eI cap1.times),.sl (ab eI cap1.values)])] (.lit (.int .i64 res.1)) [(10000,0,.row zb0 (ab (eLS eI) res.2.1)),(10001,0,.var [.ptr 10002 0 0 0]),(10002,0,.var [.sl (ab GNode.encS g_s.nodes),.sl (ab GTie.enc g_s.ties),.lit (.int .i64 g_s.horizon),.mp 10003 0]),(10003,0,.map (eM res.2.2)),(10004,0,.var [.lit (.int .i64 cap1.now),.sl (ab eI cap1.times),.sl (ab eI cap1.values)])]:=by
 refine co (hi:=hi00) func316 rfl rfl ?_
 unfold bw at h0
 obtain⟨q03,l0,h0⟩:=af h0
 simp(config:=cS)only[go_sem, *]
 refine ai (m1:=.mk) (m2:=.mk) [.nf [0,1,7,8] [10000,10001,10002,10003,10004]] (kx zb0 (v0.length:Int) v0 g_s.nodes g_s.ties g_s.horizon cap1.now cap1.times cap1.values) l0 ?_ ?_
 ·simp(config:=cS)only[go_sem, *]
 have k0:=h0
 clear h0 l0
 intro _ s0 _ h0 gb0
 obtain⟨v8_1,h10003_1⟩:=s0
 unfold bj at h0
 try dsimp only at h0
 exact run
@[go_sem] def kg (zb0:Bool)(v0_n:Nat)(h10002_0:List GNode)(h10002_1:List GTie)(h10002_2 h10004_0:Int)(h10004_1 h10004_2:List Int):(Int × Int × (List (List Int)) × (List (ByteArray × Bool)))→St
 | (v5,v6,v0,h10003)=>⟨[(0,.ref 10000 0 0 v0_n),(1,.fn 281 [.ptr 10001 0 0 0,.ptr 10004 0 0 0]),(5,.lit (.int .i64 v5)),(6,.lit (.int .i64 v6))],[(10000,0,.row zb0 (ab (eLS eI) v0)),(10001,0,.var [.ptr 10002 0 0 0]),(10002,0,.var [.sl (ab GNode.encS h10002_0),.sl (ab GTie.enc h10002_1),.lit (.int .i64 h10002_2),.mp 10003 0]),(10003,0,.map (eM h10003)),(10004,0,.var [.lit (.int .i64 h10004_0),.sl (ab eI h10004_1),.sl (ab eI h10004_2)])],2⟩
def dH:Hint where
 acts:=fun i=>match i with|0=>[.frIn 10000]|_=>[]
 draws:=fun
  | _=>⟨.nil,[],[]⟩
@[go_sem] theorem YW:dH.acts 0=[.frIn 10000]:=rfl
@[go_sem] theorem YX:dH.acts 1=[]:=rfl
@[go_sem] theorem YY:dH.acts 2=[]:=rfl
@[go_sem] theorem YZ:dH.acts 3=[]:=rfl
@[go_sem] theorem Za:dH.acts 4=[]:=rfl
@[go_sem] theorem Zb:dH.acts 5=[]:=rfl
@[go_sem] theorem Zc:dH.acts 7=[]:=rfl
@[go_sem] theorem Zd:dH.acts 8=[]:=rfl
@[go_sem] theorem Ze:dH.acts 9=[]:=rfl
@[go_sem] theorem Wt:dH.acts 10=[]:=rfl
@[go_sem] theorem Zf:dH.acts 6=[]:=rfl
@[go_sem] theorem Wu:dH.acts 11=[]:=rfl
@[go_sem] theorem Wv:dH.acts 12=[]:=rfl
theorem lZ {v0:List (List Int)}{g_s:GShow}{g_known:List (ByteArray × Bool)}{cap1:GState}{zb0:Bool}{res:(List (List Int)) × (List (ByteArray × Bool))}(h0:bq v0 g_s g_known cap1=some res):aj prog 280 [.ref 10000 0 0 v0.length,.fn 281 [.ptr 10001 0 0 0,.ptr 10004 0 0 0]] [(10000,0,.row zb0 (ab (eLO eI) v0)),(10001,0,.var [.ptr 10002 0 0 0]),(10002,0,.var [.sl (ab GNode.encS g_s.nodes),.sl (ab GTie.enc g_s.ties),.lit (.int .i64 g_s.horizon),.mp 10003 0]),(10003,0,.map (eM g_known)),(10004,0,.var [.lit (.int .i64 cap1.now),.sl (ab eI cap1.times),.sl (ab eI cap1.values)])] (.ref 10000 0 0 res.1.length) [(10000,0,.row false (ab (eLS eI) res.1)),(10001,0,.var [.ptr 10002 0 0 0]),(10002,0,.var [.sl (ab GNode.encS g_s.nodes),.sl (ab GTie.enc g_s.ties),.lit (.int .i64 g_s.horizon),.mp 10003 0]),(10003,0,.map (eM res.2)),(10004,0,.var [.lit (.int .i64 cap1.now),.sl (ab eI cap1.times),.sl (ab eI cap1.values)])]:=by
 refine aE (ra:=[.home 4,.trim 4]) (md:=mdT) hT (hi:=dH) func280 rfl rfl (by decide +kernel) (by simp) ?_
 unfold bq at h0
 obtain⟨r01,g0,h0⟩:=af h0
 simp(config:=cS)only[go_sem, *]
 refine ag (mc g0) ?_
 obtain⟨_,h0⟩|⟨_,h0⟩:=itP h0
 ·exact run
 obtain⟨q05,l0,h0⟩:=af h0
 simp(config:=cS)only[go_sem, *]
 refine ai (m1:=.mk) (m2:=.mk) [.nf [0,1,5,6] [10000,10001,10002,10003,10004]] (kg zb0 v0.length g_s.nodes g_s.ties g_s.horizon cap1.now cap1.times cap1.values) l0 ?_ ?_
 ·simp(config:=cS)only[go_sem, *]
 have k0:=h0
 clear h0 l0
 intro _ s0 _ h0 gb0
 obtain⟨v5_1,v6_1,v0_1,h10003_1⟩:=s0
 unfold bg at h0
 try dsimp only at h0
 exact run
@[go_sem] def hi209_1:DT:=.r2 0 5 (.i2 6 (.i2 5 (.i2 7 (.i2 8 .nil))))
def Kc:Hint where
 acts:=fun _=>[]
 draws:=fun
  | 1=>⟨hi209_1,[[],[0],[0,1],[0,1,2],[],.range 5,[],.range 7,.range 8],.range 9⟩
  | _=>⟨.nil,[],[]⟩
theorem Zg (i:Nat):Kc.acts i=[]:=rfl
attribute[go_sem] Zg ntmps209 results209
@[go_sem] theorem ada:(Kc.draws 1).order=hi209_1:=rfl
instance k209 {g_s:GShow} {g_known:List (ByteArray × Bool)} {v1:GState}:Ctr (kX g_s g_known v1) (fun (res:(List (List Int)) × (List (ByteArray × Bool)))=>aj prog 209 [.ptr 10000 0 0 0,.agg (GState.encS v1)] [(10000,0,.var [.sl (ab GNode.encS g_s.nodes),.sl (ab GTie.enc g_s.ties),.lit (.int .i64 g_s.horizon),.mp 10001 0]),(10001,0,.map (eM g_known))] (.ref 20000 1 0 res.1.length) [(10000,0,.var [.sl (ab GNode.encS g_s.nodes),.sl (ab GTie.enc g_s.ties),.lit (.int .i64 g_s.horizon),.mp 10001 0]),(10001,0,.map (eM res.2)),(20000,1,.row false (ab (eLS eI) res.1))]):=⟨by
 intro res h0
 refine aE (ra:=[.home 4,.trim 4]) (md:=mdT) hT (hi:=Kc) func209 rfl rfl (by decide +kernel) (by simp) ?_
 unfold kX at h0
 obtain⟨r01,g0,h0⟩:=af h0
 simp(config:=cS)only[go_sem, *]
 have g0:=ctr g0
 refine ag g0 ?_
 obtain⟨r02,g0,h0⟩:=af h0
 simp(config:=cS)only[go_sem, *]
 refine ag (lZ g0) ?_
 exact run⟩
instance k208 {list:List (List Int)} {lazy:Bool}:Ctr (ov list lazy) (fun (res:(List Int) × Bool)=>aj prog 208 [.sl (ab (eLS eI) list),.lit (.bool lazy)] [] (.tup [.sl (ab eI res.1),.lit (.bool res.2)]) []):=⟨by
 intro res h0
 refine aE (ra:=[.nilSl 4]) (md:=mdT) hT (hi:=hi00) func208 rfl rfl (by decide +kernel) (by simp) ?_
 unfold ov at h0
 obtain⟨_,h0⟩|⟨_,h0⟩:=itP h0
 ·exact run
 obtain⟨_,h0⟩|⟨_,h0⟩:=itB h0
 ·exact run
 obtain⟨x02,g1,h0⟩:=af h0
 have:=bD (k:=0) g1
 exact run⟩
instance k206 {g_s:GShow} {g_known:List (ByteArray × Bool)} {v1:GState} {d:GDesk}:Ctr (jq g_s g_known v1 d) (fun (res:(List Int) × Bool × (List (ByteArray × Bool)))=>aj prog 206 [.ptr 10000 0 0 0,.agg (GState.encS v1),.loc [.sl (ab GNode.encS d.show_.nodes),.sl (ab GTie.enc d.show_.ties),.lit (.int .i64 d.show_.horizon),.lit (.int .i64 d.state.now),.sl (ab eI d.state.times),.sl (ab eI d.state.values),.lit (.bool d.lazy),.sl (ab an.encS d.log)]] [(10000,0,.var [.sl (ab GNode.encS g_s.nodes),.sl (ab GTie.enc g_s.ties),.lit (.int .i64 g_s.horizon),.mp 10001 0]),(10001,0,.map (eM g_known))] (.tup [.sl (ab eI res.1),.lit (.bool res.2.1)]) [(10000,0,.var [.sl (ab GNode.encS g_s.nodes),.sl (ab GTie.enc g_s.ties),.lit (.int .i64 g_s.horizon),.mp 10001 0]),(10001,0,.map (eM res.2.2))]):=⟨by
 intro res h0
 refine aE (ra:=[.home 5]) (md:=mdT) hT (hi:=hi00) func206 rfl rfl (by decide +kernel) (by simp) ?_
 unfold jq at h0
 obtain⟨_,h0⟩|⟨_,h0⟩:=itB h0
 ·exact run
 obtain⟨r03,g0,h0⟩:=af h0
 simp(config:=cS)only[go_sem, *]
 refine ag (pi g0) ?_
 exact run⟩
@[go_sem] def gH (ties values nodes:List Int)(v90 out_2 out_3:Int)(out_6:Bool)(v15_0:Int)(v15_1 v15_2:List Int)(next_0:Int)(h1600:List GNode)(h1601:List GTie)(h1602 h1603:List Int)(h1604:List an)(h5504 h5505 v89:List Int):(Int × (List Int))→St
 | (v91,seen)=>⟨[(1,.sl (ab eI ties)),(2,.sl (ab eI values)),(10,.ptr 640 1 0 0),(13,.ptr 832 1 0 0),(15,.ptr 960 1 0 0),(17,.sl (ab eI nodes)),(19,.ptr 1216 1 0 0),(20,.ref 5506 1 0 v89.length),(21,.ref 1407 1 0 seen.length),(89,.ref 5506 1 0 v89.length),(90,.lit (.int .i64 v90)),(91,.lit (.int .i64 v91))],[(640,1,.var [.lit (.slice none 0 0),.lit (.slice none 0 0),.lit (.int .i64 0),.lit (.int .i64 0),.lit (.slice none 0 0),.lit (.slice none 0 0),.lit (.bool false),.lit (.slice none 0 0)]),(832,1,.var [.ref 1600 1 0 h1600.length,.ref 1601 1 0 h1601.length,.lit (.int .i64 out_2),.lit (.int .i64 out_3),.ref 1602 1 0 h1602.length,.ref 1603 1 0 h1603.length,.lit (.bool out_6),.ref 1604 1 0 h1604.length]),(1600,1,.row true (ab GNode.encO h1600)),(1601,1,.row true (ab GTie.enc h1601)),(1602,1,.row true (ab eI h1602)),(1603,1,.row true (ab eI h1603)),(1604,1,.row true (ab an.encO h1604)),(960,1,.var [.lit (.int .i64 v15_0),.sl (ab eI v15_1),.sl (ab eI v15_2)]),(1216,1,.var [.lit (.int .i64 next_0),.ref 5504 1 0 h5504.length,.ref 5505 1 0 h5505.length]),(5504,1,.row true (ab eI h5504)),(5505,1,.row true (ab eI h5505)),(5506,1,.row true (ab eI v89)),(1407,1,.row true (ab eI seen))],2⟩
@[go_sem] def hi205_s206_22:DT:=.i1 0 (.i2 1 (.i0 2 [0] (.r2 3 3 .nil)))
@[go_sem] def hi205_s206_21:DT:=.i1 0 (.i1 1 (.i1 2 (.i1 3 (.i2 4 (.i2 6 (.i2 8 (.i2 9 (.i0 5 [0,1,2,3] (.i0 7 [0,1,2,3] (.i0 10 [0,1,2,3] (.i2 11 (.i0 12 [0,1] (.r2 13 3 .nil)))))))))))))
@[go_sem] def hi205_s206_10:DT:=.i2 0 (.i2 1 (.i1 3 (.i0 2 [3] (.r2 4 6 .nil))))
@[go_sem] def hi205_s206_4:DT:=.i1 0 (.i1 1 (.i1 2 (.i1 3 (.fork (.i0 4 [0,1,2,3] (.i0 5 [0,1,2,3] (.i0 6 [2,3] (.i2 7 .nil)))) (.i0 5 [0,1,2,3] (.i0 4 [0,1,2,3] (.i0 6 [2,3] (.i2 7 .nil))))))))
def mY:Hint where
 acts:=fun _=>[]
 draws:=fun
  | 4=>⟨hi205_s206_4,[[],[0],[],[2],[],[],[0,1,4,5],.range 7],[0,1,5,6,2,3,4,7]⟩
  | 10=>⟨hi205_s206_10,[[],[],[1],[],[0,1,2,3],.range 5,.range 6,.range 6,.range 7,.range 9],[0,1,2,3,4,5,6,8,7,9]⟩
  | 21=>⟨hi205_s206_21,[[],[0],[],[2],[],[4],[],[4,5,6],[],[],[4,5,6,7,8,9],[2,3,4,5,6,7,8,9,10],[2,3,4,5,6,7,8,9,10,11],.range 13,.range 14,.range 15],.range 16⟩
  | 22=>⟨hi205_s206_22,[[],[],[1],[0,1,2],[0,1,2,3],.range 5],.range 6⟩
  | _=>⟨.nil,[],[]⟩
theorem MI (i:Nat):mY.acts i=[]:=rfl
attribute[go_sem] MI ntmps205 results205
@[go_sem] theorem Zi:(mY.draws 4).order=hi205_s206_4:=rfl
@[go_sem] theorem Ww:(mY.draws 10).order=hi205_s206_10:=rfl
@[go_sem] theorem Wx:(mY.draws 21).order=hi205_s206_21:=rfl
@[go_sem] theorem Wy:(mY.draws 22).order=hi205_s206_22:=rfl
instance k205 {d:GDesk} {ties:List Int} {values:List Int} {refused:Int} {d':GDesk}:Ctr (bX d ties values refused d') (fun (res:GDesk × (List Int) × Int)=>aj prog 205 [.agg (GDesk.encS d),.sl (ab eI ties),.sl (ab eI values),.lit (.int .i64 refused),.fn 206 [.loc [.sl (ab GNode.encS d'.show_.nodes),.sl (ab GTie.enc d'.show_.ties),.lit (.int .i64 d'.show_.horizon),.lit (.int .i64 d'.state.now),.sl (ab eI d'.state.times),.sl (ab eI d'.state.values),.lit (.bool d'.lazy),.sl (ab an.encS d'.log)]]] [] (.tup [.agg [.ref 20000 1 0 res.1.show_.nodes.length,.ref 20001 1 0 res.1.show_.ties.length,.lit (.int .i64 res.1.show_.horizon),.lit (.int .i64 res.1.state.now),.ref 20002 1 0 res.1.state.times.length,.ref 20003 1 0 res.1.state.values.length,.lit (.bool res.1.lazy),.ref 20004 1 0 res.1.log.length],.ref 20005 1 0 res.2.1.length,.lit (.int .i64 res.2.2)]) [(20000,1,.row true (ab GNode.encO res.1.show_.nodes)),(20001,1,.row true (ab GTie.enc res.1.show_.ties)),(20002,1,.row true (ab eI res.1.state.times)),(20003,1,.row true (ab eI res.1.state.values)),(20004,1,.row true (ab an.encO res.1.log)),(20005,1,.row true (ab eI res.2.1))]):=⟨by
 intro res h0
 refine aE (ra:=[.homeCell 640 0,.homeCell 640 1,.homeCell 640 4,.homeCell 640 5,.homeCell 640 7,.home 11]) (md:=mdT) hT (hi:=mY) func205 rfl rfl (by decide +kernel) (by simp) ?_
 unfold bX at h0
 obtain⟨r01,g0,h0⟩:=af h0
 simp(config:=cS)only[go_sem, *]
 have g0:=ctr g0
 refine ag g0 ?_
 obtain⟨r02,g0,h0⟩:=af h0
 simp(config:=cS)only[go_sem, *]
 have g0:=ctr g0
 refine ag g0 ?_
 obtain⟨_,h0⟩|⟨_,h0⟩:=itB h0
 ·obtain⟨_,h0⟩|⟨_,h0⟩:=itP h0
  ·obtain⟨r03,g0,h0⟩:=af h0
   simp(config:=cS)only[go_sem, *]
   refine ag (cn (by exact fun _ _ hr=>by have q:=ctr hr;exact q) (by refine⟨fun _=>?_,fun _=>?_⟩ <;> simp only[go_sem]) (fun _=>rfl) rfl g0) ?_
   obtain⟨_,h0⟩|⟨_,h0⟩:=itB h0
   ·exact run
   try simp(config:=cS)only[go_sem, *]
   refine dl ?_ ?_
   ·obtain⟨r04,g0,h0⟩:=af h0
    simp(config:=cS)only[go_sem, *]
    have g0:=ctr g0
    refine ag g0 ?_
    obtain⟨_,h0⟩|⟨_,h0⟩:=itB h0
    ·exact run
    obtain⟨r05,g0,h0⟩:=af h0
    simp(config:=cS)only[go_sem, *]
    have g0:=ctr g0
    refine ag g0 ?_
    obtain⟨_,h0⟩|⟨_,h0⟩:=itB h0
    ·exact run
    obtain⟨_,h0⟩|⟨_,h0⟩:=itP h0
    ·exact run
    obtain⟨r06,g0,h0⟩:=af h0
    simp(config:=cS)only[go_sem, *]
    have g0:=ctr g0
    refine ag g0 ?_
    obtain⟨r07,g0,h0⟩:=af h0
    simp(config:=cS)only[go_sem, *]
    have g0:=ctr g0
    refine ag g0 ?_
    obtain⟨_,h0⟩|⟨_,h0⟩:=itB h0
    ·obtain⟨r08,g0,h0⟩:=af h0
     simp(config:=cS)only[go_sem, *]
     have g0:=ctr g0
     refine ag g0 ?_
     obtain⟨r09,g0,h0⟩:=af h0
     simp(config:=cS)only[go_sem, *]
     have g0:=ctr g0
     refine ag g0 ?_
     obtain⟨r10,g0,h0⟩:=af h0
     simp(config:=cS)only[go_sem, *]
     have g0:=ctr g0
     refine ag g0 ?_
     obtain⟨_,h0⟩|⟨_,h0⟩:=itB h0
     ·obtain⟨r11,g0,h0⟩:=af h0
      simp(config:=cS)only[go_sem, *]
      have g0:=ctr g0
      refine ag g0 ?_
      obtain⟨q19,l0,h0⟩:=af h0
      simp(config:=cS)only[go_sem, *]
      refine ai (m1:=.mk) (m2:=.mk) [.home 21,.nf [1,2,10,13,15,17,19,20,21,89,90,91] [640,832,1600,1601,1602,1603,1604,960,1216,5504,5505,5506,1407]] (gH ties values r10.1 (r11.2.length:Int) r01.show_.horizon r01.state.now r01.lazy d.state.now d.state.times d.state.values r11.1.now r01.show_.nodes r01.show_.ties r01.state.times r01.state.values r01.log r11.1.times r11.1.values r11.2) l0 ?_ ?_
      ·simp(config:=cS)only[go_sem, *]
      have k0:=h0
      clear h0 l0
      intro _ s0 _ h0 gb0
      obtain⟨v91_1,seen_1⟩:=s0
      unfold bo at h0
      try dsimp only at h0
      exact run
     exact run
    exact run
   obtain⟨r20,g0,h0⟩:=af h0
   simp(config:=cS)only[go_sem, *]
   have g0:=ctr g0
   refine ag g0 ?_
   obtain⟨_,h0⟩|⟨_,h0⟩:=itB h0
   ·exact run
   obtain⟨r21,g0,h0⟩:=af h0
   simp(config:=cS)only[go_sem, *]
   have g0:=ctr g0
   refine ag g0 ?_
   obtain⟨_,h0⟩|⟨_,h0⟩:=itB h0
   ·exact run
   obtain⟨_,h0⟩|⟨_,h0⟩:=itP h0
   ·exact run
   obtain⟨r22,g0,h0⟩:=af h0
   simp(config:=cS)only[go_sem, *]
   have g0:=ctr g0
   refine ag g0 ?_
   obtain⟨r23,g0,h0⟩:=af h0
   simp(config:=cS)only[go_sem, *]
   have g0:=ctr g0
   refine ag g0 ?_
   obtain⟨_,h0⟩|⟨_,h0⟩:=itB h0
   ·obtain⟨r24,g0,h0⟩:=af h0
    simp(config:=cS)only[go_sem, *]
    have g0:=ctr g0
    refine ag g0 ?_
    obtain⟨r25,g0,h0⟩:=af h0
    simp(config:=cS)only[go_sem, *]
    have g0:=ctr g0
    refine ag g0 ?_
    obtain⟨r26,g0,h0⟩:=af h0
    simp(config:=cS)only[go_sem, *]
    have g0:=ctr g0
    refine ag g0 ?_
    obtain⟨_,h0⟩|⟨_,h0⟩:=itB h0
    ·obtain⟨r27,g0,h0⟩:=af h0
     simp(config:=cS)only[go_sem, *]
     have g0:=ctr g0
     refine ag g0 ?_
     obtain⟨q35,l0,h0⟩:=af h0
     simp(config:=cS)only[go_sem, *]
     refine ai (m1:=.mk) (m2:=.mk) [.home 21,.nf [1,2,10,13,15,17,19,20,21,89,90,91] [640,832,1600,1601,1602,1603,1604,960,1216,5504,5505,5506,1407]] (gH ties values r26.1 (r27.2.length:Int) r01.show_.horizon r01.state.now r01.lazy d.state.now d.state.times d.state.values r27.1.now r01.show_.nodes r01.show_.ties r01.state.times r01.state.values r01.log r27.1.times r27.1.values r27.2) l0 ?_ ?_
     ·simp(config:=cS)only[go_sem, *]
     have k0:=h0
     clear h0 l0
     intro _ s0 _ h0 gb0
     obtain⟨v91_2,seen_2⟩:=s0
     unfold bo at h0
     try dsimp only at h0
     exact run
    exact run
   exact run
  exact run
 exact run⟩
instance k104 {d:GDesk} {ties:List Int} {values:List Int}:Ctr (lK d ties values) (fun (res:GDesk × (List Int) × Int)=>aj prog 104 [.agg (GDesk.encS d),.sl (ab eI ties),.sl (ab eI values)] [] (.tup [.agg [.ref 20000 1 0 res.1.show_.nodes.length,.ref 20001 1 0 res.1.show_.ties.length,.lit (.int .i64 res.1.show_.horizon),.lit (.int .i64 res.1.state.now),.ref 20002 1 0 res.1.state.times.length,.ref 20003 1 0 res.1.state.values.length,.lit (.bool res.1.lazy),.ref 20004 1 0 res.1.log.length],.ref 20005 1 0 res.2.1.length,.lit (.int .i64 res.2.2)]) [(20000,1,.row true (ab GNode.encO res.1.show_.nodes)),(20001,1,.row true (ab GTie.enc res.1.show_.ties)),(20002,1,.row true (ab eI res.1.state.times)),(20003,1,.row true (ab eI res.1.state.values)),(20004,1,.row true (ab an.encO res.1.log)),(20005,1,.row true (ab eI res.2.1))]):=⟨by
 intro res h0
 refine aE (ra:=[.homeCell 384 0,.homeCell 384 1,.homeCell 384 4,.homeCell 384 5,.homeCell 384 7,.home 7]) (md:=mdT) hT (hi:=hi00) func104 rfl rfl (by decide +kernel) (by simp) ?_
 unfold lK at h0
 exact run⟩
end Go.Proofs.Qm
