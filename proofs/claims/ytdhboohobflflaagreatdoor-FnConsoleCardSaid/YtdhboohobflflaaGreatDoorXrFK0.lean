/- Functions. -/
import Derived.Test.YtdhboohobflflaaGreatDoorXrX
import Derived.Test.YtdhboohobflflaaGreatDoorXr37
set_option linter.all false
set_option maxRecDepth 100000
set_option maxHeartbeats 4000000
namespace Go.Proofs.Qr
open Go Tryz
theorem co {hi:Hint}{f:FuncId}{fn:Func}{c:Code}{args:List AV}{h0 h':Hp}{r:AV}(hf:Tryz.prog.funcs[f]?=some fn)(hn:(fn.name == "runtime.NumGoroutine")=false) (hb:fn.body=some c) (h:bp prog mdT T fn.ntmps hi c ⟨lc 0 args,h0,1⟩ (retK T [] fn.results.toList (h0.map (·.1)) (fun r1 h1=>r1=r∧h1=h'))) (hc:fg hi c=true:=by decide +kernel) (hlen:args.length≤fn.ntmps:=by simp):ai prog f args h0 r h':=ao (ra:=[]) (md:=mdT) hT hf hn hb hc hlen h
attribute[go_sem] ntmps49 results49 ntmps30 results30 ntmps203 results203 ntmps202 results202 ntmps242 results242 ntmps179 results179 ntmps92 results92 ntmps243 results243 ntmps204 results204 ntmps219 results219 ntmps244 results244 ntmps146 results146 ntmps86 results86 ntmps108 results108 ntmps278 results278 ntmps241 results241 ntmps171 results171 ntmps113 results113 ntmps279 results279 ntmps245 results245 ntmps181 results181 ntmps115 results115 ntmps295 results295 ntmps280 results280 ntmps246 results246 ntmps183 results183 ntmps217 results217 ntmps151 results151 ntmps223 results223 ntmps167 results167 ntmps263 results263 ntmps224 results224 ntmps139 results139 ntmps150 results150 ntmps261 results261 ntmps212 results212 ntmps95 results95 ntmps170 results170 ntmps163 results163 ntmps164 results164 ntmps105 results105 ntmps205 results205 ntmps148 results148 ntmps226 results226 ntmps225 results225 ntmps286 results286 ntmps262 results262 ntmps227 results227 ntmps166 results166 ntmps106 results106 ntmps159 results159 ntmps184 results184 ntmps218 results218 ntmps152 results152 ntmps153 results153 ntmps220 results220 ntmps155 results155 ntmps154 results154 ntmps158 results158 ntmps228 results228 ntmps168 results168 ntmps101 results101 ntmps162 results162 ntmps170 results170 ntmps111 results111 ntmps102 results102 ntmps100 results100 ntmps161 results161 ntmps56 results56 ntmps7 results7 ntmps13 results13 ntmps97 results97 ntmps251 results251
instance k49 {v0:List GTie}:Ctr (iw v0) (fun (res:List GTie)=>ai prog 49 [.sl (ab GTie.enc v0)] [] (.ref 20000 1 0 res.length) [(20000,1,.row true (ab GTie.enc res))]):=⟨by
 intro res h0
 refine ao (ra:=[.home 2]) (md:=mdT) hT (hi:=hi00) func49 rfl rfl (by decide +kernel) (by simp) ?_
 unfold iw at h0
 obtain⟨_,h0,_⟩|⟨a0,h0⟩:=pQ h0
 ·exact run
 have:=fun (e:_→List AV)=>oB (e:=e) a0
 exact run⟩
instance k30 {v0:List Int}:Ctr (aM v0) (fun (res:List Int)=>ai prog 30 [.sl (ab eI v0)] [] (.ref 20000 1 0 res.length) [(20000,1,.row true (ab eI res))]):=⟨by
 intro res h0
 refine ao (ra:=[.home 2]) (md:=mdT) hT (hi:=hi00) func30 rfl rfl (by decide +kernel) (by simp) ?_
 unfold aM at h0
 obtain⟨_,h0,_⟩|⟨a0,h0⟩:=pQ h0
 ·exact run
 have:=fun (e:_→List AV)=>oB (e:=e) a0
 exact run⟩
@[go_sem] def kD (v13:List ag)(v14 out_2:Int)(h512:List GTie):(Int × (List ag))→St
 | (v15,h100012288)=>⟨[(2,.ptr 128 1 0 0),(3,.ptr 192 1 0 0),(13,.sl (ab ag.encS v13)),(14,.lit (.int .i64 v14)),(15,.lit (.int .i64 v15))],[(128,1,.var [.lit (.slice none 0 0),.lit (.slice none 0 0),.lit (.int .i64 0)]),(192,1,.var [.ref 100012288 1 0 h100012288.length,.ref 512 1 0 h512.length,.lit (.int .i64 out_2)]),(100012288,1,.row true (ab ag.encO h100012288)),(512,1,.row true (ab GTie.enc h512))],2⟩
@[go_sem] def hi31_1:DT:=.i1 0 (.i1 1 (.i1 3 (.i1 4 (.fork (.i0 2 [3,4] (.i2 5 (.i0 6 [0,1,3,4] (.i2 7 .nil)))) (.i0 6 [0,1,3,4] (.i0 2 [3,4] (.i2 5 (.i2 7 .nil))))))))
def hi31:Hint where
 acts:=fun _=>[]
 draws:=fun
  | 1=>⟨hi31_1,[[],[0],[0,1],[],[3],.range 5,[],.range 7],.range 8⟩
  | _=>⟨.nil,[],[]⟩
theorem Ma (i:Nat):hi31.acts i=[]:=rfl
attribute[go_sem] Ma ntmps31 results31
@[go_sem] theorem XE:(hi31.draws 1).order=hi31_1:=rfl
instance k31 {s:GShow}:Ctr (cP s) (fun (res:GShow)=>ai prog 31 [.agg (GShow.encS s)] [] (.agg [.ref 20000 1 0 res.nodes.length,.ref 20001 1 0 res.ties.length,.lit (.int .i64 res.horizon)]) [(20000,1,.row true (ab ag.encO res.nodes)),(20001,1,.row true (ab GTie.enc res.ties))]):=⟨by
 intro res h0
 refine ao (ra:=[.homeCell 128 0,.homeCell 128 1]) (md:=mdT) hT (hi:=hi31) func31 rfl rfl (by decide +kernel) (by simp) ?_
 unfold cP at h0
 try simp(config:=cS)only[go_sem, *]
 refine bC ?_ ?_
 ·obtain⟨r01,g0,h0⟩:=ae h0
  simp(config:=cS)only[go_sem, *]
  have g0:=ctr g0
  refine af g0 ?_
  obtain⟨q04,l0,h0⟩:=ae h0
  simp(config:=cS)only[go_sem, *]
  refine aj (m1:=.mk) (m2:=.mk) [.homeCell 192 0,.nf [2,3,13,14,15] [128,192,100012288,512]] (kD s.nodes (s.nodes.length:Int) s.horizon r01) l0 ?_ ?_
  ·simp(config:=cS)only[go_sem, *]
  have k0:=h0
  clear h0 l0
  intro _ s0 _ h0 gb0
  obtain⟨v15_1,h100012288_1⟩:=s0
  unfold ix at h0
  try dsimp only at h0
  exact run
 obtain⟨r05,g0,h0⟩:=ae h0
 simp(config:=cS)only[go_sem, *]
 have g0:=ctr g0
 refine af g0 ?_
 obtain⟨q08,l0,h0⟩:=ae h0
 simp(config:=cS)only[go_sem, *]
 refine aj (m1:=.mk) (m2:=.mk) [.homeCell 192 0,.nf [2,3,13,14,15] [128,192,100012288,512]] (kD s.nodes (s.nodes.length:Int) s.horizon r05) l0 ?_ ?_
 ·simp(config:=cS)only[go_sem, *]
 have k0:=h0
 clear h0 l0
 intro _ s0 _ h0 gb0
 obtain⟨v15_2,h100012288_2⟩:=s0
 unfold ix at h0
 try dsimp only at h0
 exact run⟩
@[go_sem] def hi32_1:DT:=.i1 0 (.i1 1 (.i2 2 (.i2 3 (.i1 5 (.i1 6 (.i0 4 [0,1,5,6] (.i0 7 [0,1] (.i2 8 (.i2 9 .nil)))))))))
def hi32:Hint where
 acts:=fun _=>[]
 draws:=fun
  | 1=>⟨hi32_1,[[],[0],[],[2],[2,3],[],[5],[2,3,4,5,6],.range 8,.range 9],.range 10⟩
  | _=>⟨.nil,[],[]⟩
theorem Mb (i:Nat):hi32.acts i=[]:=rfl
attribute[go_sem] Mb ntmps32 results32
@[go_sem] theorem XF:(hi32.draws 1).order=hi32_1:=rfl
instance k32 {v0:GState}:Ctr (dx v0) (fun (res:GState)=>ai prog 32 [.agg (GState.encS v0)] [] (.agg [.lit (.int .i64 res.now),.ref 20000 1 0 res.times.length,.ref 20001 1 0 res.values.length]) [(20000,1,.row true (ab eI res.times)),(20001,1,.row true (ab eI res.values))]):=⟨by
 intro res h0
 refine ao (ra:=[.homeCell 128 1,.homeCell 128 2]) (md:=mdT) hT (hi:=hi32) func32 rfl rfl (by decide +kernel) (by simp) ?_
 unfold dx at h0
 exact run⟩
@[go_sem] def rh (v6:List GEntry)(v7:Int):(Int × (List GEntry))→St
 | (v8,out)=>⟨[(3,.ref 255 1 0 out.length),(6,.sl (ab GEntry.encS v6)),(7,.lit (.int .i64 v7)),(8,.lit (.int .i64 v8))],[(255,1,.row true (ab GEntry.encO out))],2⟩
@[go_sem] def hi33_5:DT:=.i2 0 (.i1 1 (.i1 2 (.i2 3 (.i2 4 (.i1 6 (.i1 7 (.i1 9 (.i1 10 (.i0 5 [1,2,6,7,9,10] (.i0 8 [1,2,9,10] (.i0 11 [1,2] (.r2 12 4 .nil))))))))))))
def hi33:Hint where
 acts:=fun _=>[]
 draws:=fun
  | 5=>⟨hi33_5,[[],[],[1],[],[3],[3,4],[],[6],[3,4,5,6,7],[],[9],[3,4,5,6,7,8,9,10],[1,2,3,4,5,6,7,8,9,10,11],[1,2,3,4,5,6,7,8,9,10,11,12],.range 14,.range 15],.range 16⟩
  | _=>⟨.nil,[],[]⟩
theorem Me (i:Nat):hi33.acts i=[]:=rfl
attribute[go_sem] Me ntmps33 results33
@[go_sem] theorem XG:(hi33.draws 5).order=hi33_5:=rfl
instance k33 {log:List GEntry}:Ctr (mc log) (fun (res:List GEntry)=>ai prog 33 [.sl (ab GEntry.encS log)] [] (.ref 20000 1 0 res.length) [(20000,1,.row true (ab GEntry.encO res))]):=⟨by
 intro res h0
 refine ao (ra:=[.home 2]) (md:=mdT) hT (hi:=hi33) func33 rfl rfl (by decide +kernel) (by simp) ?_
 unfold mc at h0
 obtain⟨q05,l0,h0⟩:=ae h0
 simp(config:=cS)only[go_sem, *]
 refine aj (m1:=.mk) (m2:=.mk) [.home 3,.nf [3,6,7,8] [255]] (rh log (log.length:Int)) l0 ?_ ?_
 ·simp(config:=cS)only[go_sem, *]
 have k0:=h0
 clear h0 l0
 intro _ s0 _ h0 gb0
 obtain⟨v8_1,out_1⟩:=s0
 unfold nP at h0
 try dsimp only at h0
 exact run⟩
@[go_sem] def hi21_1:DT:=.i2 0 (.i2 1 (.i1 3 (.i1 4 (.i1 6 (.i1 7 (.i1 8 (.i1 9 (.i0 2 [3,4,6,7,8,9] (.i0 5 [6,7,8,9] (.i0 10 [6,7] (.i2 11 (.i2 12 .nil))))))))))))
def hi21:Hint where
 acts:=fun _=>[]
 draws:=fun
  | 1=>⟨hi21_1,[[],[0],[0,1],[],[3],.range 5,[],[6],[],[8],[0,1,2,3,4,5,8,9],.range 11,.range 12],.range 13⟩
  | _=>⟨.nil,[],[]⟩
theorem Mf (i:Nat):hi21.acts i=[]:=rfl
attribute[go_sem] Mf ntmps21 results21
@[go_sem] theorem XH:(hi21.draws 1).order=hi21_1:=rfl
instance k21 {d:GDesk}:Ctr (bq d) (fun (res:GDesk)=>ai prog 21 [.agg (GDesk.encS d)] [] (.agg [.ref 20000 1 0 res.show_.nodes.length,.ref 20001 1 0 res.show_.ties.length,.lit (.int .i64 res.show_.horizon),.lit (.int .i64 res.state.now),.ref 20002 1 0 res.state.times.length,.ref 20003 1 0 res.state.values.length,.lit (.bool res.lazy),.ref 20004 1 0 res.log.length]) [(20000,1,.row true (ab ag.encO res.show_.nodes)),(20001,1,.row true (ab GTie.enc res.show_.ties)),(20002,1,.row true (ab eI res.state.times)),(20003,1,.row true (ab eI res.state.values)),(20004,1,.row true (ab GEntry.encO res.log))]):=⟨by
 intro res h0
 refine ao (ra:=[.homeCell 128 0,.homeCell 128 1,.homeCell 128 4,.homeCell 128 5,.homeCell 128 7]) (md:=mdT) hT (hi:=hi21) func21 rfl rfl (by decide +kernel) (by simp) ?_
 unfold bq at h0
 exact run⟩
@[go_sem] def rU (s:ByteArray)(i:Int):St:=⟨[(0,.lit (.string s)),(3,.lit (.int .i64 i))],[],2⟩
@[go_sem] def hi143_4:DT:=.r2 0 22 .nil
def DN:Hint where
 acts:=fun _=>[]
 draws:=fun
  | 4=>⟨hi143_4,[[],[],[0,1],[0,1,2],[0,1,2,3],.range 5,.range 5,.range 7,.range 8,.range 9,[],[],[10,11],[10,11,12],[0,1,2,3,4,10,11,12,13],[0,1,2,3,4,10,11,12,13,14],[0,1,2,3,4,10,11,12,13,14],[0,1,2,3,4,10,11,12,13,14,15,16],[0,1,2,3,4,10,11,12,13,14,15,16,17],[0,1,2,3,4,10,11,12,13,14,15,16,17,18],.range 15,.range 21],[0,1,2,3,4,5,6,7,8,9,10,11,12,13,14,16,17,18,19,20,15,21]⟩
  | _=>⟨.nil,[],[]⟩
theorem Kl (i:Nat):DN.acts i=[]:=rfl
attribute[go_sem] Kl ntmps143 results143
@[go_sem] theorem WA:(DN.draws 4).order=hi143_4:=rfl
instance k143 {s:ByteArray}:Ctr (ke s) (fun (res:Bool)=>ai prog 143 [.lit (.string s)] [] (.lit (.bool res)) []):=⟨by
 intro res h0
 refine co (hi:=DN) func143 rfl rfl ?_
 unfold ke at h0
 obtain⟨q02,l0,h0⟩:=ae h0
 simp(config:=cS)only[go_sem, *]
 refine aj (m1:=.mk) (m2:=.mk) [.nf [0,3] []] (rU s) l0 ?_ ?_
 ·simp(config:=cS)only[go_sem, *]
 have k0:=h0
 clear h0 l0
 intro _ i_1 _ h0 gb0
 unfold ph at h0
 try dsimp only at h0
 exact run⟩
instance k203 {l:Int}:Ctr (cB l) (fun (res:Int)=>ai prog 203 [.lit (.int .i64 l)] [] (.lit (.int .i64 res)) []):=⟨by
 intro res h0
 refine co (hi:=hi00) func203 rfl rfl ?_
 unfold cB at h0
 exact run⟩
@[go_sem] def ri (l:List Int)(v6 v7:Int):St:=⟨[(0,.sl (ab eI l)),(5,.sl (ab eI l)),(6,.lit (.int .i64 v6)),(7,.lit (.int .i64 v7))],[],2⟩
instance k202 {l:List Int}:Ctr (cE l) (fun (res:Bool)=>ai prog 202 [.sl (ab eI l)] [] (.lit (.bool res)) []):=⟨by
 intro res h0
 refine co (hi:=hi00) func202 rfl rfl ?_
 unfold cE at h0
 obtain⟨q05,l0,h0⟩:=ae h0
 simp(config:=cS)only[go_sem, *]
 refine aj (m1:=.mk) (m2:=.mk) [.nf [0,5,6,7] []] (ri l (l.length:Int)) l0 ?_ ?_
 ·simp(config:=cS)only[go_sem, *]
 have k0:=h0
 clear h0 l0
 intro _ v7_1 _ h0 gb0
 unfold nR at h0
 try dsimp only at h0
 exact run⟩
instance k242 {n:ag}:Ctr (nz n) (fun (res:Bool)=>ai prog 242 [.agg (ag.encS n)] [] (.lit (.bool res)) []):=⟨by
 intro res h0
 refine co (hi:=hi00) func242 rfl rfl ?_
 unfold nz at h0
 exact run⟩
@[go_sem] def qC (v35:List ag)(v36 v37:Int)(v48:List ag)(v49:Int)(s_1:List GTie)(s_2:Int)(n_0:ByteArray)(n_1:List Int)(n_2 v50:Int):St:=⟨[(1,.ptr 64 1 0 0),(4,.ptr 256 1 0 0),(35,.sl (ab ag.encS v35)),(36,.lit (.int .i64 v36)),(37,.lit (.int .i64 v37)),(48,.sl (ab ag.encS v48)),(49,.lit (.int .i64 v49)),(50,.lit (.int .i64 v50))],[(64,1,.var [.sl (ab ag.encS v35),.sl (ab GTie.enc s_1),.lit (.int .i64 s_2)]),(256,1,.var [.lit (.string n_0),.sl (ab eI n_1),.lit (.int .i64 n_2)])],2⟩
@[go_sem] def qD (v35:List ag)(v36:Int)(s_1:List GTie)(s_2 v37:Int):St:=⟨[(1,.ptr 64 1 0 0),(35,.sl (ab ag.encS v35)),(36,.lit (.int .i64 v36)),(37,.lit (.int .i64 v37))],[(64,1,.var [.sl (ab ag.encS v35),.sl (ab GTie.enc s_1),.lit (.int .i64 s_2)])],2⟩
instance k179 {s:GShow}:Ctr (lk s) (fun (res:Bool)=>ai prog 179 [.agg (GShow.encS s)] [] (.lit (.bool res)) []):=⟨by
 intro res h0
 refine co (hi:=hi00) func179 rfl rfl ?_
 unfold lk at h0
 obtain⟨_,h0⟩|⟨_,h0⟩:=itP h0
 ·exact run
 obtain⟨_,h0⟩|⟨_,h0⟩:=itP h0
 ·exact run
 obtain⟨x01,g1,h0⟩:=ae h0
 have:=aR (k:=0) g1
 obtain⟨_,h0⟩|⟨_,h0⟩:=itP h0
 ·exact run
 obtain⟨_,h0⟩|⟨_,h0⟩:=itP h0
 ·obtain⟨q06,l0,h0⟩:=ae h0
  simp(config:=cS)only[go_sem, *]
  refine aj (m1:=.mk) (m2:=.mk) [.nf [1,35,36,37] [64]] (qD s.nodes (s.nodes.length:Int) s.ties s.horizon) l0 ?_ ?_
  ·simp(config:=cS)only[go_sem, *]
  have k0:=h0
  clear h0 l0
  intro _ v37_1 _ h0 gb0
  unfold mO at h0
  try dsimp only at h0
  obtain⟨_,h0⟩|⟨_,h0⟩:=itP h0
  ·obtain⟨x02,_,_,_,h0⟩:=gtI h0
   obtain⟨r03,g0,h0⟩:=ae h0
   simp(config:=cS)only[go_sem, *]
   have g0:=ctr g0
   refine af g0 ?_
   obtain⟨_,h0⟩|⟨_,h0⟩:=itB h0
   ·obtain⟨_,h0⟩:=ckP h0
    obtain⟨_,h0⟩:=ckP h0
    obtain⟨q05,l0,h0⟩:=ae h0
    simp(config:=cS)only[go_sem, *]
    refine aj (m1:=.mk) (m2:=.mk) [.nf [1,4,35,36,37,48,49,50] [64,256]] (qC s.nodes (s.nodes.length:Int) v37_1 (s.nodes.take v37_1.toNat) (((s.nodes.take v37_1.toNat).length:Nat):Int) s.ties s.horizon x02.name x02.label x02.watch) l0 ?_ ?_
    ·simp(config:=cS)only[go_sem, *]
    have k0:=h0
    clear h0 l0
    intro _ v50_2 _ h0 gb0
    unfold mN at h0
    try dsimp only at h0
    exact run
   exact run
  exact run
 exact run⟩
instance k92 {n:Int} {node:Int}:Ctr (bo n node) (fun (res:Bool)=>ai prog 92 [.lit (.int .i64 n),.lit (.int .i64 node)] [] (.lit (.bool res)) []):=⟨by
 intro res h0
 refine co (hi:=hi00) func92 rfl rfl ?_
 unfold bo at h0
 exact run⟩
instance k243 {n:Int}:Ctr (kf n) (fun (res:Bool)=>ai prog 243 [.lit (.int .i64 n)] [] (.lit (.bool res)) []):=⟨by
 intro res h0
 refine co (hi:=hi00) func243 rfl rfl ?_
 unfold kf at h0
 exact run⟩
@[go_sem] def pf (v0 v1:List Int)(v12 v13:Int):St:=⟨[(0,.sl (ab eI v0)),(1,.sl (ab eI v1)),(12,.lit (.int .i64 v12)),(13,.lit (.int .i64 v13))],[],2⟩
@[go_sem] def hi165_6:DT:=.r2 0 9 .nil
def DO:Hint where
 acts:=fun _=>[]
 draws:=fun
  | 6=>⟨hi165_6,[[],[],[0,1],[0,1,2],[],[],[4,5],[4,5,6],.range 8],.range 9⟩
  | _=>⟨.nil,[],[]⟩
theorem Km (i:Nat):DO.acts i=[]:=rfl
attribute[go_sem] Km ntmps165 results165
@[go_sem] theorem WB:(DO.draws 6).order=hi165_6:=rfl
instance k165 {v0:List Int} {v1:List Int}:Ctr (cd v0 v1) (fun (res:Bool)=>ai prog 165 [.sl (ab eI v0),.sl (ab eI v1)] [] (.lit (.bool res)) []):=⟨by
 intro res h0
 refine co (hi:=DO) func165 rfl rfl ?_
 unfold cd at h0
 obtain⟨_,h0⟩|⟨_,h0⟩:=itP h0
 ·obtain⟨q03,l0,h0⟩:=ae h0
  simp(config:=cS)only[go_sem, *]
  refine aj (m1:=.mk) (m2:=.mk) [.nf [0,1,12,13] []] (pf v0 v1 (v0.length:Int)) l0 ?_ ?_
  ·simp(config:=cS)only[go_sem, *]
  have k0:=h0
  clear h0 l0
  intro _ v13_1 _ h0 gb0
  unfold kH at h0
  try dsimp only at h0
  exact run
 exact run⟩
@[go_sem] def ma (v0:List GTie)(f_v1:Nat)(k_v1:List AV)(v7 v8:Int):St:=⟨[(0,.sl (ab GTie.enc v0)),(1,.fn f_v1 k_v1),(7,.lit (.int .i64 v7)),(8,.lit (.int .i64 v8))],[],2⟩
theorem jQ {v0:List GTie}{v1:GTie→Option Bool}{f_v1:Nat}{k_v1:List AV}(hp_v1:∀ y0 r,v1 y0=some r→ai prog f_v1 ([.agg (GTie.enc y0)]++k_v1) [] (.lit (.bool r)) [])(hc_v1:KC k_v1)(hm_v1:∀ a,mdT f_v1 a=⟨[],false⟩)(hk_v1:spf f_v1=false){res:Int}(h:dK v0 v1=some res):ai prog 204 [.sl (ab GTie.enc v0),.fn f_v1 k_v1] [] (.lit (.int .i64 res)) []:=by
 refine co (hi:=hi00) func204 rfl rfl ?_
 unfold dK at h
 obtain⟨q03,l1,h⟩:=ae h
 simp(config:=cS)only[go_sem,hc_v1.1,hc_v1.2,hm_v1,hk_v1]
 refine aj (m1:=.mk) (m2:=.mk) [.nf [0,1,7,8] []] (ma v0 f_v1 k_v1 (v0.length:Int)) l1 ?_ ?_
 ·simp(config:=cS)only[go_sem,hc_v1.1,hc_v1.2,hm_v1,hk_v1]
 intro nb2 v8_1 bb2 b2 gb2
 unfold ie at b2
 try dsimp only at b2
 obtain⟨h3,b2⟩|⟨h3,b2⟩:=aN b2
 ·obtain⟨x01,g4,b2⟩:=ae b2
  obtain⟨h5,h6,h7⟩:=bz g4
  obtain⟨r02,g8,b2⟩:=ae b2
  simp(config:=cS)only[go_sem,hc_v1.1,hc_v1.2,hm_v1,hk_v1,eqT h3,h5,h6,h7]
  refine af (hp_v1 _ _ g8) ?_
  obtain⟨h9,b2⟩|⟨h9,b2⟩:=aN b2
  ·cases b2
   obtain rfl:=(aG gb2).symm
   try dsimp only at h
   cases h
   simp(config:=cS)only[go_sem,hc_v1.1,hc_v1.2,hm_v1,hk_v1,eqT h3,h5,h6,h7,eZt h9]
  cases b2
  simp(config:=cS)only[go_sem,hc_v1.1,hc_v1.2,hm_v1,hk_v1,eqT h3,h5,h6,h7,eZf h9]
  refine cy gb2 ?_
  simp(config:=cS)only[go_sem,hc_v1.1,hc_v1.2,hm_v1,hk_v1,eqT h3,h5,h6,h7,eZf h9]
 cases b2
 obtain rfl:=(aG gb2).symm
 try dsimp only at h
 cases h
 simp(config:=cS)only[go_sem,hc_v1.1,hc_v1.2,hm_v1,hk_v1,eqF h3]
theorem hZ {v0:List GTie}{v1:GTie→Option Bool}{f_v1:Nat}{k_v1:List AV}(hp_v1:∀ y0 r,v1 y0=some r→ai prog f_v1 ([.agg (GTie.enc y0)]++k_v1) [] (.lit (.bool r)) [])(hc_v1:KC k_v1)(hm_v1:∀ a,mdT f_v1 a=⟨[],false⟩)(hk_v1:spf f_v1=false){res:Bool}(h:cG v0 v1=some res):ai prog 219 [.sl (ab GTie.enc v0),.fn f_v1 k_v1] [] (.lit (.bool res)) []:=by
 refine co (hi:=hi00) func219 rfl rfl ?_
 unfold cG at h
 obtain⟨r01,g1,h⟩:=ae h
 simp(config:=cS)only[go_sem,hc_v1.1,hc_v1.2,hm_v1,hk_v1]
 refine af (jQ hp_v1 hc_v1 hm_v1 hk_v1 g1) ?_
 cases h
 simp(config:=cS)only[go_sem,hc_v1.1,hc_v1.2,hm_v1,hk_v1]
instance k244 {u:GTie} {t:GTie}:Ctr (jy u t) (fun (res:Bool)=>ai prog 244 [.agg (GTie.enc u),.loc [.lit (.int .i64 t.from_),.lit (.int .i64 t.to),.lit (.int .i64 t.low),.lit (.int .i64 t.high),.lit (.bool t.free)]] [] (.lit (.bool res)) []):=⟨by
 intro res h0
 refine co (hi:=hi00) func244 rfl rfl ?_
 unfold jy at h0
 exact run⟩
@[go_sem] def rj (v6:List GTie)(v7:Int)(s_0:List ag)(s_2 v8:Int):St:=⟨[(1,.ptr 64 1 0 0),(6,.sl (ab GTie.enc v6)),(7,.lit (.int .i64 v7)),(8,.lit (.int .i64 v8))],[(64,1,.var [.sl (ab ag.encS s_0),.sl (ab GTie.enc v6),.lit (.int .i64 s_2)])],2⟩
@[go_sem] def hi180_7:DT:=.r2 0 36 .nil
def DP:Hint where
 acts:=fun _=>[]
 draws:=fun
  | 7=>⟨hi180_7,[[],[0],[0,1],[0,1,2],[0,1,2,3],.range 5,.range 6,.range 7,.range 8,.range 9,.range 10,.range 9,[0,1,2,3,4,5,6,7,8,11],.range 13,.range 14,.range 15,.range 16,.range 17,.range 18,.range 19,.range 20,.range 19,[0,1,2,3,4,5,6,7,8,9,10,11,12,13,14,15,16,17,18,21],.range 23,.range 24,.range 25,.range 19,[0,1,2,3,4,5,6,7,8,9,10,11,12,13,14,15,16,17,18,26],.range 19,[0,1,2,3,4,5,6,7,8,9,10,11,12,13,14,15,16,17,18,28],[0,1,2,3,4,5,6,7,8,9,10,11,12,13,14,15,16,17,18,26,27,28,29],[0,1,2,3,4,5,6,7,8,9,10,11,12,13,14,15,16,17,18,26,27,28,29,30],[0,1,2,3,4,5,6,7,8,9,10,11,12,13,14,15,16,17,18,26,27,28,29,30,31],.range 33,.range 34,.range 35],.range 36⟩
  | _=>⟨.nil,[],[]⟩
theorem Kn (i:Nat):DP.acts i=[]:=rfl
attribute[go_sem] Kn ntmps180 results180
@[go_sem] theorem WC:(DP.draws 7).order=hi180_7:=rfl
instance k180 {s:GShow}:Ctr (mi s) (fun (res:Bool)=>ai prog 180 [.agg (GShow.encS s)] [] (.lit (.bool res)) []):=⟨by
 intro res h0
 refine co (hi:=DP) func180 rfl rfl ?_
 unfold mi at h0
 obtain⟨q10,l0,h0⟩:=ae h0
 simp(config:=cS)only[go_sem, *]
 refine aj (m1:=.mk) (m2:=.mk) [.nf [1,6,7,8] [64]] (rj s.ties (s.ties.length:Int) s.nodes s.horizon) l0 ?_ ?_
 ·simp(config:=cS)only[go_sem, *]
 have k0:=h0
 clear h0 l0
 intro _ v8_1 _ h0 gb0
 unfold nS at h0
 try dsimp only at h0
 obtain⟨_,h0⟩|⟨_,h0⟩:=itP h0
 ·obtain⟨x01,_,_,_,h0⟩:=gtI h0
  obtain⟨r02,g0,h0⟩:=ae h0
  simp(config:=cS)only[go_sem, *]
  have g0:=ctr g0
  refine af g0 ?_
  obtain⟨_,h0⟩|⟨_,h0⟩:=itB h0
  ·obtain⟨r03,g0,h0⟩:=ae h0
   simp(config:=cS)only[go_sem, *]
   have g0:=ctr g0
   refine af g0 ?_
   obtain⟨_,h0⟩|⟨_,h0⟩:=itB h0
   ·obtain⟨_,h0⟩|⟨_,h0⟩:=itP h0
    ·exact run
    obtain⟨r04,g0,h0⟩:=ae h0
    simp(config:=cS)only[go_sem, *]
    have g0:=ctr g0
    refine af g0 ?_
    obtain⟨_,h0⟩|⟨_,h0⟩:=itB h0
    ·obtain⟨r05,g0,h0⟩:=ae h0
     simp(config:=cS)only[go_sem, *]
     have g0:=ctr g0
     refine af g0 ?_
     obtain⟨_,h0⟩|⟨_,h0⟩:=itB h0
     ·obtain⟨_,h0⟩|⟨_,h0⟩:=itP h0
      ·exact run
      obtain⟨_,h0⟩|⟨_,h0⟩:=itB h0
      ·obtain⟨_,h0⟩|⟨_,h0⟩:=itP h0
       ·exact run
       obtain⟨_,h0⟩|⟨_,h0⟩:=itP h0
       ·exact run
       obtain⟨x06,_,_,_,h0⟩:=gtI h0
       obtain⟨_,h0⟩|⟨_,h0⟩:=itP h0
       ·obtain⟨x07,_,_,_,h0⟩:=gtI h0
        obtain⟨r08,g0,h0⟩:=ae h0
        simp(config:=cS)only[go_sem, *]
        have g0:=ctr g0
        refine af g0 ?_
        obtain⟨_,h0⟩|⟨_,h0⟩:=itB h0
        ·obtain⟨_,h0⟩:=ckP h0
         obtain⟨_,h0⟩:=ckP h0
         obtain⟨r09,g0,h0⟩:=ae h0
         simp(config:=cS)only[go_sem, *]
         refine af (hZ (by exact fun _ _ hr=>by have q:=ctr hr;exact q) (by refine⟨fun _=>?_,fun _=>?_⟩ <;> simp only[go_sem]) (fun _=>rfl) rfl g0) ?_
         exact run
        exact run
       exact run
      exact run
     exact run
    exact run
   exact run
  exact run
 exact run⟩
@[go_sem] def mb (v0:List Int)(f_v1:Nat)(k_v1:List AV)(v7 v8:Int):St:=⟨[(0,.sl (ab eI v0)),(1,.fn f_v1 k_v1),(7,.lit (.int .i64 v7)),(8,.lit (.int .i64 v8))],[],2⟩
theorem jR {v0:List Int}{v1:Int→Option Bool}{f_v1:Nat}{k_v1:List AV}(hp_v1:∀ y0 r,v1 y0=some r→ai prog f_v1 ([.lit (.int .i64 y0)]++k_v1) [] (.lit (.bool r)) [])(hc_v1:KC k_v1)(hm_v1:∀ a,mdT f_v1 a=⟨[],false⟩)(hk_v1:spf f_v1=false){res:Int}(h:dJ v0 v1=some res):ai prog 146 [.sl (ab eI v0),.fn f_v1 k_v1] [] (.lit (.int .i64 res)) []:=by
 refine co (hi:=hi00) func146 rfl rfl ?_
 unfold dJ at h
 obtain⟨q03,l1,h⟩:=ae h
 simp(config:=cS)only[go_sem,hc_v1.1,hc_v1.2,hm_v1,hk_v1]
 refine aj (m1:=.mk) (m2:=.mk) [.nf [0,1,7,8] []] (mb v0 f_v1 k_v1 (v0.length:Int)) l1 ?_ ?_
 ·simp(config:=cS)only[go_sem,hc_v1.1,hc_v1.2,hm_v1,hk_v1]
 intro nb2 v8_1 bb2 b2 gb2
 unfold ib at b2
 try dsimp only at b2
 obtain⟨h3,b2⟩|⟨h3,b2⟩:=aN b2
 ·obtain⟨x01,g4,b2⟩:=ae b2
  obtain⟨h5,h6,h7⟩:=bz g4
  obtain⟨r02,g8,b2⟩:=ae b2
  simp(config:=cS)only[go_sem,hc_v1.1,hc_v1.2,hm_v1,hk_v1,eqT h3,h5,h6,h7]
  refine af (hp_v1 _ _ g8) ?_
  obtain⟨h9,b2⟩|⟨h9,b2⟩:=aN b2
  ·cases b2
   obtain rfl:=(aG gb2).symm
   try dsimp only at h
   cases h
   simp(config:=cS)only[go_sem,hc_v1.1,hc_v1.2,hm_v1,hk_v1,eqT h3,h5,h6,h7,eZt h9]
  cases b2
  simp(config:=cS)only[go_sem,hc_v1.1,hc_v1.2,hm_v1,hk_v1,eqT h3,h5,h6,h7,eZf h9]
  refine cy gb2 ?_
  simp(config:=cS)only[go_sem,hc_v1.1,hc_v1.2,hm_v1,hk_v1,eqT h3,h5,h6,h7,eZf h9]
 cases b2
 obtain rfl:=(aG gb2).symm
 try dsimp only at h
 cases h
 simp(config:=cS)only[go_sem,hc_v1.1,hc_v1.2,hm_v1,hk_v1,eqF h3]
theorem bj {v0:List Int}{v1:Int→Option Bool}{f_v1:Nat}{k_v1:List AV}(hp_v1:∀ y0 r,v1 y0=some r→ai prog f_v1 ([.lit (.int .i64 y0)]++k_v1) [] (.lit (.bool r)) [])(hc_v1:KC k_v1)(hm_v1:∀ a,mdT f_v1 a=⟨[],false⟩)(hk_v1:spf f_v1=false){res:Bool}(h:aX v0 v1=some res):ai prog 86 [.sl (ab eI v0),.fn f_v1 k_v1] [] (.lit (.bool res)) []:=by
 refine co (hi:=hi00) func86 rfl rfl ?_
 unfold aX at h
 obtain⟨r01,g1,h⟩:=ae h
 simp(config:=cS)only[go_sem,hc_v1.1,hc_v1.2,hm_v1,hk_v1]
 refine af (jR hp_v1 hc_v1 hm_v1 hk_v1 g1) ?_
 cases h
 simp(config:=cS)only[go_sem,hc_v1.1,hc_v1.2,hm_v1,hk_v1]
@[go_sem] def lC (v0:List ag)(f_v1:Nat)(k_v1:List AV)(v7 v8:Int):St:=⟨[(0,.sl (ab ag.encS v0)),(1,.fn f_v1 k_v1),(7,.lit (.int .i64 v7)),(8,.lit (.int .i64 v8))],[],2⟩
theorem jg {v0:List ag}{v1:ag→Option Bool}{f_v1:Nat}{k_v1:List AV}(hp_v1:∀ y0 r,v1 y0=some r→ai prog f_v1 ([.agg (ag.encS y0)]++k_v1) [] (.lit (.bool r)) [])(hc_v1:KC k_v1)(hm_v1:∀ a,mdT f_v1 a=⟨[],false⟩)(hk_v1:spf f_v1=false){res:Int}(h:dd v0 v1=some res):ai prog 108 [.sl (ab ag.encS v0),.fn f_v1 k_v1] [] (.lit (.int .i64 res)) []:=by
 refine co (hi:=hi00) func108 rfl rfl ?_
 unfold dd at h
 obtain⟨q03,l1,h⟩:=ae h
 simp(config:=cS)only[go_sem,hc_v1.1,hc_v1.2,hm_v1,hk_v1]
 refine aj (m1:=.mk) (m2:=.mk) [.nf [0,1,7,8] []] (lC v0 f_v1 k_v1 (v0.length:Int)) l1 ?_ ?_
 ·simp(config:=cS)only[go_sem,hc_v1.1,hc_v1.2,hm_v1,hk_v1]
 intro nb2 v8_1 bb2 b2 gb2
 unfold gG at b2
 try dsimp only at b2
 obtain⟨h3,b2⟩|⟨h3,b2⟩:=aN b2
 ·obtain⟨x01,g4,b2⟩:=ae b2
  obtain⟨h5,h6,h7⟩:=bz g4
  obtain⟨r02,g8,b2⟩:=ae b2
  simp(config:=cS)only[go_sem,hc_v1.1,hc_v1.2,hm_v1,hk_v1,eqT h3,h5,h6,h7]
  refine af (hp_v1 _ _ g8) ?_
  obtain⟨h9,b2⟩|⟨h9,b2⟩:=aN b2
  ·cases b2
   obtain rfl:=(aG gb2).symm
   try dsimp only at h
   cases h
   simp(config:=cS)only[go_sem,hc_v1.1,hc_v1.2,hm_v1,hk_v1,eqT h3,h5,h6,h7,eZt h9]
  cases b2
  simp(config:=cS)only[go_sem,hc_v1.1,hc_v1.2,hm_v1,hk_v1,eqT h3,h5,h6,h7,eZf h9]
  refine cy gb2 ?_
  simp(config:=cS)only[go_sem,hc_v1.1,hc_v1.2,hm_v1,hk_v1,eqT h3,h5,h6,h7,eZf h9]
 cases b2
 obtain rfl:=(aG gb2).symm
 try dsimp only at h
 cases h
 simp(config:=cS)only[go_sem,hc_v1.1,hc_v1.2,hm_v1,hk_v1,eqF h3]
instance k278 {n:ag} {p:Int}:Ctr (jz n p) (fun (res:Bool)=>ai prog 278 [.agg (ag.encS n),.loc [.lit (.int .i64 p)]] [] (.lit (.bool res)) []):=⟨by
 intro res h0
 refine co (hi:=hi00) func278 rfl rfl ?_
 unfold jz at h0
 exact run⟩
instance k241 {s:GShow} {p:Int}:Ctr (iZ s p) (fun (res:Int)=>ai prog 241 [.agg (GShow.encS s),.lit (.int .i64 p)] [] (.lit (.int .i64 res)) []):=⟨by
 intro res h0
 refine co (hi:=hi00) func241 rfl rfl ?_
 unfold iZ at h0
 obtain⟨r01,g0,h0⟩:=ae h0
 simp(config:=cS)only[go_sem, *]
 refine af (jg (by exact fun _ _ hr=>by have q:=ctr hr;exact q) (by refine⟨fun _=>?_,fun _=>?_⟩ <;> simp only[go_sem]) (fun _=>rfl) rfl g0) ?_
 exact run⟩
@[go_sem] def pg (v0:List Int)(v1 v7 v8:Int):St:=⟨[(0,.sl (ab eI v0)),(1,.lit (.int .i64 v1)),(7,.lit (.int .i64 v7)),(8,.lit (.int .i64 v8))],[],2⟩
instance k171 {v0:List Int} {v1:Int}:Ctr (iz v0 v1) (fun (res:Int)=>ai prog 171 [.sl (ab eI v0),.lit (.int .i64 v1)] [] (.lit (.int .i64 res)) []):=⟨by
 intro res h0
 refine co (hi:=hi00) func171 rfl rfl ?_
 unfold iz at h0
 obtain⟨q02,l0,h0⟩:=ae h0
 simp(config:=cS)only[go_sem, *]
 refine aj (m1:=.mk) (m2:=.mk) [.nf [0,1,7,8] []] (pg v0 v1 (v0.length:Int)) l0 ?_ ?_
 ·simp(config:=cS)only[go_sem, *]
 have k0:=h0
 clear h0 l0
 intro _ v8_1 _ h0 gb0
 unfold kI at h0
 try dsimp only at h0
 exact run⟩
instance k113 {v0:List Int} {v1:Int}:Ctr (bn v0 v1) (fun (res:Bool)=>ai prog 113 [.sl (ab eI v0),.lit (.int .i64 v1)] [] (.lit (.bool res)) []):=⟨by
 intro res h0
 refine co (hi:=hi00) func113 rfl rfl ?_
 unfold bn at h0
 exact run⟩
instance k279 {v0:Int} {a:List Int}:Ctr (fB v0 a) (fun (res:Bool)=>ai prog 279 [.lit (.int .i64 v0),.loc [.sl (ab eI a)]] [] (.lit (.bool res)) []):=⟨by
 intro res h0
 refine co (hi:=hi00) func279 rfl rfl ?_
 unfold fB at h0
 exact run⟩
instance k245 {a:List Int} {b:List Int}:Ctr (gQ a b) (fun (res:Bool)=>ai prog 245 [.sl (ab eI a),.sl (ab eI b)] [] (.lit (.bool res)) []):=⟨by
 intro res h0
 refine co (hi:=hi00) func245 rfl rfl ?_
 unfold gQ at h0
 obtain⟨r01,g0,h0⟩:=ae h0
 simp(config:=cS)only[go_sem, *]
 have g0:=ctr g0
 refine af g0 ?_
 obtain⟨_,h0⟩|⟨_,h0⟩:=itB h0
 ·obtain⟨r02,g0,h0⟩:=ae h0
  simp(config:=cS)only[go_sem, *]
  have g0:=ctr g0
  refine af g0 ?_
  obtain⟨_,h0⟩|⟨_,h0⟩:=itB h0
  ·obtain⟨r03,g0,h0⟩:=ae h0
   simp(config:=cS)only[go_sem, *]
   refine af (bj (by exact fun _ _ hr=>by have q:=ctr hr;exact q) (by refine⟨fun _=>?_,fun _=>?_⟩ <;> simp only[go_sem]) (fun _=>rfl) rfl g0) ?_
   exact run
  exact run
 exact run⟩
@[go_sem] def hi182_1:DT:=.i1 0 (.i2 1 (.i0 2 [0] (.i2 3 (.i2 4 .nil))))
def DQ:Hint where
 acts:=fun _=>[]
 draws:=fun
  | 1=>⟨hi182_1,[[],[],[1],[0,1,2],[0,1,2,3]],.range 5⟩
  | _=>⟨.nil,[],[]⟩
theorem Ko (i:Nat):DQ.acts i=[]:=rfl
attribute[go_sem] Ko ntmps182 results182
@[go_sem] theorem WD:(DQ.draws 1).order=hi182_1:=rfl
instance k182 {s:GShow} {label:List Int} {v2:Int}:Ctr (kk s label v2) (fun (res:Bool)=>ai prog 182 [.agg (GShow.encS s),.sl (ab eI label),.lit (.int .i64 v2)] [] (.lit (.bool res)) []):=⟨by
 intro res h0
 refine co (hi:=DQ) func182 rfl rfl ?_
 unfold kk at h0
 exact run⟩
instance k181 {v0:Int} {s:GShow} {n:ag}:Ctr (kl v0 s n) (fun (res:Bool)=>ai prog 181 [.lit (.int .i64 v0),.loc [.sl (ab ag.encS s.nodes),.sl (ab GTie.enc s.ties),.lit (.int .i64 s.horizon)],.loc [.lit (.string n.name),.sl (ab eI n.label),.lit (.int .i64 n.watch)]] [] (.lit (.bool res)) []):=⟨by
 intro res h0
 refine co (hi:=hi00) func181 rfl rfl ?_
 unfold kl at h0
 exact run⟩
@[go_sem] def rV (v24:List ag)(v25:Int)(s_1:List GTie)(s_2 v26:Int):St:=⟨[(1,.ptr 64 1 0 0),(24,.sl (ab ag.encS v24)),(25,.lit (.int .i64 v25)),(26,.lit (.int .i64 v26))],[(64,1,.var [.sl (ab ag.encS v24),.sl (ab GTie.enc s_1),.lit (.int .i64 s_2)])],2⟩
instance k115 {s:GShow}:Ctr (aV s) (fun (res:Bool)=>ai prog 115 [.agg (GShow.encS s)] [] (.lit (.bool res)) []):=⟨by
 intro res h0
 refine co (hi:=hi00) func115 rfl rfl ?_
 unfold aV at h0
 obtain⟨r01,g0,h0⟩:=ae h0
 simp(config:=cS)only[go_sem, *]
 have g0:=ctr g0
 refine af g0 ?_
 obtain⟨_,h0⟩|⟨_,h0⟩:=itB h0
 ·obtain⟨r02,g0,h0⟩:=ae h0
  simp(config:=cS)only[go_sem, *]
  have g0:=ctr g0
  refine af g0 ?_
  obtain⟨_,h0⟩|⟨_,h0⟩:=itB h0
  ·obtain⟨_,h0⟩|⟨_,h0⟩:=itP h0
   ·exact run
   obtain⟨_,h0⟩|⟨_,h0⟩:=itP h0
   ·exact run
   obtain⟨q05,l0,h0⟩:=ae h0
   simp(config:=cS)only[go_sem, *]
   refine aj (m1:=.mk) (m2:=.mk) [.nf [1,24,25,26] [64]] (rV s.nodes (s.nodes.length:Int) s.ties s.horizon) l0 ?_ ?_
   ·simp(config:=cS)only[go_sem, *]
   have k0:=h0
   clear h0 l0
   intro _ v26_1 _ h0 gb0
   unfold pk at h0
   try dsimp only at h0
   obtain⟨_,h0⟩|⟨_,h0⟩:=itP h0
   ·obtain⟨x03,_,_,_,h0⟩:=gtI h0
    obtain⟨r04,g0,h0⟩:=ae h0
    simp(config:=cS)only[go_sem, *]
    refine af (bj (by exact fun _ _ hr=>by have q:=ctr hr;exact q) (by refine⟨fun _=>?_,fun _=>?_⟩ <;> simp only[go_sem]) (fun _=>rfl) rfl g0) ?_
    exact run
   exact run
  exact run
 exact run⟩
instance k295 {n:Int}:Ctr (iA n) (fun (res:Bool)=>ai prog 295 [.lit (.int .i64 n)] [] (.lit (.bool res)) []):=⟨by
 intro res h0
 refine co (hi:=hi00) func295 rfl rfl ?_
 unfold iA at h0
 exact run⟩
instance k280 {v:List Int}:Ctr (ig v) (fun (res:Bool)=>ai prog 280 [.sl (ab eI v)] [] (.lit (.bool res)) []):=⟨by
 intro res h0
 refine co (hi:=hi00) func280 rfl rfl ?_
 unfold ig at h0
 obtain⟨_,h0⟩|⟨_,h0⟩:=itP h0
 ·obtain⟨r01,g0,h0⟩:=ae h0
  simp(config:=cS)only[go_sem, *]
  refine af (bj (by exact fun _ _ hr=>by have q:=ctr hr;exact q) (by refine⟨fun _=>?_,fun _=>?_⟩ <;> simp only[go_sem]) (fun _=>rfl) rfl g0) ?_
  exact run
 exact run⟩
@[go_sem] def rm (v37:List Int)(v38:Int)(s_0:List ag)(s_1:List GTie)(s_2 v3_0:Int)(v3_2:List Int)(v39:Int):St:=⟨[(2,.ptr 128 1 0 0),(3,.ptr 192 1 0 0),(37,.sl (ab eI v37)),(38,.lit (.int .i64 v38)),(39,.lit (.int .i64 v39))],[(128,1,.var [.sl (ab ag.encS s_0),.sl (ab GTie.enc s_1),.lit (.int .i64 s_2)]),(192,1,.var [.lit (.int .i64 v3_0),.sl (ab eI v37),.sl (ab eI v3_2)])],2⟩
@[go_sem] def rn (v67:List Int)(v68:Int)(s_0:List ag)(s_1:List GTie)(s_2 v3_0:Int)(v3_1:List Int)(v69:Int):St:=⟨[(2,.ptr 128 1 0 0),(3,.ptr 192 1 0 0),(67,.sl (ab eI v67)),(68,.lit (.int .i64 v68)),(69,.lit (.int .i64 v69))],[(128,1,.var [.sl (ab ag.encS s_0),.sl (ab GTie.enc s_1),.lit (.int .i64 s_2)]),(192,1,.var [.lit (.int .i64 v3_0),.sl (ab eI v3_1),.sl (ab eI v67)])],2⟩
instance k246 {s:GShow} {v1:GState}:Ctr (ja s v1) (fun (res:Bool)=>ai prog 246 [.agg (GShow.encS s),.agg (GState.encS v1)] [] (.lit (.bool res)) []):=⟨by
 intro res h0
 refine co (hi:=hi00) func246 rfl rfl ?_
 unfold ja at h0
 obtain⟨_,h0⟩|⟨_,h0⟩:=itP h0
 ·exact run
 obtain⟨_,h0⟩|⟨_,h0⟩:=itP h0
 ·exact run
 obtain⟨_,h0⟩|⟨_,h0⟩:=itP h0
 ·obtain⟨r01,g0,h0⟩:=ae h0
  simp(config:=cS)only[go_sem, *]
  have g0:=ctr g0
  refine af g0 ?_
  obtain⟨_,h0⟩|⟨_,h0⟩:=itB h0
  ·obtain⟨q07,l0,h0⟩:=ae h0
   simp(config:=cS)only[go_sem, *]
   refine aj (m1:=.mk) (m2:=.mk) [.nf [2,3,37,38,39] [128,192]] (rm v1.times (v1.times.length:Int) s.nodes s.ties s.horizon v1.now v1.values) l0 ?_ ?_
   ·simp(config:=cS)only[go_sem, *]
   have k0:=h0
   clear h0 l0
   intro _ v39_1 _ h0 gb0
   unfold nT at h0
   try dsimp only at h0
   obtain⟨_,h0⟩|⟨_,h0⟩:=itP h0
   ·exact run
   cases h0
   obtain rfl:=(aG gb0).symm
   clear gb0
   have h0:=k0
   clear k0
   try dsimp only at h0
   obtain⟨q06,l0,h0⟩:=ae h0
   simp(config:=cS)only[go_sem, *]
   refine aj (m1:=.mk) (m2:=.mk) [.nf [2,3,67,68,69] [128,192]] (rn v1.values (v1.values.length:Int) s.nodes s.ties s.horizon v1.now v1.times) l0 ?_ ?_
   ·simp(config:=cS)only[go_sem, *]
   have k0:=h0
   clear h0 l0
   intro _ v69_2 _ h0 gb0
   unfold nU at h0
   try dsimp only at h0
   exact run
  exact run
 exact run⟩
instance k183 {s:GShow} {v1:GState}:Ctr (ex s v1) (fun (res:Bool)=>ai prog 183 [.agg (GShow.encS s),.agg (GState.encS v1)] [] (.lit (.bool res)) []):=⟨by
 intro res h0
 refine co (hi:=hi00) func183 rfl rfl ?_
 unfold ex at h0
 exact run⟩
instance k217 {v0:Int} {y:Int}:Ctr (pl v0 y) (fun (res:Int × Int)=>ai prog 217 [.lit (.int .u64 v0),.lit (.int .u64 y)] [] (.tup [.lit (.int .u64 res.1),.lit (.int .u64 res.2)]) []):=⟨by
 intro res h0
 refine co (hi:=hi00) func217 rfl rfl ?_
 unfold pl at h0
 exact run⟩
instance k151 {v0:Int} {y:Int}:Ctr (rx v0 y) (fun (res:Int × Int)=>ai prog 151 [.lit (.int .u64 v0),.lit (.int .u64 y)] [] (.tup [.lit (.int .u64 res.1),.lit (.int .u64 res.2)]) []):=⟨by
 intro res h0
 refine co (hi:=hi00) func151 rfl rfl ?_
 unfold rx at h0
 exact run⟩
@[go_sem] def oI  : (Int × (List Int))→St
 | (v8,v7)=>⟨[(7,.ref 1920 1 0 v7.length),(8,.lit (.int .i64 v8))],[(1920,1,.row true (ab eI v7))],2⟩
@[go_sem] def hi96_9:DT:=.r2 0 10 .nil
def hi96:Hint where
 acts:=fun _=>[]
 draws:=fun
  | 9=>⟨hi96_9,[[],[],[],[1,2],[],[],[4,5],[1,2,3,4,5,6],.range 8,.range 9],.range 10⟩
  | _=>⟨.nil,[],[]⟩
theorem Mg (i:Nat):hi96.acts i=[]:=rfl
attribute[go_sem] Mg ntmps96 results96
@[go_sem] theorem XI:(hi96.draws 9).order=hi96_9:=rfl
instance k96 {v0:List Int} {v1:Int}:Ctr (dm v0 v1) (fun (res:List Int)=>ai prog 96 [.sl (ab eI v0),.lit (.int .i64 v1)] [] (.ref 20000 1 0 res.length) [(20000,1,.row true (ab eI res))]):=⟨by
 intro res h0
 refine ao (ra:=[.home 4]) (md:=mdT) hT (hi:=hi96) func96 rfl rfl (by decide +kernel) (by simp) ?_
 unfold dm at h0
 obtain⟨_,h0⟩|⟨_,h0⟩:=itP h0
 ·exact run
 obtain⟨r01,g0,h0⟩:=ae h0
 simp(config:=cS)only[go_sem, *]
 have g0:=ctr g0
 refine af g0 ?_
 obtain⟨_,h0⟩|⟨_,h0⟩:=itP h0
 ·exact run
 obtain⟨_,h0⟩|⟨_,h0⟩:=itP h0
 ·exact run
 obtain⟨_,h0⟩:=ckP h0
 obtain⟨_,h0⟩:=ckP h0
 obtain⟨_,h0⟩:=ckP h0
 obtain⟨q02,l0,h0⟩:=ae h0
 simp(config:=cS)only[go_sem, *]
 refine aj (m1:=.mk) (m2:=.mk) [.nf [7,8] [1920]] (oI) l0 ?_ ?_
 ·simp(config:=cS)only[go_sem, *]
 have k0:=h0
 clear h0 l0
 intro _ s0 _ h0 gb0
 obtain⟨v8_1,v7_1⟩:=s0
 unfold jV at h0
 try dsimp only at h0
 exact run⟩
@[go_sem] def hi127_3:DT:=.i1 1 (.i1 2 (.i1 3 (.fork (.i0 0 [1,2,3] (.fork (.i2 4 (.fork (.i0 5 [1,2,3] (.i2 6 (.i0 7 [1,2,3] (.i2 8 .nil)))) (.i0 7 [1,2,3] (.i0 5 [1,2,3] (.i2 6 (.i2 8 .nil)))))) (.fork (.i0 5 [1,2,3] (.fork (.i2 4 (.i2 6 (.i0 7 [1,2,3] (.i2 8 .nil)))) (.i0 7 [1,2,3] (.i2 4 (.i2 6 (.i2 8 .nil)))))) (.i0 7 [1,2,3] (.fork (.i2 4 (.i0 5 [1,2,3] (.i2 6 (.i2 8 .nil)))) (.i0 5 [1,2,3] (.i2 4 (.i2 6 (.i2 8 .nil))))))))) (.fork (.i0 5 [1,2,3] (.fork (.i0 0 [1,2,3] (.fork (.i2 4 (.i2 6 (.i0 7 [1,2,3] (.i2 8 .nil)))) (.i0 7 [1,2,3] (.i2 4 (.i2 6 (.i2 8 .nil)))))) (.i0 7 [1,2,3] (.i0 0 [1,2,3] (.i2 4 (.i2 6 (.i2 8 .nil))))))) (.i0 7 [1,2,3] (.fork (.i0 0 [1,2,3] (.fork (.i2 4 (.i0 5 [1,2,3] (.i2 6 (.i2 8 .nil)))) (.i0 5 [1,2,3] (.i2 4 (.i2 6 (.i2 8 .nil)))))) (.i0 5 [1,2,3] (.i0 0 [1,2,3] (.i2 4 (.i2 6 (.i2 8 .nil)))))))))))
def DR:Hint where
 acts:=fun _=>[]
 draws:=fun
  | 3=>⟨hi127_3,[[],[],[1],[1,2],[0,1,2,3],[],.range 6,[],.range 8],.range 9⟩
  | _=>⟨.nil,[],[]⟩
theorem Kq (i:Nat):DR.acts i=[]:=rfl
attribute[go_sem] Kq ntmps127 results127
@[go_sem] theorem WE:(DR.draws 3).order=hi127_3:=rfl
instance k127 {s:GShow}:Ctr (cX s) (fun (res:GState)=>ai prog 127 [.agg (GShow.encS s)] [] (.agg [.lit (.int .i64 res.now),.ref 20000 1 0 res.times.length,.ref 20001 1 0 res.values.length]) [(20000,1,.row true (ab eI res.times)),(20001,1,.row true (ab eI res.values))]):=⟨by
 intro res h0
 refine ao (ra:=[.homeCell 128 1,.homeCell 128 2]) (md:=mdT) hT (hi:=DR) func127 rfl rfl (by decide +kernel) (by simp) ?_
 unfold cX at h0
 obtain⟨r01,g0,h0⟩:=ae h0
 simp(config:=cS)only[go_sem, *]
 have g0:=ctr g0
 refine af g0 ?_
 obtain⟨_,h0⟩|⟨_,h0⟩:=itB h0
 ·try simp(config:=cS)only[go_sem, *]
  refine bC ?_ ?_
  ·try simp(config:=cS)only[go_sem, *]
   refine bC ?_ ?_
   ·obtain⟨r02,g0,h0⟩:=ae h0
    simp(config:=cS)only[go_sem, *]
    have g0:=ctr g0
    refine af g0 ?_
    try simp(config:=cS)only[go_sem, *]
    refine bC ?_ ?_
    ·obtain⟨x03,g1,h0⟩:=ae h0
     have:=aR (k:=0) g1
     exact run
    obtain⟨x04,g2,h0⟩:=ae h0
    have:=aR (k:=0) g2
    exact run
   try simp(config:=cS)only[go_sem, *]
   refine bC ?_ ?_
   ·try simp(config:=cS)only[go_sem, *]
    refine bC ?_ ?_
    ·obtain⟨r05,g0,h0⟩:=ae h0
     simp(config:=cS)only[go_sem, *]
     have g0:=ctr g0
     refine af g0 ?_
     obtain⟨x06,g3,h0⟩:=ae h0
     have:=aR (k:=0) g3
     exact run
    obtain⟨r07,g0,h0⟩:=ae h0
    simp(config:=cS)only[go_sem, *]
    have g0:=ctr g0
    refine af g0 ?_
    obtain⟨x08,g4,h0⟩:=ae h0
    have:=aR (k:=0) g4
    exact run
   try simp(config:=cS)only[go_sem, *]
   refine bC ?_ ?_
   ·obtain⟨r09,g0,h0⟩:=ae h0
    simp(config:=cS)only[go_sem, *]
    have g0:=ctr g0
    refine af g0 ?_
    obtain⟨x10,g5,h0⟩:=ae h0
    have:=aR (k:=0) g5
    exact run
   obtain⟨r11,g0,h0⟩:=ae h0
   simp(config:=cS)only[go_sem, *]
   have g0:=ctr g0
   refine af g0 ?_
   obtain⟨x12,g6,h0⟩:=ae h0
   have:=aR (k:=0) g6
   exact run
  try simp(config:=cS)only[go_sem, *]
  refine bC ?_ ?_
  ·try simp(config:=cS)only[go_sem, *]
   refine bC ?_ ?_
   ·try simp(config:=cS)only[go_sem, *]
    refine bC ?_ ?_
    ·obtain⟨r13,g0,h0⟩:=ae h0
     simp(config:=cS)only[go_sem, *]
     have g0:=ctr g0
     refine af g0 ?_
     obtain⟨x14,g7,h0⟩:=ae h0
     have:=aR (k:=0) g7
     exact run
    obtain⟨r15,g0,h0⟩:=ae h0
    simp(config:=cS)only[go_sem, *]
    have g0:=ctr g0
    refine af g0 ?_
    obtain⟨x16,g8,h0⟩:=ae h0
    have:=aR (k:=0) g8
    exact run
   obtain⟨r17,g0,h0⟩:=ae h0
   simp(config:=cS)only[go_sem, *]
   have g0:=ctr g0
   refine af g0 ?_
   obtain⟨x18,g9,h0⟩:=ae h0
   have:=aR (k:=0) g9
   exact run
  try simp(config:=cS)only[go_sem, *]
  refine bC ?_ ?_
  ·try simp(config:=cS)only[go_sem, *]
   refine bC ?_ ?_
   ·obtain⟨r19,g0,h0⟩:=ae h0
    simp(config:=cS)only[go_sem, *]
    have g0:=ctr g0
    refine af g0 ?_
    obtain⟨x20,g10,h0⟩:=ae h0
    have:=aR (k:=0) g10
    exact run
   obtain⟨r21,g0,h0⟩:=ae h0
   simp(config:=cS)only[go_sem, *]
   have g0:=ctr g0
   refine af g0 ?_
   obtain⟨x22,g11,h0⟩:=ae h0
   have:=aR (k:=0) g11
   exact run
  obtain⟨r23,g0,h0⟩:=ae h0
  simp(config:=cS)only[go_sem, *]
  have g0:=ctr g0
  refine af g0 ?_
  obtain⟨x24,g12,h0⟩:=ae h0
  have:=aR (k:=0) g12
  exact run
 exact run⟩
@[go_sem] def rW (v9:List GTie)(v10 v3_0:Int)(v3_1 v3_2:List Int):(Int × (List Int))→St
 | (v11,out)=>⟨[(3,.ptr 192 1 0 0),(5,.ref 383 1 0 out.length),(9,.sl (ab GTie.enc v9)),(10,.lit (.int .i64 v10)),(11,.lit (.int .i64 v11))],[(192,1,.var [.lit (.int .i64 v3_0),.sl (ab eI v3_1),.sl (ab eI v3_2)]),(383,1,.row true (ab eI out))],2⟩
instance k223 {s:GShow} {v1:GState}:Ctr (nE s v1) (fun (res:List Int)=>ai prog 223 [.agg (GShow.encS s),.agg (GState.encS v1)] [] (.ref 20000 1 0 res.length) [(20000,1,.row true (ab eI res))]):=⟨by
 intro res h0
 refine ao (ra:=[.home 4]) (md:=mdT) hT (hi:=hi00) func223 rfl rfl (by decide +kernel) (by simp) ?_
 unfold nE at h0
 obtain⟨q04,l0,h0⟩:=ae h0
 simp(config:=cS)only[go_sem, *]
 refine aj (m1:=.mk) (m2:=.mk) [.home 5,.nf [3,5,9,10,11] [192,383]] (rW s.ties (s.ties.length:Int) v1.now v1.times v1.values) l0 ?_ ?_
 ·simp(config:=cS)only[go_sem, *]
 have k0:=h0
 clear h0 l0
 intro _ s0 _ h0 gb0
 obtain⟨v11_1,out_1⟩:=s0
 unfold pn at h0
 try dsimp only at h0
 exact run⟩
@[go_sem] def ro (set:Int)(v8:List Int)(v9:Int):(Int × (List Int))→St
 | (v10,out)=>⟨[(1,.lit (.int .i64 set)),(5,.ref 383 1 0 out.length),(8,.sl (ab eI v8)),(9,.lit (.int .i64 v9)),(10,.lit (.int .i64 v10))],[(383,1,.row true (ab eI out))],2⟩
instance k167 {list:List Int} {set:Int}:Ctr (jb list set) (fun (res:List Int)=>ai prog 167 [.sl (ab eI list),.lit (.int .i64 set)] [] (.ref 20000 1 0 res.length) [(20000,1,.row true (ab eI res))]):=⟨by
 intro res h0
 refine ao (ra:=[.home 4]) (md:=mdT) hT (hi:=hi00) func167 rfl rfl (by decide +kernel) (by simp) ?_
 unfold jb at h0
 obtain⟨q02,l0,h0⟩:=ae h0
 simp(config:=cS)only[go_sem, *]
 refine aj (m1:=.mk) (m2:=.mk) [.home 5,.nf [1,5,8,9,10] [383]] (ro set list (list.length:Int)) l0 ?_ ?_
 ·simp(config:=cS)only[go_sem, *]
 have k0:=h0
 clear h0 l0
 intro _ s0 _ h0 gb0
 obtain⟨v10_1,out_1⟩:=s0
 unfold nV at h0
 try dsimp only at h0
 exact run⟩
instance k263 {v1:Int}:Ctr (jB v1) (fun (res:List Int × Nat)=>ai prog 263 [.lit (.slice none 0 0),.lit (.int .i64 v1)] [] (.ref 20000 1 0 res.2) [(20000,1,.row true (ab eI res.1))]):=⟨by
 intro res h0
 refine ao (ra:=[.home 4]) (md:=mdT) hT (hi:=hi00) func263 rfl rfl (by decide +kernel) (by simp) ?_
 unfold jB at h0
 exact run⟩
@[go_sem] def oJ (v0:List (List Int))(v10:Int):(Int × Int)→St
 | (v3,v11)=>⟨[(0,.sl (ab (eLS eI) v0)),(3,.lit (.int .i64 v3)),(9,.sl (ab (eLS eI) v0)),(10,.lit (.int .i64 v10)),(11,.lit (.int .i64 v11))],[],2⟩
@[go_sem] def oK (v25:List (List Int))(v26:Int):(Nat × Int × (List Int))→St
 | (v6_n,v27,v6)=>⟨[(6,.ref 1536 1 0 v6_n),(25,.sl (ab (eLS eI) v25)),(26,.lit (.int .i64 v26)),(27,.lit (.int .i64 v27))],[(1536,1,.row true (ab eI v6))],2⟩
instance k224 {v0:List (List Int)}:Ctr (gS v0) (fun (res:List Int)=>ai prog 224 [.sl (ab (eLS eI) v0)] [] (.ref 20000 1 0 res.length) [(20000,1,.row true (ab eI res))]):=⟨by
 intro res h0
 refine ao (ra:=[.home 2,.trimT 2]) (md:=mdT) hT (hi:=hi00) func224 rfl rfl (by decide +kernel) (by simp) ?_
 unfold gS at h0
 obtain⟨q05,l0,h0⟩:=ae h0
 simp(config:=cS)only[go_sem, *]
 refine aj (m1:=.mk) (m2:=.mk) [.nf [0,3,9,10,11] []] (oJ v0 (v0.length:Int)) l0 ?_ ?_
 ·simp(config:=cS)only[go_sem, *]
 have k0:=h0
 clear h0 l0
 intro _ s0 _ h0 gb0
 obtain⟨v3_1,v11_1⟩:=s0
 unfold jW at h0
 try dsimp only at h0
 obtain⟨_,h0⟩|⟨_,h0⟩:=itP h0
 ·exact run
 cases h0
 obtain rfl:=(aG gb0).symm
 clear gb0
 have h0:=k0
 clear k0
 try dsimp only at h0
 obtain⟨r02,g0,h0⟩:=ae h0
 simp(config:=cS)only[go_sem, *]
 have g0:=ctr g0
 refine af g0 ?_
 obtain⟨q04,l0,h0⟩:=ae h0
 simp(config:=cS)only[go_sem, *]
 refine aj (m1:=.mk) (m2:=.mk) [.nf [6,25,26,27] [1536]] (oK v0 (v0.length:Int)) l0 ?_ ?_
 ·simp(config:=cS)only[go_sem, *]
 have k0:=h0
 clear h0 l0
 intro _ s0 _ h0 gb0
 obtain⟨v6_n_2,v27_2,v6_2⟩:=s0
 unfold jX at h0
 try dsimp only at h0
 exact run⟩
instance k139 {v0:Int}:Ctr (pj v0) (fun (res:Int)=>ai prog 139 [.lit (.int .u64 v0)] [] (.lit (.int .i64 res)) []):=⟨by
 intro res h0
 refine co (hi:=hi00) func139 rfl rfl ?_
 unfold pj at h0
 exact run⟩
instance k150 {v0:Int}:Ctr (rv v0) (fun (res:Int)=>ai prog 150 [.lit (.int .u64 v0)] [] (.lit (.int .i64 res)) []):=⟨by
 intro res h0
 refine co (hi:=hi00) func150 rfl rfl ?_
 unfold rv at h0
 exact run⟩
instance k261 {v0:Int}:Ctr (ic v0) (fun (res:Bool)=>ai prog 261 [.lit (.int .i64 v0)] [] (.lit (.bool res)) []):=⟨by
 intro res h0
 refine co (hi:=hi00) func261 rfl rfl ?_
 unfold ic at h0
 exact run⟩
instance k212 {v0:Int} {v1:Int}:Ctr (mh v0 v1) (fun (res:Bool)=>ai prog 212 [.lit (.int .i64 v0),.lit (.int .i64 v1)] [] (.lit (.bool res)) []):=⟨by
 intro res h0
 refine co (hi:=hi00) func212 rfl rfl ?_
 unfold mh at h0
 exact run⟩
@[go_sem] def gE (zb0:Bool)(v1 v2 v6:Int):(Int × (List Int))→St
 | (v7,v0)=>⟨[(0,.ref 10000 0 0 v0.length),(1,.lit (.int .i64 v1)),(2,.lit (.int .i64 v2)),(6,.lit (.int .i64 v6)),(7,.lit (.int .i64 v7))],[(10000,0,.row zb0 (ab eI v0))],2⟩
@[go_sem] def gF (zb0:Bool)(v1 v2:Int):(Int × (List Int))→St
 | (v6,v0)=>⟨[(0,.ref 10000 0 0 v0.length),(1,.lit (.int .i64 v1)),(2,.lit (.int .i64 v2)),(6,.lit (.int .i64 v6))],[(10000,0,.row zb0 (ab eI v0))],2⟩
@[go_sem] def hi206_6:DT:=.r2 0 18 .nil
@[go_sem] def hi206_4:DT:=.r2 0 15 .nil
def AP:Hint where
 acts:=fun _=>[]
 draws:=fun
  | 4=>⟨hi206_4,[[],[],[0,1],[0,1,2],[0,1,2,3],[0,1,2,3],.range 6,.range 7,[0,1,2,3],[0,1,2,3],[0,1,2,3,9],[0,1,2,3,8,9,10],[0,1,2,3,8,9,10,11],.range 13,.range 14],.range 15⟩
  | 6=>⟨hi206_6,[[],[],[],[],[3],[],[],[6],[5,6,7],[5,6,7,8],[],[],[10,11],[10,11,12],[0,1,5,6,7,8,9,10,11,12,13],[0,1,5,6,7,8,9,10,11,12,13,14],.range 16,.range 17],[0,1,13,14,15,2,3,4,5,6,7,8,9,10,11,12,16,17]⟩
  | _=>⟨.nil,[],[]⟩
theorem Kr (i:Nat):AP.acts i=[]:=rfl
attribute[go_sem] Kr ntmps206 results206
@[go_sem] theorem WF:(AP.draws 4).order=hi206_4:=rfl
@[go_sem] theorem WG:(AP.draws 6).order=hi206_6:=rfl
theorem jS {v0:List Int}{v1 v2:Int}{zb0:Bool}{res:List Int}(h0:cA v0 v1 v2=some res):ai prog 206 [.ref 10000 0 0 v0.length,.lit (.int .i64 v1),.lit (.int .i64 v2)] [(10000,0,.row zb0 (ab eI v0))] (.tup []) [(10000,0,.row zb0 (ab eI res))]:=by
 refine co (hi:=AP) func206 rfl rfl ?_
 unfold cA at h0
 obtain⟨q06,l0,h0⟩:=ae h0
 simp(config:=cS)only[go_sem, *]
 refine aj (m1:=.mk) (m2:=.mk) [.nf [0,1,2,6] [10000]] (gF zb0 v1 v2) l0 ?_ ?_
 ·simp(config:=cS)only[go_sem, *]
 have k0:=h0
 clear h0 l0
 intro _ s0 _ h0 gb0
 obtain⟨v6_1,v0_1⟩:=s0
 unfold dP at h0
 try dsimp only at h0
 obtain⟨_,h0⟩|⟨_,h0⟩:=itP h0
 ·obtain⟨q05,l0,h0⟩:=ae h0
  simp(config:=cS)only[go_sem, *]
  refine aj (m1:=.mk) (m2:=.mk) [.nf [0,1,2,6,7] [10000]] (gE zb0 v1 v2 v6_1) l0 ?_ ?_
  ·simp(config:=cS)only[go_sem, *]
  have k0:=h0
  clear h0 l0
  intro _ s0 _ h0 gb0
  obtain⟨v7_2,v0_2⟩:=s0
  unfold dO at h0
  try dsimp only at h0
  exact run
 exact run
@[go_sem] def jT (zb0:Bool)(v1 v2 v3:Int)(v0:List Int)(_:Unit):St:=⟨[(0,.ref 10000 0 0 v0.length),(1,.lit (.int .i64 v1)),(2,.lit (.int .i64 v2)),(3,.lit (.int .i64 v3)),(8,.lit (.bool true)),(9,.lit (.bool true))],[(10000,0,.row zb0 (ab eI v0))],2⟩
@[go_sem] def hi149_17:DT:=.r2 0 15 .nil
def DS:Hint where
 acts:=fun _=>[]
 draws:=fun
  | 17=>⟨hi149_17,[[],[0],[0,1],[0,1,2],[0,1,2],[0,1,2,4],.range 6,.range 7,[0,1,2],[0,1,2],[0,1,2,8,9],[0,1,2,8,9,10],.range 12,.range 13,.range 14],.range 15⟩
  | _=>⟨.nil,[],[]⟩
theorem Ks (i:Nat):DS.acts i=[]:=rfl
attribute[go_sem] Ks ntmps149 results149
@[go_sem] theorem VD:(DS.draws 17).order=hi149_17:=rfl
theorem mI {v0:List Int}{v1 v2 v3:Int}{zb0:Bool}{res:List Int}(h0:dQ v0 v1 v2 v3=some res):ai prog 149 [.ref 10000 0 0 v0.length,.lit (.int .i64 v1),.lit (.int .i64 v2),.lit (.int .i64 v3)] [(10000,0,.row zb0 (ab eI v0))] (.tup []) [(10000,0,.row zb0 (ab eI res))]:=by
 refine co (hi:=DS) func149 rfl rfl ?_
 unfold dQ at h0
 obtain⟨q02,l0,h0⟩:=ae h0
 simp(config:=cS)only[go_sem, *]
 refine aj (m1:=.mk) (m2:=.mk) [.nf [0,1,2,3,8,9] [10000]] (jT zb0 v1 v2 v3 v0) l0 ?_ ?_
 ·simp(config:=cS)only[go_sem, *]
 have k0:=h0
 clear h0 l0
 intro _ s0 _ h0 gb0
 unfold fi at h0
 try dsimp only at h0
 obtain⟨_,h0⟩|⟨_,h0⟩:=itP h0
 ·obtain⟨r01,g0,h0⟩:=ae h0
  simp(config:=cS)only[go_sem, *]
  refine af (jS g0) ?_
  exact run
 exact run
theorem fK {v0:List Int}{zb0:Bool}{res:List Int}(h0:cW v0=some res):ai prog 95 [.ref 10000 0 0 v0.length] [(10000,0,.row zb0 (ab eI v0))] (.tup []) [(10000,0,.row zb0 (ab eI res))]:=by
 refine co (hi:=hi00) func95 rfl rfl ?_
 unfold cW at h0
 obtain⟨r01,g0,h0⟩:=ae h0
 simp(config:=cS)only[go_sem, *]
 have g0:=ctr g0
 refine af g0 ?_
 obtain⟨r02,g0,h0⟩:=ae h0
 simp(config:=cS)only[go_sem, *]
 refine af (mI g0) ?_
 exact run
@[go_sem] def rp (v21:Int)(s_0:List ag)(s_1:List GTie)(s_2 v3_0:Int)(v3_1 v3_2 v20:List Int):(Int × (List Int) × (List Int))→St
 | (v22,must,may)=>⟨[(2,.ptr 128 1 0 0),(3,.ptr 192 1 0 0),(5,.ref 383 1 0 must.length),(6,.ref 447 1 0 may.length),(20,.ref 1280 1 0 v20.length),(21,.lit (.int .i64 v21)),(22,.lit (.int .i64 v22))],[(128,1,.var [.sl (ab ag.encS s_0),.sl (ab GTie.enc s_1),.lit (.int .i64 s_2)]),(192,1,.var [.lit (.int .i64 v3_0),.sl (ab eI v3_1),.sl (ab eI v3_2)]),(383,1,.row true (ab eI must)),(447,1,.row true (ab eI may)),(1280,1,.row true (ab eI v20))],2⟩
@[go_sem] def rq (must may:List Int):(Int × (List (List Int)))→St
 | (set,out)=>⟨[(5,.ref 383 1 0 must.length),(6,.ref 447 1 0 may.length),(10,.ref 703 1 0 out.length),(11,.lit (.int .i64 set))],[(383,1,.tree (ab eI must)),(447,1,.row true (ab eI may)),(703,1,.row true (ab (eLO eI) out))],2⟩
@[go_sem] def hi156_7:DT:=.r2 0 14 .nil
def DU:Hint where
 acts:=fun _=>[]
 draws:=fun
  | 7=>⟨hi156_7,[[],[0],[],[2],[],[4],[],[4,5,6],[4,5,6,7],[4,5,6,7,8],[2,3,4,5,6,7,8,9],[2,3,4,5,6,7,8,9,10],.range 12,.range 13],.range 14⟩
  | _=>⟨.nil,[],[]⟩
theorem Kt (i:Nat):DU.acts i=[]:=rfl
attribute[go_sem] Kt ntmps156 results156
@[go_sem] theorem WH:(DU.draws 7).order=hi156_7:=rfl
instance k156 {s:GShow} {v1:GState}:Ctr (dz s v1) (fun (res:List (List Int))=>ai prog 156 [.agg (GShow.encS s),.agg (GState.encS v1)] [] (.sl (ab (eLS eI) res)) []):=⟨by
 intro res h0
 refine ao (ra:=[.freeze [703],.sliT 4,.nilSl 4]) (md:=mdT) hT (hi:=DU) func156 rfl rfl (by decide +kernel) (by simp) ?_
 unfold dz at h0
 obtain⟨_,h0⟩|⟨_,h0⟩:=itP h0
 ·exact run
 obtain⟨r01,g0,h0⟩:=ae h0
 simp(config:=cS)only[go_sem, *]
 have g0:=ctr g0
 refine af g0 ?_
 obtain⟨q09,l0,h0⟩:=ae h0
 simp(config:=cS)only[go_sem, *]
 refine aj (m1:=.mk) (m2:=.mk) [.home 5,.home 6,.nf [2,3,5,6,20,21,22] [128,192,383,447,1280]] (rp (r01.length:Int) s.nodes s.ties s.horizon v1.now v1.times v1.values r01) l0 ?_ ?_
 ·simp(config:=cS)only[go_sem, *]
 have k0:=h0
 clear h0 l0
 intro _ s0 _ h0 gb0
 obtain⟨v22_1,must_1,may_1⟩:=s0
 unfold nW at h0
 try dsimp only at h0
 obtain⟨_,h0⟩|⟨_,h0⟩:=itP h0
 ·exact run
 cases h0
 obtain rfl:=(aG gb0).symm
 clear gb0
 have h0:=k0
 clear k0
 try dsimp only at h0
 obtain⟨q08,l0,h0⟩:=ae h0
 simp(config:=cS)only[go_sem, *]
 refine aj (m1:=.mk) (m2:=.mk) [.home 10,.freeze [383],.nf [5,6,10,11] [383,447,703]] (rq must_1 may_1) l0 ?_ ?_
 ·simp(config:=cS)only[go_sem, *]
 have k0:=h0
 clear h0 l0
 intro _ s0 _ h0 gb0
 obtain⟨set_2,out_2⟩:=s0
 unfold nX at h0
 try dsimp only at h0
 obtain⟨_,h0⟩:=ckN h0
 obtain⟨_,h0⟩|⟨_,h0⟩:=itP h0
 ·obtain⟨r05,g0,h0⟩:=ae h0
  simp(config:=cS)only[go_sem, *]
  have g0:=ctr g0
  refine af g0 ?_
  obtain⟨r06,g0,h0⟩:=ae h0
  simp(config:=cS)only[go_sem, *]
  have g0:=ctr g0
  refine af g0 ?_
  obtain⟨r07,g0,h0⟩:=ae h0
  simp(config:=cS)only[go_sem, *]
  refine af (fK g0) ?_
  exact run
 exact run⟩
@[go_sem] def lD (v0:List (List Int))(f_v1:Nat)(k_v1:List AV)(v7 v8:Int):St:=⟨[(0,.sl (ab (eLS eI) v0)),(1,.fn f_v1 k_v1),(7,.lit (.int .i64 v7)),(8,.lit (.int .i64 v8))],[],2⟩
theorem jh {v0:List (List Int)}{v1:(List Int)→Option Bool}{f_v1:Nat}{k_v1:List AV}(hp_v1:∀ y0 r,v1 y0=some r→ai prog f_v1 ([.sl (ab eI y0)]++k_v1) [] (.lit (.bool r)) [])(hc_v1:KC k_v1)(hm_v1:∀ a,mdT f_v1 a=⟨[],false⟩)(hk_v1:spf f_v1=false){res:Int}(h:de v0 v1=some res):ai prog 170 [.sl (ab (eLS eI) v0),.fn f_v1 k_v1] [] (.lit (.int .i64 res)) []:=by
 refine co (hi:=hi00) func170 rfl rfl ?_
 unfold de at h
 obtain⟨q03,l1,h⟩:=ae h
 simp(config:=cS)only[go_sem,hc_v1.1,hc_v1.2,hm_v1,hk_v1]
 refine aj (m1:=.mk) (m2:=.mk) [.nf [0,1,7,8] []] (lD v0 f_v1 k_v1 (v0.length:Int)) l1 ?_ ?_
 ·simp(config:=cS)only[go_sem,hc_v1.1,hc_v1.2,hm_v1,hk_v1]
 intro nb2 v8_1 bb2 b2 gb2
 unfold gH at b2
 try dsimp only at b2
 obtain⟨h3,b2⟩|⟨h3,b2⟩:=aN b2
 ·obtain⟨x01,g4,b2⟩:=ae b2
  obtain⟨h5,h6,h7⟩:=bz g4
  obtain⟨r02,g8,b2⟩:=ae b2
  simp(config:=cS)only[go_sem,hc_v1.1,hc_v1.2,hm_v1,hk_v1,eqT h3,h5,h6,h7]
  refine af (hp_v1 _ _ g8) ?_
  obtain⟨h9,b2⟩|⟨h9,b2⟩:=aN b2
  ·cases b2
   obtain rfl:=(aG gb2).symm
   try dsimp only at h
   cases h
   simp(config:=cS)only[go_sem,hc_v1.1,hc_v1.2,hm_v1,hk_v1,eqT h3,h5,h6,h7,eZt h9]
  cases b2
  simp(config:=cS)only[go_sem,hc_v1.1,hc_v1.2,hm_v1,hk_v1,eqT h3,h5,h6,h7,eZf h9]
  refine cy gb2 ?_
  simp(config:=cS)only[go_sem,hc_v1.1,hc_v1.2,hm_v1,hk_v1,eqT h3,h5,h6,h7,eZf h9]
 cases b2
 obtain rfl:=(aG gb2).symm
 try dsimp only at h
 cases h
 simp(config:=cS)only[go_sem,hc_v1.1,hc_v1.2,hm_v1,hk_v1,eqF h3]
theorem ny {v0:List (List Int)}{v1:(List Int)→Option Bool}{f_v1:Nat}{k_v1:List AV}(hp_v1:∀ y0 r,v1 y0=some r→ai prog f_v1 ([.sl (ab eI y0)]++k_v1) [] (.lit (.bool r)) [])(hc_v1:KC k_v1)(hm_v1:∀ a,mdT f_v1 a=⟨[],false⟩)(hk_v1:spf f_v1=false){res:Bool}(h:dZ v0 v1=some res):ai prog 163 [.sl (ab (eLS eI) v0),.fn f_v1 k_v1] [] (.lit (.bool res)) []:=by
 refine co (hi:=hi00) func163 rfl rfl ?_
 unfold dZ at h
 obtain⟨r01,g1,h⟩:=ae h
 simp(config:=cS)only[go_sem,hc_v1.1,hc_v1.2,hm_v1,hk_v1]
 refine af (jh hp_v1 hc_v1 hm_v1 hk_v1 g1) ?_
 cases h
 simp(config:=cS)only[go_sem,hc_v1.1,hc_v1.2,hm_v1,hk_v1]
instance k164 {y:List Int} {v1:List Int}:Ctr (nF y v1) (fun (res:Bool)=>ai prog 164 [.sl (ab eI y),.loc [.sl (ab eI v1)]] [] (.lit (.bool res)) []):=⟨by
 intro res h0
 refine co (hi:=hi00) func164 rfl rfl ?_
 unfold nF at h0
 exact run⟩
instance k105 {list:List (List Int)} {v1:List Int}:Ctr (fj list v1) (fun (res:Bool)=>ai prog 105 [.sl (ab (eLS eI) list),.sl (ab eI v1)] [] (.lit (.bool res)) []):=⟨by
 intro res h0
 refine co (hi:=hi00) func105 rfl rfl ?_
 unfold fj at h0
 obtain⟨r01,g0,h0⟩:=ae h0
 simp(config:=cS)only[go_sem, *]
 refine af (ny (by exact fun _ _ hr=>by have q:=ctr hr;exact q) (by refine⟨fun _=>?_,fun _=>?_⟩ <;> simp only[go_sem]) (fun _=>rfl) rfl g0) ?_
 exact run⟩
@[go_sem] def sE (v12:List Int)(v13:Int)(s_0:List ag)(s_1:List GTie)(s_2 v4_0:Int)(v4_1 v4_2:List Int)(out_0:Int)(h705:List Int):(Int × (List Int))→St
 | (v14,h704)=>⟨[(3,.ptr 192 1 0 0),(4,.ptr 256 1 0 0),(6,.ptr 384 1 0 0),(7,.ptr 448 1 0 0),(12,.sl (ab eI v12)),(13,.lit (.int .i64 v13)),(14,.lit (.int .i64 v14))],[(192,1,.var [.sl (ab ag.encS s_0),.sl (ab GTie.enc s_1),.lit (.int .i64 s_2)]),(256,1,.var [.lit (.int .i64 v4_0),.sl (ab eI v4_1),.sl (ab eI v4_2)]),(384,1,.var [.lit (.int .i64 0),.lit (.slice none 0 0),.lit (.slice none 0 0)]),(448,1,.var [.lit (.int .i64 out_0),.ref 704 1 0 h704.length,.ref 705 1 0 h705.length]),(704,1,.row true (ab eI h704)),(705,1,.row true (ab eI h705))],2⟩
@[go_sem] def hi157_5:DT:=.r2 0 12 .nil
def DV:Hint where
 acts:=fun _=>[]
 draws:=fun
  | 5=>⟨hi157_5,[[],[0],[],[2],[],[2,3,4],[2,3,4,5],[2,3,4,5,6],[],[8],.range 10,.range 11],.range 12⟩
  | _=>⟨.nil,[],[]⟩
theorem Ku (i:Nat):DV.acts i=[]:=rfl
attribute[go_sem] Ku ntmps157 results157
@[go_sem] theorem WI:(DV.draws 5).order=hi157_5:=rfl
instance k157 {s:GShow} {v1:GState} {ties:List Int}:Ctr (eE s v1 ties) (fun (res:GState)=>ai prog 157 [.agg (GShow.encS s),.agg (GState.encS v1),.sl (ab eI ties)] [] (.agg [.lit (.int .i64 res.now),.ref 20000 1 0 res.times.length,.ref 20001 1 0 res.values.length]) [(20000,1,.row true (ab eI res.times)),(20001,1,.row true (ab eI res.values))]):=⟨by
 intro res h0
 refine ao (ra:=[.homeCell 384 1,.homeCell 384 2]) (md:=mdT) hT (hi:=DV) func157 rfl rfl (by decide +kernel) (by simp) ?_
 unfold eE at h0
 obtain⟨r01,g0,h0⟩:=ae h0
 simp(config:=cS)only[go_sem, *]
 have g0:=ctr g0
 refine af g0 ?_
 obtain⟨q05,l0,h0⟩:=ae h0
 simp(config:=cS)only[go_sem, *]
 refine aj (m1:=.mk) (m2:=.mk) [.nf [3,4,6,7,12,13,14] [192,256,384,448,704,705]] (sE ties (ties.length:Int) s.nodes s.ties s.horizon v1.now v1.times v1.values r01.now r01.values) l0 ?_ ?_
 ·simp(config:=cS)only[go_sem, *]
 have k0:=h0
 clear h0 l0
 intro _ s0 _ h0 gb0
 obtain⟨v14_1,h704_1⟩:=s0
 unfold pU at h0
 try dsimp only at h0
 exact run⟩
instance k205 {t:GTie} {node:Int}:Ctr (jA t node) (fun (res:Bool)=>ai prog 205 [.agg (GTie.enc t),.loc [.lit (.int .i64 node)]] [] (.lit (.bool res)) []):=⟨by
 intro res h0
 refine co (hi:=hi00) func205 rfl rfl ?_
 unfold jA at h0
 exact run⟩
instance k148 {s:GShow} {node:Int}:Ctr (dy s node) (fun (res:Int)=>ai prog 148 [.agg (GShow.encS s),.lit (.int .i64 node)] [] (.lit (.int .i64 res)) []):=⟨by
 intro res h0
 refine co (hi:=hi00) func148 rfl rfl ?_
 unfold dy at h0
 obtain⟨r01,g0,h0⟩:=ae h0
 simp(config:=cS)only[go_sem, *]
 refine af (jQ (by exact fun _ _ hr=>by have q:=ctr hr;exact q) (by refine⟨fun _=>?_,fun _=>?_⟩ <;> simp only[go_sem]) (fun _=>rfl) rfl g0) ?_
 exact run⟩
@[go_sem] def rX (s_0:List ag)(s_1:List GTie)(s_2:Int):(Int × (List Int))→St
 | (i,out)=>⟨[(1,.ptr 64 1 0 0),(3,.ref 255 1 0 out.length),(4,.lit (.int .i64 i))],[(64,1,.var [.sl (ab ag.encS s_0),.sl (ab GTie.enc s_1),.lit (.int .i64 s_2)]),(255,1,.row true (ab eI out))],2⟩
instance k226 {s:GShow}:Ctr (nG s) (fun (res:List Int)=>ai prog 226 [.agg (GShow.encS s)] [] (.ref 20000 1 0 res.length) [(20000,1,.row true (ab eI res))]):=⟨by
 intro res h0
 refine ao (ra:=[.home 2]) (md:=mdT) hT (hi:=hi00) func226 rfl rfl (by decide +kernel) (by simp) ?_
 unfold nG at h0
 obtain⟨q02,l0,h0⟩:=ae h0
 simp(config:=cS)only[go_sem, *]
 refine aj (m1:=.mk) (m2:=.mk) [.home 3,.nf [1,3,4] [64,255]] (rX s.nodes s.ties s.horizon) l0 ?_ ?_
 ·simp(config:=cS)only[go_sem, *]
 have k0:=h0
 clear h0 l0
 intro _ s0 _ h0 gb0
 obtain⟨i_1,out_1⟩:=s0
 unfold po at h0
 try dsimp only at h0
 exact run⟩
@[go_sem] def lE (zb0:Bool)(f_v1:Nat)(k_v1:List AV):(Int × Int × (List Int))→St
 | (v5,v6,v0)=>⟨[(0,.ref 10000 0 0 v0.length),(1,.fn f_v1 k_v1),(5,.lit (.int .i64 v5)),(6,.lit (.int .i64 v6))],[(10000,0,.row zb0 (ab eI v0))],2⟩
theorem pG {v0:List Int}{v1:Int→Option Bool}{zb0:Bool}{f_v1:Nat}{k_v1:List AV}(hp_v1:∀ y0 r,v1 y0=some r→ai prog f_v1 ([.lit (.int .i64 y0)]++k_v1) [] (.lit (.bool r)) [])(hc_v1:KC k_v1)(hm_v1:∀ a,mdT f_v1 a=⟨[],false⟩)(hk_v1:spf f_v1=false){res:List Int}(h:eX v0 v1=some res):ai prog 225 [.ref 10000 0 0 v0.length,.fn f_v1 k_v1] [(10000,0,.row zb0 (ab eI v0))] (.ref 10000 0 0 res.length) [(10000,0,.row false (ab eI res))]:=by
 refine ao (ra:=[.home 4,.trim 4]) (md:=mdT) hT (hi:=hi00) func225 rfl rfl (by decide +kernel) (by simp) ?_
 unfold eX at h
 obtain⟨r01,g1,h⟩:=ae h
 simp(config:=cS)only[go_sem,hc_v1.1,hc_v1.2,hm_v1,hk_v1]
 refine af (jR hp_v1 hc_v1 hm_v1 hk_v1 g1) ?_
 obtain⟨h2,h⟩|⟨h2,h⟩:=aN h
 ·cases h
  simp(config:=cS)only[go_sem,hc_v1.1,hc_v1.2,hm_v1,hk_v1,eqT h2]
 obtain⟨q05,l3,h⟩:=ae h
 simp(config:=cS)only[go_sem,hc_v1.1,hc_v1.2,hm_v1,hk_v1,eqF h2]
 refine aj (m1:=.mk) (m2:=.mk) [.nf [0,1,5,6] [10000]] (lE zb0 f_v1 k_v1) l3 ?_ ?_
 ·simp(config:=cS)only[go_sem,hc_v1.1,hc_v1.2,hm_v1,hk_v1,eqF h2]
 intro nb4 sb4 bb4 b4 gb4
 obtain⟨v5_1,v6_1,v0_1⟩:=sb4
 unfold gI at b4
 try dsimp only at b4
 obtain⟨h5,b4⟩|⟨h5,b4⟩:=aN b4
 ·obtain⟨x02,g6,b4⟩:=ae b4
  obtain⟨h7,h8,h9⟩:=bz g6
  obtain⟨r03,g10,b4⟩:=ae b4
  simp(config:=cS)only[go_sem,hc_v1.1,hc_v1.2,hm_v1,hk_v1,eqF h2,eqT h5,h7,h8,h9]
  refine af (hp_v1 _ _ g10) ?_
  obtain⟨h11,b4⟩|⟨h11,b4⟩:=aN b4
  ·cases b4
   simp(config:=cS)only[go_sem,hc_v1.1,hc_v1.2,hm_v1,hk_v1,eqF h2,eqT h5,h7,h8,h9,eZt h11]
   refine cy gb4 ?_
   simp(config:=cS)only[go_sem,hc_v1.1,hc_v1.2,hm_v1,hk_v1,eqF h2,eqT h5,h7,h8,h9,eZt h11]
  obtain⟨x04,g12,b4⟩:=ae b4
  obtain⟨h13,h14,h15⟩:=bz g12
  cases b4
  simp(config:=cS)only[go_sem,hc_v1.1,hc_v1.2,hm_v1,hk_v1,eqF h2,eqT h5,h7,h8,h9,eZf h11,h13,h14,h15]
  refine cy gb4 ?_
  simp(config:=cS)only[go_sem,hc_v1.1,hc_v1.2,hm_v1,hk_v1,eqF h2,eqT h5,h7,h8,h9,eZf h11,h13,h14,h15]
 cases b4
 obtain rfl:=(aG gb4).symm
 try dsimp only at h
 obtain⟨h17,h⟩:=cN h
 obtain⟨h18,h⟩:=cN h
 obtain⟨h19,h⟩:=cN h
 cases h
 simp(config:=cS)only[go_sem,hc_v1.1,hc_v1.2,hm_v1,hk_v1,eqF h2,eqF h5,eqT h17,eqT h18,eqT h19]
instance k286 {l:Int} {v:List Int}:Ctr (pq l v) (fun (res:Int)=>ai prog 286 [.lit (.int .i64 l),.sl (ab eI v)] [] (.lit (.int .i64 res)) []):=⟨by
 intro res h0
 refine co (hi:=hi00) func286 rfl rfl ?_
 unfold pq at h0
 exact run⟩
@[go_sem] def pH (v v16:List Int)(v17:Int):(Int × Int)→St
 | (out,v18)=>⟨[(1,.sl (ab eI v)),(5,.lit (.int .i64 out)),(16,.sl (ab eI v16)),(17,.lit (.int .i64 v17)),(18,.lit (.int .i64 v18))],[],2⟩
instance k262 {l:List Int} {v:List Int}:Ctr (jC l v) (fun (res:Int)=>ai prog 262 [.sl (ab eI l),.sl (ab eI v)] [] (.lit (.int .i64 res)) []):=⟨by
 intro res h0
 refine co (hi:=hi00) func262 rfl rfl ?_
 unfold jC at h0
 obtain⟨r01,g0,h0⟩:=ae h0
 simp(config:=cS)only[go_sem, *]
 have g0:=ctr g0
 refine af g0 ?_
 obtain⟨_,h0⟩|⟨_,h0⟩:=itB h0
 ·obtain⟨r02,g0,h0⟩:=ae h0
  simp(config:=cS)only[go_sem, *]
  have g0:=ctr g0
  refine af g0 ?_
  obtain⟨_,h0⟩|⟨_,h0⟩:=itB h0
  ·obtain⟨q05,l0,h0⟩:=ae h0
   simp(config:=cS)only[go_sem, *]
   refine aj (m1:=.mk) (m2:=.mk) [.nf [1,5,16,17,18] []] (pH v l (l.length:Int)) l0 ?_ ?_
   ·simp(config:=cS)only[go_sem, *]
   have k0:=h0
   clear h0 l0
   intro _ s0 _ h0 gb0
   obtain⟨out_1,v18_1⟩:=s0
   unfold ll at h0
   try dsimp only at h0
   exact run
  exact run
 exact run⟩
@[go_sem] def hi222_1:DT:=.r2 0 10 .nil
def DW:Hint where
 acts:=fun _=>[]
 draws:=fun
  | 1=>⟨hi222_1,[[],[0],[],[0,1,2],[0,1,2,3],.range 5,[],[6],.range 8,.range 9],.range 10⟩
  | _=>⟨.nil,[],[]⟩
theorem Kv (i:Nat):DW.acts i=[]:=rfl
attribute[go_sem] Kv ntmps222 results222
@[go_sem] theorem WJ:(DW.draws 1).order=hi222_1:=rfl
instance k222 {s:GShow} {v1:GState} {node:Int}:Ctr (dA s v1 node) (fun (res:Int)=>ai prog 222 [.agg (GShow.encS s),.agg (GState.encS v1),.lit (.int .i64 node)] [] (.lit (.int .i64 res)) []):=⟨by
 intro res h0
 refine co (hi:=DW) func222 rfl rfl ?_
 unfold dA at h0
 exact run⟩
instance k227 {i:Int} {v1:GState} {s:GShow}:Ctr (jD i v1 s) (fun (res:Bool)=>ai prog 227 [.lit (.int .i64 i),.loc [.lit (.int .i64 v1.now),.sl (ab eI v1.times),.sl (ab eI v1.values)],.loc [.sl (ab ag.encS s.nodes),.sl (ab GTie.enc s.ties),.lit (.int .i64 s.horizon)]] [] (.lit (.bool res)) []):=⟨by
 intro res h0
 refine co (hi:=hi00) func227 rfl rfl ?_
 unfold jD at h0
 exact run⟩
instance k166 {s:GShow} {v1:GState}:Ctr (ml s v1) (fun (res:List Int)=>ai prog 166 [.agg (GShow.encS s),.agg (GState.encS v1)] [] (.ref 20000 1 0 res.length) [(20000,1,.row false (ab eI res))]):=⟨by
 intro res h0
 refine ao (ra:=[.home 4,.trim 4]) (md:=mdT) hT (hi:=hi00) func166 rfl rfl (by decide +kernel) (by simp) ?_
 unfold ml at h0
 obtain⟨r01,g0,h0⟩:=ae h0
 simp(config:=cS)only[go_sem, *]
 have g0:=ctr g0
 refine af g0 ?_
 obtain⟨r02,g0,h0⟩:=ae h0
 simp(config:=cS)only[go_sem, *]
 refine af (pG (by exact fun _ _ hr=>by have q:=ctr hr;exact q) (by refine⟨fun _=>?_,fun _=>?_⟩ <;> simp only[go_sem]) (fun _=>rfl) rfl g0) ?_
 exact run⟩
@[go_sem] def qk (nodes:List Int):(Int × (List (List Int)))→St
 | (set,out)=>⟨[(5,.ref 640 1 0 nodes.length),(6,.ref 447 1 0 out.length),(7,.lit (.int .i64 set))],[(640,1,.row false (ab eI nodes)),(447,1,.row true (ab (eLO eI) out))],2⟩
instance k106 {s:GShow} {v1:GState}:Ctr (dB s v1) (fun (res:List (List Int))=>ai prog 106 [.agg (GShow.encS s),.agg (GState.encS v1)] [] (.ref 20000 1 0 res.length) [(20000,1,.row true (ab (eLO eI) res))]):=⟨by
 intro res h0
 refine ao (ra:=[.home 4]) (md:=mdT) hT (hi:=hi00) func106 rfl rfl (by decide +kernel) (by simp) ?_
 unfold dB at h0
 obtain⟨r01,g0,h0⟩:=ae h0
 simp(config:=cS)only[go_sem, *]
 have g0:=ctr g0
 refine af g0 ?_
 obtain⟨_,h0⟩:=ckN h0
 obtain⟨q03,l0,h0⟩:=ae h0
 simp(config:=cS)only[go_sem, *]
 refine aj (m1:=.mk) (m2:=.mk) [.home 6,.nf [5,6,7] [640,447]] (qk r01) l0 ?_ ?_
 ·simp(config:=cS)only[go_sem, *]
 have k0:=h0
 clear h0 l0
 intro _ s0 _ h0 gb0
 obtain⟨set_1,out_1⟩:=s0
 unfold lK at h0
 try dsimp only at h0
 exact run⟩
@[go_sem] def rr (v14:List Int)(v15:Int)(s_0:List ag)(s_1:List GTie)(s_2 v4_0:Int)(v4_1 v4_2:List Int)(out_0:Int)(h833:List Int):(Int × (List Int) × (List Int))→St
 | (v16,props,h832)=>⟨[(3,.ptr 192 1 0 0),(4,.ptr 256 1 0 0),(6,.ptr 384 1 0 0),(8,.ptr 512 1 0 0),(9,.ref 639 1 0 props.length),(14,.sl (ab eI v14)),(15,.lit (.int .i64 v15)),(16,.lit (.int .i64 v16))],[(192,1,.var [.sl (ab ag.encS s_0),.sl (ab GTie.enc s_1),.lit (.int .i64 s_2)]),(256,1,.var [.lit (.int .i64 v4_0),.sl (ab eI v4_1),.sl (ab eI v4_2)]),(384,1,.var [.lit (.int .i64 0),.lit (.slice none 0 0),.lit (.slice none 0 0)]),(512,1,.var [.lit (.int .i64 out_0),.ref 832 1 0 h832.length,.ref 833 1 0 h833.length]),(832,1,.row true (ab eI h832)),(833,1,.row true (ab eI h833)),(639,1,.row true (ab eI props))],2⟩
instance k159 {s:GShow} {v1:GState} {nodes:List Int}:Ctr (dC s v1 nodes) (fun (res:GState × (List Int))=>ai prog 159 [.agg (GShow.encS s),.agg (GState.encS v1),.sl (ab eI nodes)] [] (.tup [.agg [.lit (.int .i64 res.1.now),.ref 20000 1 0 res.1.times.length,.ref 20001 1 0 res.1.values.length],.ref 20002 1 0 res.2.length]) [(20000,1,.row true (ab eI res.1.times)),(20001,1,.row true (ab eI res.1.values)),(20002,1,.row true (ab eI res.2))]):=⟨by
 intro res h0
 refine ao (ra:=[.homeCell 384 1,.homeCell 384 2,.home 7]) (md:=mdT) hT (hi:=hi00) func159 rfl rfl (by decide +kernel) (by simp) ?_
 unfold dC at h0
 obtain⟨r01,g0,h0⟩:=ae h0
 simp(config:=cS)only[go_sem, *]
 have g0:=ctr g0
 refine af g0 ?_
 obtain⟨q06,l0,h0⟩:=ae h0
 simp(config:=cS)only[go_sem, *]
 refine aj (m1:=.mk) (m2:=.mk) [.home 9,.nf [3,4,6,8,9,14,15,16] [192,256,384,512,832,833,639]] (rr nodes (nodes.length:Int) s.nodes s.ties s.horizon v1.now v1.times v1.values r01.now r01.values) l0 ?_ ?_
 ·simp(config:=cS)only[go_sem, *]
 have k0:=h0
 clear h0 l0
 intro _ s0 _ h0 gb0
 obtain⟨v16_1,props_1,h832_1⟩:=s0
 unfold nY at h0
 try dsimp only at h0
 obtain⟨_,h0⟩|⟨_,h0⟩:=itP h0
 ·exact run
 cases h0
 obtain rfl:=(aG gb0).symm
 clear gb0
 have h0:=k0
 clear k0
 try dsimp only at h0
 obtain⟨r05,g0,h0⟩:=ae h0
 simp(config:=cS)only[go_sem, *]
 refine af (fK g0) ?_
 exact run⟩
@[go_sem] def qE (values v12:List Int)(v13 out_0:Int)(h704:List Int):(Int × (List Int))→St
 | (v14,h705)=>⟨[(2,.sl (ab eI values)),(6,.ptr 384 1 0 0),(7,.ptr 448 1 0 0),(12,.sl (ab eI v12)),(13,.lit (.int .i64 v13)),(14,.lit (.int .i64 v14))],[(384,1,.var [.lit (.int .i64 0),.lit (.slice none 0 0),.lit (.slice none 0 0)]),(448,1,.var [.lit (.int .i64 out_0),.ref 704 1 0 h704.length,.ref 705 1 0 h705.length]),(704,1,.row true (ab eI h704)),(705,1,.row true (ab eI h705))],2⟩
@[go_sem] def hi160_5:DT:=.r2 0 10 .nil
def DX:Hint where
 acts:=fun _=>[]
 draws:=fun
  | 5=>⟨hi160_5,[[],[0],[],[2],[],[],[4,5],[4,5,6],.range 8,.range 9],.range 10⟩
  | _=>⟨.nil,[],[]⟩
theorem Kw (i:Nat):DX.acts i=[]:=rfl
attribute[go_sem] Kw ntmps160 results160
@[go_sem] theorem WK:(DX.draws 5).order=hi160_5:=rfl
instance k160 {v0:GState} {props:List Int} {values:List Int}:Ctr (cR v0 props values) (fun (res:GState)=>ai prog 160 [.agg (GState.encS v0),.sl (ab eI props),.sl (ab eI values)] [] (.agg [.lit (.int .i64 res.now),.ref 20000 1 0 res.times.length,.ref 20001 1 0 res.values.length]) [(20000,1,.row true (ab eI res.times)),(20001,1,.row true (ab eI res.values))]):=⟨by
 intro res h0
 refine ao (ra:=[.homeCell 384 1,.homeCell 384 2]) (md:=mdT) hT (hi:=DX) func160 rfl rfl (by decide +kernel) (by simp) ?_
 unfold cR at h0
 obtain⟨r01,g0,h0⟩:=ae h0
 simp(config:=cS)only[go_sem, *]
 have g0:=ctr g0
 refine af g0 ?_
 obtain⟨q05,l0,h0⟩:=ae h0
 simp(config:=cS)only[go_sem, *]
 refine aj (m1:=.mk) (m2:=.mk) [.nf [2,6,7,12,13,14] [384,448,704,705]] (qE values props (props.length:Int) r01.now r01.times) l0 ?_ ?_
 ·simp(config:=cS)only[go_sem, *]
 have k0:=h0
 clear h0 l0
 intro _ s0 _ h0 gb0
 obtain⟨v14_1,h705_1⟩:=s0
 unfold mP at h0
 try dsimp only at h0
 exact run⟩
@[go_sem] def sF (v58:List Int)(v59 next_0:Int)(h3456 h3457 props:List Int):(Int × (List Int) × (List Int))→St
 | (v60,seen,values)=>⟨[(6,.ptr 384 1 0 0),(9,.ptr 576 1 0 0),(10,.ref 3458 1 0 props.length),(11,.ref 767 1 0 seen.length),(12,.ref 831 1 0 values.length),(58,.sl (ab eI v58)),(59,.lit (.int .i64 v59)),(60,.lit (.int .i64 v60))],[(384,1,.var [.lit (.int .i64 0),.lit (.slice none 0 0),.lit (.slice none 0 0)]),(576,1,.var [.lit (.int .i64 next_0),.ref 3456 1 0 h3456.length,.ref 3457 1 0 h3457.length]),(3456,1,.row true (ab eI h3456)),(3457,1,.row true (ab eI h3457)),(3458,1,.row true (ab eI props)),(767,1,.row true (ab eI seen)),(831,1,.row true (ab eI values))],2⟩
@[go_sem] def hi247_4:DT:=.i2 0 (.i2 1 (.i1 3 (.i1 4 (.i0 2 [3,4] (.i2 5 (.i2 6 .nil))))))
@[go_sem] def hi247_1:DT:=.r2 0 8 (.i1 9 (.i1 10 (.i0 8 [9,10] (.r2 11 9 .nil))))
def AQ:Hint where
 acts:=fun _=>[]
 draws:=fun
  | 1=>⟨hi247_1,[[],[0],[],[2],[0,1,2,3],.range 5,.range 6,.range 6,.range 8,.range 6,[0,1,2,3,4,5,9],.range 11,.range 12,.range 13,.range 14,.range 15,.range 16,.range 17,.range 18,.range 19],.range 20⟩
  | 4=>⟨hi247_4,[[],[],[0,1],[],[3],.range 5,.range 6],.range 7⟩
  | _=>⟨.nil,[],[]⟩
theorem Kx (i:Nat):AQ.acts i=[]:=rfl
attribute[go_sem] Kx ntmps247 results247
@[go_sem] theorem WL:(AQ.draws 1).order=hi247_1:=rfl
@[go_sem] theorem WM:(AQ.draws 4).order=hi247_4:=rfl
instance k247 {s:GShow} {v1:GState} {e:GEntry}:Ctr (pt s v1 e) (fun (res:GState × Bool)=>ai prog 247 [.agg (GShow.encS s),.agg (GState.encS v1),.agg (GEntry.encS e)] [] (.tup [.agg [.lit (.int .i64 res.1.now),.ref 20000 1 0 res.1.times.length,.ref 20001 1 0 res.1.values.length],.lit (.bool res.2)]) [(20000,1,.row true (ab eI res.1.times)),(20001,1,.row true (ab eI res.1.values))]):=⟨by
 intro res h0
 refine ao (ra:=[.homeCell 384 1,.homeCell 384 2]) (md:=mdT) hT (hi:=AQ) func247 rfl rfl (by decide +kernel) (by simp) ?_
 unfold pt at h0
 obtain⟨_,h0⟩|⟨_,h0⟩:=itP h0
 ·obtain⟨r01,g0,h0⟩:=ae h0
  simp(config:=cS)only[go_sem, *]
  have g0:=ctr g0
  refine af g0 ?_
  obtain⟨r02,g0,h0⟩:=ae h0
  simp(config:=cS)only[go_sem, *]
  have g0:=ctr g0
  refine af g0 ?_
  obtain⟨_,h0⟩|⟨_,h0⟩:=itB h0
  ·obtain⟨r03,g0,h0⟩:=ae h0
   simp(config:=cS)only[go_sem, *]
   have g0:=ctr g0
   refine af g0 ?_
   obtain⟨_,h0⟩|⟨_,h0⟩:=itB h0
   ·obtain⟨r04,g0,h0⟩:=ae h0
    simp(config:=cS)only[go_sem, *]
    have g0:=ctr g0
    refine af g0 ?_
    obtain⟨r05,g0,h0⟩:=ae h0
    simp(config:=cS)only[go_sem, *]
    have g0:=ctr g0
    refine af g0 ?_
    obtain⟨r06,g0,h0⟩:=ae h0
    simp(config:=cS)only[go_sem, *]
    have g0:=ctr g0
    refine af g0 ?_
    obtain⟨_,h0⟩|⟨_,h0⟩:=itB h0
    ·obtain⟨r07,g0,h0⟩:=ae h0
     simp(config:=cS)only[go_sem, *]
     have g0:=ctr g0
     refine af g0 ?_
     obtain⟨q13,l0,h0⟩:=ae h0
     simp(config:=cS)only[go_sem, *]
     refine aj (m1:=.mk) (m2:=.mk) [.home 11,.home 12,.nf [6,9,10,11,12,58,59,60] [384,576,3456,3457,3458,767,831]] (sF e.values (e.values.length:Int) r07.1.now r07.1.times r07.1.values r07.2) l0 ?_ ?_
     ·simp(config:=cS)only[go_sem, *]
     have k0:=h0
     clear h0 l0
     intro _ s0 _ h0 gb0
     obtain⟨v60_1,seen_1,values_1⟩:=s0
     unfold pV at h0
     try dsimp only at h0
     exact run
    exact run
   exact run
  exact run
 exact run⟩
@[go_sem] def ql (v17:List GEntry)(v18:Int)(s_0:List ag)(s_1:List GTie)(s_2:Int):(Int × Int × (List Int) × (List Int))→St
 | (v19,v6_0,h1024,h1025)=>⟨[(2,.ptr 128 1 0 0),(4,.ptr 256 1 0 0),(6,.ptr 384 1 0 0),(17,.sl (ab GEntry.encS v17)),(18,.lit (.int .i64 v18)),(19,.lit (.int .i64 v19))],[(128,1,.var [.sl (ab ag.encS s_0),.sl (ab GTie.enc s_1),.lit (.int .i64 s_2)]),(256,1,.var [.lit (.int .i64 0),.lit (.slice none 0 0),.lit (.slice none 0 0)]),(384,1,.var [.lit (.int .i64 v6_0),.ref 1024 1 0 h1024.length,.ref 1025 1 0 h1025.length]),(1024,1,.row true (ab eI h1024)),(1025,1,.row true (ab eI h1025))],2⟩
instance k184 {s:GShow} {log:List GEntry}:Ctr (eF s log) (fun (res:GState × Bool)=>ai prog 184 [.agg (GShow.encS s),.sl (ab GEntry.encS log)] [] (.tup [.agg [.lit (.int .i64 res.1.now),.ref 20000 1 0 res.1.times.length,.ref 20001 1 0 res.1.values.length],.lit (.bool res.2)]) [(20000,1,.row true (ab eI res.1.times)),(20001,1,.row true (ab eI res.1.values))]):=⟨by
 intro res h0
 refine ao (ra:=[.homeCell 256 1,.homeCell 256 2]) (md:=mdT) hT (hi:=hi00) func184 rfl rfl (by decide +kernel) (by simp) ?_
 unfold eF at h0
 obtain⟨r01,g0,h0⟩:=ae h0
 simp(config:=cS)only[go_sem, *]
 have g0:=ctr g0
 refine af g0 ?_
 obtain⟨_,h0⟩|⟨_,h0⟩:=itB h0
 ·obtain⟨r02,g0,h0⟩:=ae h0
  simp(config:=cS)only[go_sem, *]
  have g0:=ctr g0
  refine af g0 ?_
  obtain⟨q05,l0,h0⟩:=ae h0
  simp(config:=cS)only[go_sem, *]
  refine aj (m1:=.mk) (m2:=.mk) [.nfp [2,4,6,17,18,19] [(128,128),(256,256),(384,384),(1728,1024),(1024,1024),(1729,1025),(1025,1025)] []] (ql log (log.length:Int) s.nodes s.ties s.horizon) l0 ?_ ?_
  ·simp(config:=cS)only[go_sem, *]
  have k0:=h0
  clear h0 l0
  intro _ s0 _ h0 gb0
  obtain⟨v19_1,v6_0_1,h1024_1,h1025_1⟩:=s0
  unfold lL at h0
  try dsimp only at h0
  exact run
 exact run⟩
instance k218 {a:GState} {b:GState}:Ctr (jE a b) (fun (res:Bool)=>ai prog 218 [.agg (GState.encS a),.agg (GState.encS b)] [] (.lit (.bool res)) []):=⟨by
 intro res h0
 refine co (hi:=hi00) func218 rfl rfl ?_
 unfold jE at h0
 exact run⟩
instance k152 {d:GDesk}:Ctr (ch d) (fun (res:Bool)=>ai prog 152 [.agg (GDesk.encS d)] [] (.lit (.bool res)) []):=⟨by
 intro res h0
 refine co (hi:=hi00) func152 rfl rfl ?_
 unfold ch at h0
 exact run⟩
theorem rM {d:GDesk}{res:Bool}(h0:ch d=some res):ai prog 152 [.agg (GDesk.encS d)] [] (.lit (.bool res)) []:=by have q:=ctr h0;exact q
instance k153 {v:Int}:Ctr (dn v) (fun (res:Bool)=>ai prog 153 [.lit (.int .i64 v)] [] (.lit (.bool res)) []):=⟨by
 intro res h0
 refine co (hi:=hi00) func153 rfl rfl ?_
 unfold dn at h0
 exact run⟩
@[go_sem] def hi221_1:DT:=.r2 0 14 .nil
def DY:Hint where
 acts:=fun _=>[]
 draws:=fun
  | 1=>⟨hi221_1,[[],[0],[],[2],[0,1,2,3],.range 5,[],[6],[],[8],[6,7,8,9],[6,7,8,9,10],.range 6,.range 13],[0,1,2,3,4,5,7,8,9,10,11,12,6,13]⟩
  | _=>⟨.nil,[],[]⟩
theorem Ky (i:Nat):DY.acts i=[]:=rfl
attribute[go_sem] Ky ntmps221 results221
@[go_sem] theorem WN:(DY.draws 1).order=hi221_1:=rfl
instance k221 {s:GShow} {v1:GState} {t:GTie}:Ctr (iB s v1 t) (fun (res:Bool)=>ai prog 221 [.agg (GShow.encS s),.agg (GState.encS v1),.agg (GTie.enc t)] [] (.lit (.bool res)) []):=⟨by
 intro res h0
 refine co (hi:=DY) func221 rfl rfl ?_
 unfold iB at h0
 exact run⟩
instance k220 {t:GTie} {s:GShow} {v2:GState}:Ctr (iC t s v2) (fun (res:Bool)=>ai prog 220 [.agg (GTie.enc t),.loc [.sl (ab ag.encS s.nodes),.sl (ab GTie.enc s.ties),.lit (.int .i64 s.horizon)],.loc [.lit (.int .i64 v2.now),.sl (ab eI v2.times),.sl (ab eI v2.values)]] [] (.lit (.bool res)) []):=⟨by
 intro res h0
 refine co (hi:=hi00) func220 rfl rfl ?_
 unfold iC at h0
 exact run⟩
@[go_sem] def ru (v8:List Int)(v9:Int)(s_0:List ag)(s_1:List GTie)(s_2 v3_0:Int)(v3_2:List Int)(v10:Int):St:=⟨[(2,.ptr 128 1 0 0),(3,.ptr 192 1 0 0),(8,.sl (ab eI v8)),(9,.lit (.int .i64 v9)),(10,.lit (.int .i64 v10))],[(128,1,.var [.sl (ab ag.encS s_0),.sl (ab GTie.enc s_1),.lit (.int .i64 s_2)]),(192,1,.var [.lit (.int .i64 v3_0),.sl (ab eI v8),.sl (ab eI v3_2)])],2⟩
instance k155 {s:GShow} {v1:GState}:Ctr (dD s v1) (fun (res:Bool)=>ai prog 155 [.agg (GShow.encS s),.agg (GState.encS v1)] [] (.lit (.bool res)) []):=⟨by
 intro res h0
 refine co (hi:=hi00) func155 rfl rfl ?_
 unfold dD at h0
 obtain⟨q03,l0,h0⟩:=ae h0
 simp(config:=cS)only[go_sem, *]
 refine aj (m1:=.mk) (m2:=.mk) [.nf [2,3,8,9,10] [128,192]] (ru v1.times (v1.times.length:Int) s.nodes s.ties s.horizon v1.now v1.values) l0 ?_ ?_
 ·simp(config:=cS)only[go_sem, *]
 have k0:=h0
 clear h0 l0
 intro _ v10_1 _ h0 gb0
 unfold nZ at h0
 try dsimp only at h0
 exact run⟩
instance k154 {s:GShow} {v1:GState}:Ctr (dR s v1) (fun (res:Bool)=>ai prog 154 [.agg (GShow.encS s),.agg (GState.encS v1)] [] (.lit (.bool res)) []):=⟨by
 intro res h0
 refine co (hi:=hi00) func154 rfl rfl ?_
 unfold dR at h0
 obtain⟨r01,g0,h0⟩:=ae h0
 simp(config:=cS)only[go_sem, *]
 refine af (hZ (by exact fun _ _ hr=>by have q:=ctr hr;exact q) (by refine⟨fun _=>?_,fun _=>?_⟩ <;> simp only[go_sem]) (fun _=>rfl) rfl g0) ?_
 exact run⟩
instance k158 {s:GShow}:Ctr (dE s) (fun (res:GShow × (List (ByteArray × Bool)))=>ai prog 158 [.agg (GShow.encS s)] [] (.ptr 20000 1 0 0) [(20000,1,.var [.sl (ab ag.encS res.1.nodes),.sl (ab GTie.enc res.1.ties),.lit (.int .i64 res.1.horizon),.mp 20001 1]),(20001,1,.map (eM res.2))]):=⟨by
 intro res h0
 refine co (hi:=hi00) func158 rfl rfl ?_
 unfold dE at h0
 exact run⟩
@[go_sem] def vG (v13:List Int)(v14 v1_0:Int)(v1_2:List Int):(Int × (List Int))→St
 | (v15,out)=>⟨[(1,.ptr 64 1 0 0),(3,.ref 704 1 0 out.length),(13,.sl (ab eI v13)),(14,.lit (.int .i64 v14)),(15,.lit (.int .i64 v15))],[(64,1,.var [.lit (.int .i64 v1_0),.sl (ab eI v13),.sl (ab eI v1_2)]),(704,1,.row true (ab (eK .u8) out))],2⟩
@[go_sem] def vH (v27:List Int)(v28:Int):(Int × (List Int))→St
 | (v29,out)=>⟨[(3,.ref 704 1 0 out.length),(27,.sl (ab eI v27)),(28,.lit (.int .i64 v28)),(29,.lit (.int .i64 v29))],[(704,1,.row true (ab (eK .u8) out))],2⟩
instance k228 {v0:GState}:Ctr (ry v0) (fun (res:ByteArray)=>ai prog 228 [.agg (GState.encS v0)] [] (.lit (.string res)) []):=⟨by
 intro res h0
 refine co (hi:=hi00) func228 rfl rfl ?_
 unfold ry at h0
 obtain⟨q04,l0,h0⟩:=ae h0
 simp(config:=cS)only[go_sem, *]
 refine aj (m1:=.mk) (m2:=.mk) [.nf [1,3,13,14,15] [64,704]] (vG v0.times (v0.times.length:Int) v0.now v0.values) l0 ?_ ?_
 ·simp(config:=cS)only[go_sem, *]
 have k0:=h0
 clear h0 l0
 intro _ s0 _ h0 gb0
 obtain⟨v15_1,out_1⟩:=s0
 unfold rN at h0
 try dsimp only at h0
 obtain⟨_,h0⟩|⟨_,h0⟩:=itP h0
 ·exact run
 cases h0
 obtain rfl:=(aG gb0).symm
 clear gb0
 have h0:=k0
 clear k0
 try dsimp only at h0
 obtain⟨q03,l0,h0⟩:=ae h0
 simp(config:=cS)only[go_sem, *]
 refine aj (m1:=.mk) (m2:=.mk) [.nf [3,27,28,29] [704]] (vH v0.values (v0.values.length:Int)) l0 ?_ ?_
 ·simp(config:=cS)only[go_sem, *]
 have k0:=h0
 clear h0 l0
 intro _ s0 _ h0 gb0
 obtain⟨v29_2,out_2⟩:=s0
 unfold rO at h0
 try dsimp only at h0
 exact run⟩
@[go_sem] def mJ (props:List Int)(v10 v11:Int):St:=⟨[(0,.sl (ab eI props)),(9,.sl (ab eI props)),(10,.lit (.int .i64 v10)),(11,.lit (.int .i64 v11))],[],2⟩
@[go_sem] def mK (props:List Int)(n v44:Int)(out:List (List Int)):(Int × (List Int))→St
 | (v45,values)=>⟨[(0,.sl (ab eI props)),(5,.ref 383 1 0 out.length),(6,.lit (.int .i64 n)),(7,.ref 511 1 0 values.length),(44,.lit (.int .i64 v44)),(45,.lit (.int .i64 v45))],[(383,1,.row true (ab (eLO eI) out)),(511,1,.row true (ab eI values))],2⟩
@[go_sem] def mL (props:List Int):(Int × (List (List Int)))→St
 | (n,out)=>⟨[(0,.sl (ab eI props)),(5,.ref 383 1 0 out.length),(6,.lit (.int .i64 n))],[(383,1,.row true (ab (eLO eI) out))],2⟩
instance k168 {props:List Int}:Ctr (fU props) (fun (res:List (List Int))=>ai prog 168 [.sl (ab eI props)] [] (.sl (ab (eLS eI) res)) []):=⟨by
 intro res h0
 refine ao (ra:=[.freeze [383],.sliT 2,.nilSl 2]) (md:=mdT) hT (hi:=hi00) func168 rfl rfl (by decide +kernel) (by simp) ?_
 unfold fU at h0
 obtain⟨q05,l0,h0⟩:=ae h0
 simp(config:=cS)only[go_sem, *]
 refine aj (m1:=.mk) (m2:=.mk) [.nf [0,9,10,11] []] (mJ props (props.length:Int)) l0 ?_ ?_
 ·simp(config:=cS)only[go_sem, *]
 have k0:=h0
 clear h0 l0
 intro _ v11_1 _ h0 gb0
 unfold iD at h0
 try dsimp only at h0
 obtain⟨_,h0⟩|⟨_,h0⟩:=itP h0
 ·exact run
 cases h0
 obtain rfl:=(aG gb0).symm
 clear gb0
 have h0:=k0
 clear k0
 try dsimp only at h0
 obtain⟨q04,l0,h0⟩:=ae h0
 simp(config:=cS)only[go_sem, *]
 refine aj (m1:=.mk) (m2:=.mk) [.home 5,.nf [0,5,6] [383]] (mL props) l0 ?_ ?_
 ·simp(config:=cS)only[go_sem, *]
 have k0:=h0
 clear h0 l0
 intro _ s0 _ h0 gb0
 obtain⟨n_2,out_2⟩:=s0
 unfold iF at h0
 try dsimp only at h0
 obtain⟨_,h0⟩:=ckN h0
 obtain⟨_,h0⟩|⟨_,h0⟩:=itP h0
 ·obtain⟨q03,l0,h0⟩:=ae h0
  simp(config:=cS)only[go_sem, *]
  refine aj (m1:=.mk) (m2:=.mk) [.home 7,.nf [0,5,6,7,44,45] [383,511]] (mK props n_2 (props.length:Int) out_2) l0 ?_ ?_
  ·simp(config:=cS)only[go_sem, *]
  have k0:=h0
  clear h0 l0
  intro _ s0 _ h0 gb0
  obtain⟨v45_3,values_3⟩:=s0
  unfold iE at h0
  try dsimp only at h0
  exact run
 exact run⟩
@[go_sem] def iu (v22:List (List Int))(v23 next_0:Int)(h1152 h1153 props:List Int)(g_0:List ag)(g_1:List GTie)(g_2:Int):(Int × (List (ByteArray × Bool)))→St
 | (v24,h10001)=>⟨[(0,.ptr 10000 0 0 0),(7,.ptr 448 1 0 0),(8,.ref 1154 1 0 props.length),(22,.sl (ab (eLS eI) v22)),(23,.lit (.int .i64 v23)),(24,.lit (.int .i64 v24))],[(10000,0,.var [.sl (ab ag.encS g_0),.sl (ab GTie.enc g_1),.lit (.int .i64 g_2),.mp 10001 0]),(10001,0,.map (eM h10001)),(448,1,.var [.lit (.int .i64 next_0),.ref 1152 1 0 h1152.length,.ref 1153 1 0 h1153.length]),(1152,1,.row true (ab eI h1152)),(1153,1,.row true (ab eI h1153)),(1154,1,.tree (ab eI props))],2⟩
@[go_sem] def hi107_1:DT:=.i2 0 (.i1 1 (.i1 2 (.i1 3 (.i1 4 (.i2 5 (.fork (.i2 6 (.i2 7 (.i2 8 (.i2 9 (.i0 10 [1,2,3,4] (.i2 11 (.i2 12 .nil))))))) (.i0 10 [1,2,3,4] (.i2 6 (.i2 7 (.i2 8 (.i2 9 (.i2 11 (.i2 12 .nil)))))))))))))
def DZ:Hint where
 acts:=fun _=>[]
 draws:=fun
  | 1=>⟨hi107_1,[[],[0],[0,1],[0,1,2],[],[],.range 6,.range 7,.range 8,.range 8,[],[0,1,2,3,4,5,6,7,8,10],.range 12],[0,1,2,3,4,5,6,7,8,11,9,10,12]⟩
  | _=>⟨.nil,[],[]⟩
theorem Kz (i:Nat):DZ.acts i=[]:=rfl
attribute[go_sem] Kz ntmps107 results107
@[go_sem] theorem WO:(DZ.draws 1).order=hi107_1:=rfl
theorem li {rec:GShow→(List (ByteArray × Bool))→GState→Option (Bool × (List (ByteArray × Bool)))}(hrec:∀ {g_s:GShow} {g_known:List (ByteArray × Bool)} {v1:GState} {res:Bool × (List (ByteArray × Bool))},rec g_s g_known v1=some res→ai prog 169 [.ptr 10000 0 0 0,.agg (GState.encS v1)] [(10000,0,.var [.sl (ab ag.encS g_s.nodes),.sl (ab GTie.enc g_s.ties),.lit (.int .i64 g_s.horizon),.mp 10001 0]),(10001,0,.map (eM g_known))] (.lit (.bool res.1)) [(10000,0,.var [.sl (ab ag.encS g_s.nodes),.sl (ab GTie.enc g_s.ties),.lit (.int .i64 g_s.horizon),.mp 10001 0]),(10001,0,.map (eM res.2))]){g_s:GShow}{g_known:List (ByteArray × Bool)}{v1:GState}{nodes:List Int}{res:Bool × (List (ByteArray × Bool))}(h:ek rec g_s g_known v1 nodes=some res):ai prog 107 [.ptr 10000 0 0 0,.agg (GState.encS v1),.sl (ab eI nodes)] [(10000,0,.var [.sl (ab ag.encS g_s.nodes),.sl (ab GTie.enc g_s.ties),.lit (.int .i64 g_s.horizon),.mp 10001 0]),(10001,0,.map (eM g_known))] (.lit (.bool res.1)) [(10000,0,.var [.sl (ab ag.encS g_s.nodes),.sl (ab GTie.enc g_s.ties),.lit (.int .i64 g_s.horizon),.mp 10001 0]),(10001,0,.map (eM res.2))]:=by
 refine co (hi:=DZ) func107 rfl rfl ?_
 unfold ek at h
 try simp(config:=cS)only[go_sem]
 refine bC ?_ ?_
 ·obtain⟨r01,g1,h⟩:=ae h
  simp(config:=cS)only[go_sem]
  have g1:=ctr g1
  refine af g1 ?_
  obtain⟨r02,g2,h⟩:=ae h
  simp(config:=cS)only[go_sem]
  have g2:=ctr g2
  refine af g2 ?_
  obtain⟨q06,l3,h⟩:=ae h
  simp(config:=cS)only[go_sem]
  refine aj (m1:=.mk) (m2:=.mk) [.nf [0,7,8,22,23,24] [10000,10001,448,1152,1153,1154]] (iu r02 (r02.length:Int) r01.1.now r01.1.times r01.1.values r01.2 g_s.nodes g_s.ties g_s.horizon) l3 ?_ ?_
  ·simp(config:=cS)only[go_sem]
  intro nb4 sb4 bb4 b4 gb4
  obtain⟨v24_1,h10001_1⟩:=sb4
  unfold fV at b4
  try dsimp only at b4
  obtain⟨h5,b4⟩|⟨h5,b4⟩:=aN b4
  ·obtain⟨x03,g6,b4⟩:=ae b4
   obtain⟨h7,h8,h9⟩:=bz g6
   obtain⟨r04,g10,b4⟩:=ae b4
   simp(config:=cS)only[go_sem,eqT h5,h7,h8,h9]
   have g10:=ctr g10
   refine af g10 ?_
   obtain⟨r05,g11,b4⟩:=ae b4
   simp(config:=cS)only[go_sem,eqT h5,h7,h8,h9]
   refine af (hrec g11) ?_
   obtain⟨h12,b4⟩|⟨h12,b4⟩:=aN b4
   ·cases b4
    simp(config:=cS)only[go_sem,eqT h5,h7,h8,h9,eZt h12]
    refine cy gb4 ?_
    simp(config:=cS)only[go_sem,eqT h5,h7,h8,h9,eZt h12]
   cases b4
   obtain rfl:=(aG gb4).symm
   try dsimp only at h
   cases h
   simp(config:=cS)only[go_sem,eqT h5,h7,h8,h9,eZf h12]
  cases b4
  obtain rfl:=(aG gb4).symm
  try dsimp only at h
  cases h
  simp(config:=cS)only[go_sem,eqF h5]
 obtain⟨r07,g15,h⟩:=ae h
 simp(config:=cS)only[go_sem]
 have g15:=ctr g15
 refine af g15 ?_
 obtain⟨r08,g16,h⟩:=ae h
 simp(config:=cS)only[go_sem]
 have g16:=ctr g16
 refine af g16 ?_
 obtain⟨q12,l17,h⟩:=ae h
 simp(config:=cS)only[go_sem]
 refine aj (m1:=.mk) (m2:=.mk) [.nf [0,7,8,22,23,24] [10000,10001,448,1152,1153,1154]] (iu r08 (r08.length:Int) r07.1.now r07.1.times r07.1.values r07.2 g_s.nodes g_s.ties g_s.horizon) l17 ?_ ?_
 ·simp(config:=cS)only[go_sem]
 intro nb18 sb18 bb18 b18 gb18
 obtain⟨v24_2,h10001_2⟩:=sb18
 unfold fV at b18
 try dsimp only at b18
 obtain⟨h19,b18⟩|⟨h19,b18⟩:=aN b18
 ·obtain⟨x09,g20,b18⟩:=ae b18
  obtain⟨h21,h22,h23⟩:=bz g20
  obtain⟨r10,g24,b18⟩:=ae b18
  simp(config:=cS)only[go_sem,eqT h19,h21,h22,h23]
  have g24:=ctr g24
  refine af g24 ?_
  obtain⟨r11,g25,b18⟩:=ae b18
  simp(config:=cS)only[go_sem,eqT h19,h21,h22,h23]
  refine af (hrec g25) ?_
  obtain⟨h26,b18⟩|⟨h26,b18⟩:=aN b18
  ·cases b18
   simp(config:=cS)only[go_sem,eqT h19,h21,h22,h23,eZt h26]
   refine cy gb18 ?_
   simp(config:=cS)only[go_sem,eqT h19,h21,h22,h23,eZt h26]
  cases b18
  obtain rfl:=(aG gb18).symm
  try dsimp only at h
  cases h
  simp(config:=cS)only[go_sem,eqT h19,h21,h22,h23,eZf h26]
 cases b18
 obtain rfl:=(aG gb18).symm
 try dsimp only at h
 cases h
 simp(config:=cS)only[go_sem,eqF h19]
@[go_sem] def pI (v14 v3_0:Int)(v3_1 v3_2:List Int)(v13:List (List Int))(g_0:List ag)(g_1:List GTie)(g_2:Int):(Int × (List (ByteArray × Bool)))→St
 | (v15,h10001)=>⟨[(0,.ptr 10000 0 0 0),(3,.ptr 192 1 0 0),(13,.ref 832 1 0 v13.length),(14,.lit (.int .i64 v14)),(15,.lit (.int .i64 v15))],[(10000,0,.var [.sl (ab ag.encS g_0),.sl (ab GTie.enc g_1),.lit (.int .i64 g_2),.mp 10001 0]),(10001,0,.map (eM h10001)),(192,1,.var [.lit (.int .i64 v3_0),.sl (ab eI v3_1),.sl (ab eI v3_2)]),(832,1,.tree (ab (eLS eI) v13))],2⟩
@[go_sem] def hi101_1:DT:=.r2 0 5 (.i2 7 (.i2 5 (.i2 6 .nil)))
def Ea:Hint where
 acts:=fun _=>[]
 draws:=fun
  | 1=>⟨hi101_1,[[],[0],[0,1],[0,1,2],[],.range 5,.range 6,[]],.range 8⟩
  | _=>⟨.nil,[],[]⟩
@[go_sem] theorem XJ (i:Nat):Ea.acts i=[]:=rfl
@[go_sem] theorem WP:(Ea.draws 1).order=hi101_1:=rfl
theorem lF {rec:GShow→(List (ByteArray × Bool))→GState→Option (Bool × (List (ByteArray × Bool)))}(hrec:∀ {g_s:GShow} {g_known:List (ByteArray × Bool)} {v1:GState} {res:Bool × (List (ByteArray × Bool))},rec g_s g_known v1=some res→ai prog 169 [.ptr 10000 0 0 0,.agg (GState.encS v1)] [(10000,0,.var [.sl (ab ag.encS g_s.nodes),.sl (ab GTie.enc g_s.ties),.lit (.int .i64 g_s.horizon),.mp 10001 0]),(10001,0,.map (eM g_known))] (.lit (.bool res.1)) [(10000,0,.var [.sl (ab ag.encS g_s.nodes),.sl (ab GTie.enc g_s.ties),.lit (.int .i64 g_s.horizon),.mp 10001 0]),(10001,0,.map (eM res.2))]){g_s:GShow}{g_known:List (ByteArray × Bool)}{v1:GState}{res:(List Int) × Bool × (List (ByteArray × Bool))}(h:eP rec g_s g_known v1=some res):ai prog 101 [.ptr 10000 0 0 0,.agg (GState.encS v1)] [(10000,0,.var [.sl (ab ag.encS g_s.nodes),.sl (ab GTie.enc g_s.ties),.lit (.int .i64 g_s.horizon),.mp 10001 0]),(10001,0,.map (eM g_known))] (.tup [.sl (ab eI res.1),.lit (.bool res.2.1)]) [(10000,0,.var [.sl (ab ag.encS g_s.nodes),.sl (ab GTie.enc g_s.ties),.lit (.int .i64 g_s.horizon),.mp 10001 0]),(10001,0,.map (eM res.2.2))]:=by
 refine ao (ra:=[.nilSl 4]) (md:=mdT) hT (hi:=Ea) func101 rfl rfl (by decide +kernel) (by simp) ?_
 unfold eP at h
 obtain⟨r01,g1,h⟩:=ae h
 simp(config:=cS)only[go_sem]
 have g1:=ctr g1
 refine af g1 ?_
 obtain⟨q04,l2,h⟩:=ae h
 simp(config:=cS)only[go_sem]
 refine aj (m1:=.mk) (m2:=.mk) [.freeze [832],.nf [0,3,13,14,15] [10000,10001,192,832]] (pI (r01.length:Int) v1.now v1.times v1.values r01 g_s.nodes g_s.ties g_s.horizon) l2 ?_ ?_
 ·simp(config:=cS)only[go_sem]
 intro nb3 sb3 bb3 b3 gb3
 obtain⟨v15_1,h10001_1⟩:=sb3
 unfold lm at b3
 try dsimp only at b3
 obtain⟨h4,b3⟩|⟨h4,b3⟩:=aN b3
 ·obtain⟨x02,g5,b3⟩:=ae b3
  obtain⟨h6,h7,h8⟩:=bz g5
  obtain⟨r03,g9,b3⟩:=ae b3
  simp(config:=cS)only[go_sem,eqT h4,h6,h7,h8]
  refine af (li @hrec g9) ?_
  obtain⟨h10,b3⟩|⟨h10,b3⟩:=aN b3
  ·cases b3
   obtain rfl:=(aG gb3).symm
   try dsimp only at h
   cases h
   simp(config:=cS)only[go_sem,eqT h4,h6,h7,h8,eZt h10]
  cases b3
  simp(config:=cS)only[go_sem,eqT h4,h6,h7,h8,eZf h10]
  refine cy gb3 ?_
  simp(config:=cS)only[go_sem,eqT h4,h6,h7,h8,eZf h10]
 cases b3
 obtain rfl:=(aG gb3).symm
 try dsimp only at h
 cases h
 simp(config:=cS)only[go_sem,eqF h4]
@[go_sem] def qm (k:ByteArray)(v45:List (List Int))(v46 v3_0:Int)(v3_1 v3_2:List Int)(g_0:List ag)(g_1:List GTie)(g_2:Int):(Int × (List (ByteArray × Bool)))→St
 | (v47,h10001)=>⟨[(0,.ptr 10000 0 0 0),(3,.ptr 192 1 0 0),(5,.lit (.string k)),(8,.lit (.bool true)),(45,.sl (ab (eLS eI) v45)),(46,.lit (.int .i64 v46)),(47,.lit (.int .i64 v47))],[(10000,0,.var [.sl (ab ag.encS g_0),.sl (ab GTie.enc g_1),.lit (.int .i64 g_2),.mp 10001 0]),(10001,0,.map (eM h10001)),(192,1,.var [.lit (.int .i64 v3_0),.sl (ab eI v3_1),.sl (ab eI v3_2)])],2⟩
@[go_sem] def hi169_13:DT:=.r2 0 14 .nil
@[go_sem] def hi169_10:DT:=.r2 0 5 (.i2 7 (.i2 5 (.i2 6 .nil)))
@[go_sem] def hi169_3:DT:=.r2 0 7 .nil
@[go_sem] def hi169_1:DT:=.r2 0 7 .nil
def uc:Hint where
 acts:=fun _=>[]
 draws:=fun
  | 1=>⟨hi169_1,[[],[0],[0,1],[0,1,2],[],.range 5,.range 6],.range 7⟩
  | 3=>⟨hi169_3,[[],[0],[0,1],[0,1,2],[],.range 5,.range 6],.range 7⟩
  | 10=>⟨hi169_10,[[],[0],[0,1],[0,1,2],[],.range 5,.range 6,[]],.range 8⟩
  | 13=>⟨hi169_13,[[],[],[1],[1,2],[1,2,3],[],[],[1,2,3,4,5,6],.range 8,.range 9,.range 10,.range 10,.range 11,.range 13],[0,1,2,3,4,5,6,7,8,9,10,12,11,13]⟩
  | _=>⟨.nil,[],[]⟩
theorem KA (i:Nat):uc.acts i=[]:=rfl
attribute[go_sem] KA ntmps169 results169
@[go_sem] theorem WQ:(uc.draws 1).order=hi169_1:=rfl
@[go_sem] theorem WR:(uc.draws 3).order=hi169_3:=rfl
@[go_sem] theorem VE:(uc.draws 10).order=hi169_10:=rfl
@[go_sem] theorem VF:(uc.draws 13).order=hi169_13:=rfl
theorem sG {rec:GShow→(List (ByteArray × Bool))→GState→Option (Bool × (List (ByteArray × Bool)))}(hrec:∀ {g_s:GShow} {g_known:List (ByteArray × Bool)} {v1:GState} {res:Bool × (List (ByteArray × Bool))},rec g_s g_known v1=some res→ai prog 169 [.ptr 10000 0 0 0,.agg (GState.encS v1)] [(10000,0,.var [.sl (ab ag.encS g_s.nodes),.sl (ab GTie.enc g_s.ties),.lit (.int .i64 g_s.horizon),.mp 10001 0]),(10001,0,.map (eM g_known))] (.lit (.bool res.1)) [(10000,0,.var [.sl (ab ag.encS g_s.nodes),.sl (ab GTie.enc g_s.ties),.lit (.int .i64 g_s.horizon),.mp 10001 0]),(10001,0,.map (eM res.2))]){g_s:GShow}{g_known:List (ByteArray × Bool)}{v1:GState}{res:Bool × (List (ByteArray × Bool))}(h:iG rec g_s g_known v1=some res):ai prog 169 [.ptr 10000 0 0 0,.agg (GState.encS v1)] [(10000,0,.var [.sl (ab ag.encS g_s.nodes),.sl (ab GTie.enc g_s.ties),.lit (.int .i64 g_s.horizon),.mp 10001 0]),(10001,0,.map (eM g_known))] (.lit (.bool res.1)) [(10000,0,.var [.sl (ab ag.encS g_s.nodes),.sl (ab GTie.enc g_s.ties),.lit (.int .i64 g_s.horizon),.mp 10001 0]),(10001,0,.map (eM res.2))]:=by
 refine co (hi:=uc) func169 rfl rfl ?_
 unfold iG at h
 obtain⟨r01,g1,h⟩:=ae h
 simp(config:=cS)only[go_sem]
 have g1:=ctr g1
 refine af g1 ?_
 obtain⟨h2,h⟩|⟨h2,h⟩:=aN h
 ·cases h
  simp(config:=cS)only[go_sem,eZt h2]
 obtain⟨r02,g3,h⟩:=ae h
 simp(config:=cS)only[go_sem,eZf h2]
 have g3:=ctr g3
 refine af g3 ?_
 obtain⟨h4,h⟩|⟨h4,h⟩:=aN h
 ·cases h
  simp(config:=cS)only[go_sem,eZf h2,eZt h4]
 obtain⟨r03,g5,h⟩:=ae h
 simp(config:=cS)only[go_sem,eZf h2,eZf h4]
 have g5:=ctr g5
 refine af g5 ?_
 obtain⟨x04,g6,h8⟩|⟨g7,h8⟩:=xe h
 ·cases h8
  simp(config:=cS)only[go_sem,eZf h2,eZf h4,g6]
 obtain⟨r05,g9,h8⟩:=ae h8
 simp(config:=cS)only[go_sem,eZf h2,eZf h4,g7]
 have g9:=ctr g9
 refine af g9 ?_
 obtain⟨q09,l10,h8⟩:=ae h8
 simp(config:=cS)only[go_sem,eZf h2,eZf h4,g7]
 refine aj (m1:=.mk) (m2:=.mk) [.nf [0,3,5,8,45,46,47] [10000,10001,192]] (qm r03 r05 (r05.length:Int) v1.now v1.times v1.values g_s.nodes g_s.ties g_s.horizon) l10 ?_ ?_
 ·simp(config:=cS)only[go_sem,eZf h2,eZf h4,g7]
 intro nb11 sb11 bb11 b11 gb11
 obtain⟨v47_1,h10001_1⟩:=sb11
 unfold lM at b11
 try dsimp only at b11
 obtain⟨h12,b11⟩|⟨h12,b11⟩:=aN b11
 ·obtain⟨x06,g13,b11⟩:=ae b11
  obtain⟨h14,h15,h16⟩:=bz g13
  obtain⟨r07,g17,b11⟩:=ae b11
  simp(config:=cS)only[go_sem,eZf h2,eZf h4,g7,eqT h12,h14,h15,h16]
  have g17:=ctr g17
  refine af g17 ?_
  obtain⟨r08,g18,b11⟩:=ae b11
  simp(config:=cS)only[go_sem,eZf h2,eZf h4,g7,eqT h12,h14,h15,h16]
  refine af (lF @hrec g18) ?_
  obtain⟨h19,b11⟩|⟨h19,b11⟩:=aN b11
  ·cases b11
   simp(config:=cS)only[go_sem,eZf h2,eZf h4,g7,eqT h12,h14,h15,h16,eZt h19]
   refine cy gb11 ?_
   simp(config:=cS)only[go_sem,eZf h2,eZf h4,g7,eqT h12,h14,h15,h16,eZt h19]
  cases b11
  obtain rfl:=(aG gb11).symm
  try dsimp only at h8
  cases h8
  simp(config:=cS)only[go_sem,eZf h2,eZf h4,g7,eqT h12,h14,h15,h16,eZf h19]
 cases b11
 obtain rfl:=(aG gb11).symm
 try dsimp only at h8
 cases h8
 simp(config:=cS)only[go_sem,eZf h2,eZf h4,g7,eqF h12]
theorem qF (fu:Nat):∀ {g_s:GShow} {g_known:List (ByteArray × Bool)} {v1:GState} {res:Bool × (List (ByteArray × Bool))},fW fu g_s g_known v1=some res→ai prog 169 [.ptr 10000 0 0 0,.agg (GState.encS v1)] [(10000,0,.var [.sl (ab ag.encS g_s.nodes),.sl (ab GTie.enc g_s.ties),.lit (.int .i64 g_s.horizon),.mp 10001 0]),(10001,0,.map (eM g_known))] (.lit (.bool res.1)) [(10000,0,.var [.sl (ab ag.encS g_s.nodes),.sl (ab GTie.enc g_s.ties),.lit (.int .i64 g_s.horizon),.mp 10001 0]),(10001,0,.map (eM res.2))]:=by
 induction fu with
 | zero=>intro _ _ _ _ h;cases h
 | succ fu ih=>intro _ _ _ _ h;exact sG (@ih) h
theorem kh {g_s:GShow}{g_known:List (ByteArray × Bool)}{v1:GState}{res:Bool × (List (ByteArray × Bool))}(h:gn g_s g_known v1=some res):ai prog 169 [.ptr 10000 0 0 0,.agg (GState.encS v1)] [(10000,0,.var [.sl (ab ag.encS g_s.nodes),.sl (ab GTie.enc g_s.ties),.lit (.int .i64 g_s.horizon),.mp 10001 0]),(10001,0,.map (eM g_known))] (.lit (.bool res.1)) [(10000,0,.var [.sl (ab ag.encS g_s.nodes),.sl (ab GTie.enc g_s.ties),.lit (.int .i64 g_s.horizon),.mp 10001 0]),(10001,0,.map (eM res.2))]:=qF 40 h
theorem mM {g_s:GShow}{g_known:List (ByteArray × Bool)}{v1:GState}{nodes:List Int}{res:Bool × (List (ByteArray × Bool))}(h:iH g_s g_known v1 nodes=some res):ai prog 107 [.ptr 10000 0 0 0,.agg (GState.encS v1),.sl (ab eI nodes)] [(10000,0,.var [.sl (ab ag.encS g_s.nodes),.sl (ab GTie.enc g_s.ties),.lit (.int .i64 g_s.horizon),.mp 10001 0]),(10001,0,.map (eM g_known))] (.lit (.bool res.1)) [(10000,0,.var [.sl (ab ag.encS g_s.nodes),.sl (ab GTie.enc g_s.ties),.lit (.int .i64 g_s.horizon),.mp 10001 0]),(10001,0,.map (eM res.2))]:=li (@kh) h
theorem nO {g_s:GShow}{g_known:List (ByteArray × Bool)}{v1:GState}{res:(List Int) × Bool × (List (ByteArray × Bool))}(h:jF g_s g_known v1=some res):ai prog 101 [.ptr 10000 0 0 0,.agg (GState.encS v1)] [(10000,0,.var [.sl (ab ag.encS g_s.nodes),.sl (ab GTie.enc g_s.ties),.lit (.int .i64 g_s.horizon),.mp 10001 0]),(10001,0,.map (eM g_known))] (.tup [.sl (ab eI res.1),.lit (.bool res.2.1)]) [(10000,0,.var [.sl (ab ag.encS g_s.nodes),.sl (ab GTie.enc g_s.ties),.lit (.int .i64 g_s.horizon),.mp 10001 0]),(10001,0,.map (eM res.2.2))]:=lF (@kh) h
instance k162 {nodes:List Int} {g_s:GShow} {g_known:List (ByteArray × Bool)} {v2:GState}:Ctr (eQ nodes g_s g_known v2) (fun (res:Bool × (List (ByteArray × Bool)))=>ai prog 162 [.sl (ab eI nodes),.ptr 10000 0 0 0,.ptr 10003 0 0 0] [(10000,0,.var [.ptr 10001 0 0 0]),(10001,0,.var [.sl (ab ag.encS g_s.nodes),.sl (ab GTie.enc g_s.ties),.lit (.int .i64 g_s.horizon),.mp 10002 0]),(10002,0,.map (eM g_known)),(10003,0,.var [.lit (.int .i64 v2.now),.sl (ab eI v2.times),.sl (ab eI v2.values)])] (.lit (.bool res.1)) [(10000,0,.var [.ptr 10001 0 0 0]),(10001,0,.var [.sl (ab ag.encS g_s.nodes),.sl (ab GTie.enc g_s.ties),.lit (.int .i64 g_s.horizon),.mp 10002 0]),(10002,0,.map (eM res.2)),(10003,0,.var [.lit (.int .i64 v2.now),.sl (ab eI v2.times),.sl (ab eI v2.values)])]):=⟨by
 intro res h0
 refine co (hi:=hi00) func162 rfl rfl ?_
 unfold eQ at h0
 obtain⟨r01,g0,h0⟩:=ae h0
 simp(config:=cS)only[go_sem, *]
 refine af (mM g0) ?_
 exact run⟩
@[go_sem] def ev (zb0:Bool)(v7:Int)(v0:List (List Int))(h10002_0:List ag)(h10002_1:List GTie)(h10002_2 h10004_0:Int)(h10004_1 h10004_2:List Int):(Int × (List (ByteArray × Bool)))→St
 | (v8,h10003)=>⟨[(0,.ref 10000 0 0 v0.length),(1,.fn 162 [.ptr 10001 0 0 0,.ptr 10004 0 0 0]),(7,.lit (.int .i64 v7)),(8,.lit (.int .i64 v8))],[(10000,0,.row zb0 (ab (eLS eI) v0)),(10001,0,.var [.ptr 10002 0 0 0]),(10002,0,.var [.sl (ab ag.encS h10002_0),.sl (ab GTie.enc h10002_1),.lit (.int .i64 h10002_2),.mp 10003 0]),(10003,0,.map (eM h10003)),(10004,0,.var [.lit (.int .i64 h10004_0),.sl (ab eI h10004_1),.sl (ab eI h10004_2)])],2⟩
theorem fI {v0:List (List Int)}{g_s:GShow}{g_known:List (ByteArray × Bool)}{cap1:GState}{zb0:Bool}{res:Int × (List (List Int)) × (List (ByteArray × Bool))}(h0:bw v0 g_s g_known cap1=some res):ai prog 170 [.ref 10000 0 0 v0.length,.fn 162 [.ptr 10001 0 0 0,.ptr 10004 0 0 0]] [(10000,0,.row zb0 (ab (eLS eI) v0)),(10001,0,.var [.ptr 10002 0 0 0]),(10002,0,.var [.sl (ab ag.encS g_s.nodes),.sl (ab GTie.enc g_s.ties),.lit (.int .i64 g_s.horizon),.mp 10003 0]),(10003,0,.map (eM g_known)),(10004,0,.var [.lit (.int .i64 cap1.now),.sl (ab eI cap1.times),.sl (ab eI cap1.values)])] (.lit (.int .i64 res.1)) [(10000,0,.row zb0 (ab (eLS eI) res.2.1)),(10001,0,.var [.ptr 10002 0 0 0]),(10002,0,.var [.sl (ab ag.encS g_s.nodes),.sl (ab GTie.enc g_s.ties),.lit (.int .i64 g_s.horizon),.mp 10003 0]),(10003,0,.map (eM res.2.2)),(10004,0,.var [.lit (.int .i64 cap1.now),.sl (ab eI cap1.times),.sl (ab eI cap1.values)])]:=by
 refine co (hi:=hi00) func170 rfl rfl ?_
 unfold bw at h0
 obtain⟨q03,l0,h0⟩:=ae h0
 simp(config:=cS)only[go_sem, *]
 refine aj (m1:=.mk) (m2:=.mk) [.nf [0,1,7,8] [10000,10001,10002,10003,10004]] (ev zb0 (v0.length:Int) v0 g_s.nodes g_s.ties g_s.horizon cap1.now cap1.times cap1.values) l0 ?_ ?_
 ·simp(config:=cS)only[go_sem, *]
 have k0:=h0
 clear h0 l0
 intro _ s0 _ h0 gb0
 obtain⟨v8_1,h10003_1⟩:=s0
 unfold cp at h0
 try dsimp only at h0
 exact run
@[go_sem] def ej (zb0:Bool)(v0_n:Nat)(h10002_0:List ag)(h10002_1:List GTie)(h10002_2 h10004_0:Int)(h10004_1 h10004_2:List Int):(Int × Int × (List (List Int)) × (List (ByteArray × Bool)))→St
 | (v5,v6,v0,h10003)=>⟨[(0,.ref 10000 0 0 v0_n),(1,.fn 162 [.ptr 10001 0 0 0,.ptr 10004 0 0 0]),(5,.lit (.int .i64 v5)),(6,.lit (.int .i64 v6))],[(10000,0,.row zb0 (ab (eLS eI) v0)),(10001,0,.var [.ptr 10002 0 0 0]),(10002,0,.var [.sl (ab ag.encS h10002_0),.sl (ab GTie.enc h10002_1),.lit (.int .i64 h10002_2),.mp 10003 0]),(10003,0,.map (eM h10003)),(10004,0,.var [.lit (.int .i64 h10004_0),.sl (ab eI h10004_1),.sl (ab eI h10004_2)])],2⟩
def bU:Hint where
 acts:=fun i=>match i with|0=>[.frIn 10000]|_=>[]
 draws:=fun
  | _=>⟨.nil,[],[]⟩
@[go_sem] theorem KB:bU.acts 0=[.frIn 10000]:=rfl
@[go_sem] theorem KD:bU.acts 1=[]:=rfl
@[go_sem] theorem KE:bU.acts 2=[]:=rfl
@[go_sem] theorem KF:bU.acts 3=[]:=rfl
@[go_sem] theorem KG:bU.acts 4=[]:=rfl
@[go_sem] theorem KH:bU.acts 5=[]:=rfl
@[go_sem] theorem KI:bU.acts 7=[]:=rfl
@[go_sem] theorem KJ:bU.acts 8=[]:=rfl
@[go_sem] theorem KK:bU.acts 9=[]:=rfl
@[go_sem] theorem IU:bU.acts 10=[]:=rfl
@[go_sem] theorem KL:bU.acts 6=[]:=rfl
@[go_sem] theorem IV:bU.acts 11=[]:=rfl
@[go_sem] theorem IW:bU.acts 12=[]:=rfl
theorem fz {v0:List (List Int)}{g_s:GShow}{g_known:List (ByteArray × Bool)}{cap1:GState}{zb0:Bool}{res:(List (List Int)) × (List (ByteArray × Bool))}(h0:bu v0 g_s g_known cap1=some res):ai prog 111 [.ref 10000 0 0 v0.length,.fn 162 [.ptr 10001 0 0 0,.ptr 10004 0 0 0]] [(10000,0,.row zb0 (ab (eLO eI) v0)),(10001,0,.var [.ptr 10002 0 0 0]),(10002,0,.var [.sl (ab ag.encS g_s.nodes),.sl (ab GTie.enc g_s.ties),.lit (.int .i64 g_s.horizon),.mp 10003 0]),(10003,0,.map (eM g_known)),(10004,0,.var [.lit (.int .i64 cap1.now),.sl (ab eI cap1.times),.sl (ab eI cap1.values)])] (.ref 10000 0 0 res.1.length) [(10000,0,.row false (ab (eLS eI) res.1)),(10001,0,.var [.ptr 10002 0 0 0]),(10002,0,.var [.sl (ab ag.encS g_s.nodes),.sl (ab GTie.enc g_s.ties),.lit (.int .i64 g_s.horizon),.mp 10003 0]),(10003,0,.map (eM res.2)),(10004,0,.var [.lit (.int .i64 cap1.now),.sl (ab eI cap1.times),.sl (ab eI cap1.values)])]:=by
 refine ao (ra:=[.home 4,.trim 4]) (md:=mdT) hT (hi:=bU) func111 rfl rfl (by decide +kernel) (by simp) ?_
 unfold bu at h0
 obtain⟨r01,g0,h0⟩:=ae h0
 simp(config:=cS)only[go_sem, *]
 refine af (fI g0) ?_
 obtain⟨_,h0⟩|⟨_,h0⟩:=itP h0
 ·exact run
 obtain⟨q05,l0,h0⟩:=ae h0
 simp(config:=cS)only[go_sem, *]
 refine aj (m1:=.mk) (m2:=.mk) [.nf [0,1,5,6] [10000,10001,10002,10003,10004]] (ej zb0 v0.length g_s.nodes g_s.ties g_s.horizon cap1.now cap1.times cap1.values) l0 ?_ ?_
 ·simp(config:=cS)only[go_sem, *]
 have k0:=h0
 clear h0 l0
 intro _ s0 _ h0 gb0
 obtain⟨v5_1,v6_1,v0_1,h10003_1⟩:=s0
 unfold cj at h0
 try dsimp only at h0
 exact run
@[go_sem] def hi103_1:DT:=.r2 0 5 (.i2 6 (.i2 5 (.i2 7 (.i2 8 .nil))))
def Eb:Hint where
 acts:=fun _=>[]
 draws:=fun
  | 1=>⟨hi103_1,[[],[0],[0,1],[0,1,2],[],.range 5,[],.range 7,.range 8],.range 9⟩
  | _=>⟨.nil,[],[]⟩
theorem KM (i:Nat):Eb.acts i=[]:=rfl
attribute[go_sem] KM ntmps103 results103
@[go_sem] theorem WS:(Eb.draws 1).order=hi103_1:=rfl
instance k103 {g_s:GShow} {g_known:List (ByteArray × Bool)} {v1:GState}:Ctr (gp g_s g_known v1) (fun (res:(List (List Int)) × (List (ByteArray × Bool)))=>ai prog 103 [.ptr 10000 0 0 0,.agg (GState.encS v1)] [(10000,0,.var [.sl (ab ag.encS g_s.nodes),.sl (ab GTie.enc g_s.ties),.lit (.int .i64 g_s.horizon),.mp 10001 0]),(10001,0,.map (eM g_known))] (.ref 20000 1 0 res.1.length) [(10000,0,.var [.sl (ab ag.encS g_s.nodes),.sl (ab GTie.enc g_s.ties),.lit (.int .i64 g_s.horizon),.mp 10001 0]),(10001,0,.map (eM res.2)),(20000,1,.row false (ab (eLS eI) res.1))]):=⟨by
 intro res h0
 refine ao (ra:=[.home 4,.trim 4]) (md:=mdT) hT (hi:=Eb) func103 rfl rfl (by decide +kernel) (by simp) ?_
 unfold gp at h0
 obtain⟨r01,g0,h0⟩:=ae h0
 simp(config:=cS)only[go_sem, *]
 have g0:=ctr g0
 refine af g0 ?_
 obtain⟨r02,g0,h0⟩:=ae h0
 simp(config:=cS)only[go_sem, *]
 refine af (fz g0) ?_
 exact run⟩
instance k102 {list:List (List Int)} {lazy:Bool}:Ctr (ln list lazy) (fun (res:(List Int) × Bool)=>ai prog 102 [.sl (ab (eLS eI) list),.lit (.bool lazy)] [] (.tup [.sl (ab eI res.1),.lit (.bool res.2)]) []):=⟨by
 intro res h0
 refine ao (ra:=[.nilSl 4]) (md:=mdT) hT (hi:=hi00) func102 rfl rfl (by decide +kernel) (by simp) ?_
 unfold ln at h0
 obtain⟨_,h0⟩|⟨_,h0⟩:=itP h0
 ·exact run
 obtain⟨_,h0⟩|⟨_,h0⟩:=itB h0
 ·exact run
 obtain⟨x02,g1,h0⟩:=ae h0
 have:=aR (k:=0) g1
 exact run⟩
instance k100 {g_s:GShow} {g_known:List (ByteArray × Bool)} {v1:GState} {d:GDesk}:Ctr (iI g_s g_known v1 d) (fun (res:(List Int) × Bool × (List (ByteArray × Bool)))=>ai prog 100 [.ptr 10000 0 0 0,.agg (GState.encS v1),.loc [.sl (ab ag.encS d.show_.nodes),.sl (ab GTie.enc d.show_.ties),.lit (.int .i64 d.show_.horizon),.lit (.int .i64 d.state.now),.sl (ab eI d.state.times),.sl (ab eI d.state.values),.lit (.bool d.lazy),.sl (ab GEntry.encS d.log)]] [(10000,0,.var [.sl (ab ag.encS g_s.nodes),.sl (ab GTie.enc g_s.ties),.lit (.int .i64 g_s.horizon),.mp 10001 0]),(10001,0,.map (eM g_known))] (.tup [.sl (ab eI res.1),.lit (.bool res.2.1)]) [(10000,0,.var [.sl (ab ag.encS g_s.nodes),.sl (ab GTie.enc g_s.ties),.lit (.int .i64 g_s.horizon),.mp 10001 0]),(10001,0,.map (eM res.2.2))]):=⟨by
 intro res h0
 refine ao (ra:=[.home 5]) (md:=mdT) hT (hi:=hi00) func100 rfl rfl (by decide +kernel) (by simp) ?_
 unfold iI at h0
 obtain⟨_,h0⟩|⟨_,h0⟩:=itB h0
 ·exact run
 obtain⟨r03,g0,h0⟩:=ae h0
 simp(config:=cS)only[go_sem, *]
 refine af (nO g0) ?_
 exact run⟩
@[go_sem] def qG (values v8:List Int)(v9:Int):(Int × (List Int))→St
 | (v10,out)=>⟨[(1,.sl (ab eI values)),(5,.ref 383 1 0 out.length),(8,.sl (ab eI v8)),(9,.lit (.int .i64 v9)),(10,.lit (.int .i64 v10))],[(383,1,.row true (ab eI out))],2⟩
instance k161 {props:List Int} {values:List Int}:Ctr (fk props values) (fun (res:List Int)=>ai prog 161 [.sl (ab eI props),.sl (ab eI values)] [] (.ref 20000 1 0 res.length) [(20000,1,.row true (ab eI res))]):=⟨by
 intro res h0
 refine ao (ra:=[.home 4]) (md:=mdT) hT (hi:=hi00) func161 rfl rfl (by decide +kernel) (by simp) ?_
 unfold fk at h0
 obtain⟨q03,l0,h0⟩:=ae h0
 simp(config:=cS)only[go_sem, *]
 refine aj (m1:=.mk) (m2:=.mk) [.home 5,.nf [1,5,8,9,10] [383]] (qG values props (props.length:Int)) l0 ?_ ?_
 ·simp(config:=cS)only[go_sem, *]
 have k0:=h0
 clear h0 l0
 intro _ s0 _ h0 gb0
 obtain⟨v10_1,out_1⟩:=s0
 unfold mQ at h0
 try dsimp only at h0
 exact run⟩
@[go_sem] def cI (ties values nodes:List Int)(v90 out_2 out_3:Int)(out_6:Bool)(v15_0:Int)(v15_1 v15_2:List Int)(next_0:Int)(h1600:List ag)(h1601:List GTie)(h1602 h1603:List Int)(h1604:List GEntry)(h5504 h5505 v89:List Int):(Int × (List Int))→St
 | (v91,seen)=>⟨[(1,.sl (ab eI ties)),(2,.sl (ab eI values)),(10,.ptr 640 1 0 0),(13,.ptr 832 1 0 0),(15,.ptr 960 1 0 0),(17,.sl (ab eI nodes)),(19,.ptr 1216 1 0 0),(20,.ref 5506 1 0 v89.length),(21,.ref 1407 1 0 seen.length),(89,.ref 5506 1 0 v89.length),(90,.lit (.int .i64 v90)),(91,.lit (.int .i64 v91))],[(640,1,.var [.lit (.slice none 0 0),.lit (.slice none 0 0),.lit (.int .i64 0),.lit (.int .i64 0),.lit (.slice none 0 0),.lit (.slice none 0 0),.lit (.bool false),.lit (.slice none 0 0)]),(832,1,.var [.ref 1600 1 0 h1600.length,.ref 1601 1 0 h1601.length,.lit (.int .i64 out_2),.lit (.int .i64 out_3),.ref 1602 1 0 h1602.length,.ref 1603 1 0 h1603.length,.lit (.bool out_6),.ref 1604 1 0 h1604.length]),(1600,1,.row true (ab ag.encO h1600)),(1601,1,.row true (ab GTie.enc h1601)),(1602,1,.row true (ab eI h1602)),(1603,1,.row true (ab eI h1603)),(1604,1,.row true (ab GEntry.encO h1604)),(960,1,.var [.lit (.int .i64 v15_0),.sl (ab eI v15_1),.sl (ab eI v15_2)]),(1216,1,.var [.lit (.int .i64 next_0),.ref 5504 1 0 h5504.length,.ref 5505 1 0 h5505.length]),(5504,1,.row true (ab eI h5504)),(5505,1,.row true (ab eI h5505)),(5506,1,.row true (ab eI v89)),(1407,1,.row true (ab eI seen))],2⟩
@[go_sem] def hi99_s100_22:DT:=.i1 0 (.i2 1 (.i0 2 [0] (.r2 3 3 .nil)))
@[go_sem] def hi99_s100_21:DT:=.i1 0 (.i1 1 (.i1 2 (.i1 3 (.i2 4 (.i2 6 (.i2 8 (.i2 9 (.i0 5 [0,1,2,3] (.i0 7 [0,1,2,3] (.i0 10 [0,1,2,3] (.i2 11 (.i0 12 [0,1] (.r2 13 3 .nil)))))))))))))
@[go_sem] def hi99_s100_10:DT:=.i2 0 (.i2 1 (.i1 3 (.i0 2 [3] (.r2 4 6 .nil))))
@[go_sem] def hi99_s100_4:DT:=.i1 0 (.i1 1 (.i1 2 (.i1 3 (.fork (.i0 4 [0,1,2,3] (.i0 5 [0,1,2,3] (.i0 6 [2,3] (.i2 7 .nil)))) (.i0 5 [0,1,2,3] (.i0 4 [0,1,2,3] (.i0 6 [2,3] (.i2 7 .nil))))))))
def kE:Hint where
 acts:=fun _=>[]
 draws:=fun
  | 4=>⟨hi99_s100_4,[[],[0],[],[2],[],[],[0,1,4,5],.range 7],[0,1,5,6,2,3,4,7]⟩
  | 10=>⟨hi99_s100_10,[[],[],[1],[],[0,1,2,3],.range 5,.range 6,.range 6,.range 7,.range 9],[0,1,2,3,4,5,6,8,7,9]⟩
  | 21=>⟨hi99_s100_21,[[],[0],[],[2],[],[4],[],[4,5,6],[],[],[4,5,6,7,8,9],[2,3,4,5,6,7,8,9,10],[2,3,4,5,6,7,8,9,10,11],.range 13,.range 14,.range 15],.range 16⟩
  | 22=>⟨hi99_s100_22,[[],[],[1],[0,1,2],[0,1,2,3],.range 5],.range 6⟩
  | _=>⟨.nil,[],[]⟩
theorem Ec (i:Nat):kE.acts i=[]:=rfl
attribute[go_sem] Ec ntmps99 results99
@[go_sem] theorem LH:(kE.draws 4).order=hi99_s100_4:=rfl
@[go_sem] theorem KN:(kE.draws 10).order=hi99_s100_10:=rfl
@[go_sem] theorem KO:(kE.draws 21).order=hi99_s100_21:=rfl
@[go_sem] theorem KQ:(kE.draws 22).order=hi99_s100_22:=rfl
instance k99_s100 {d:GDesk} {ties:List Int} {values:List Int} {refused:Int} {d':GDesk}:Ctr (ck d ties values refused d') (fun (res:GDesk × (List Int) × Int)=>ai prog 99 [.agg (GDesk.encS d),.sl (ab eI ties),.sl (ab eI values),.lit (.int .i64 refused),.fn 100 [.loc [.sl (ab ag.encS d'.show_.nodes),.sl (ab GTie.enc d'.show_.ties),.lit (.int .i64 d'.show_.horizon),.lit (.int .i64 d'.state.now),.sl (ab eI d'.state.times),.sl (ab eI d'.state.values),.lit (.bool d'.lazy),.sl (ab GEntry.encS d'.log)]]] [] (.tup [.agg [.ref 20000 1 0 res.1.show_.nodes.length,.ref 20001 1 0 res.1.show_.ties.length,.lit (.int .i64 res.1.show_.horizon),.lit (.int .i64 res.1.state.now),.ref 20002 1 0 res.1.state.times.length,.ref 20003 1 0 res.1.state.values.length,.lit (.bool res.1.lazy),.ref 20004 1 0 res.1.log.length],.ref 20005 1 0 res.2.1.length,.lit (.int .i64 res.2.2)]) [(20000,1,.row true (ab ag.encO res.1.show_.nodes)),(20001,1,.row true (ab GTie.enc res.1.show_.ties)),(20002,1,.row true (ab eI res.1.state.times)),(20003,1,.row true (ab eI res.1.state.values)),(20004,1,.row true (ab GEntry.encO res.1.log)),(20005,1,.row true (ab eI res.2.1))]):=⟨by
 intro res h0
 refine ao (ra:=[.homeCell 640 0,.homeCell 640 1,.homeCell 640 4,.homeCell 640 5,.homeCell 640 7,.home 11]) (md:=mdT) hT (hi:=kE) func99 rfl rfl (by decide +kernel) (by simp) ?_
 unfold ck at h0
 obtain⟨r01,g0,h0⟩:=ae h0
 simp(config:=cS)only[go_sem, *]
 have g0:=ctr g0
 refine af g0 ?_
 obtain⟨r02,g0,h0⟩:=ae h0
 simp(config:=cS)only[go_sem, *]
 have g0:=ctr g0
 refine af g0 ?_
 obtain⟨_,h0⟩|⟨_,h0⟩:=itB h0
 ·obtain⟨_,h0⟩|⟨_,h0⟩:=itP h0
  ·obtain⟨r03,g0,h0⟩:=ae h0
   simp(config:=cS)only[go_sem, *]
   refine af (bj (by exact fun _ _ hr=>by have q:=ctr hr;exact q) (by refine⟨fun _=>?_,fun _=>?_⟩ <;> simp only[go_sem]) (fun _=>rfl) rfl g0) ?_
   obtain⟨_,h0⟩|⟨_,h0⟩:=itB h0
   ·exact run
   try simp(config:=cS)only[go_sem, *]
   refine bC ?_ ?_
   ·obtain⟨r04,g0,h0⟩:=ae h0
    simp(config:=cS)only[go_sem, *]
    have g0:=ctr g0
    refine af g0 ?_
    obtain⟨_,h0⟩|⟨_,h0⟩:=itB h0
    ·exact run
    obtain⟨r05,g0,h0⟩:=ae h0
    simp(config:=cS)only[go_sem, *]
    have g0:=ctr g0
    refine af g0 ?_
    obtain⟨_,h0⟩|⟨_,h0⟩:=itB h0
    ·exact run
    obtain⟨_,h0⟩|⟨_,h0⟩:=itP h0
    ·exact run
    obtain⟨r06,g0,h0⟩:=ae h0
    simp(config:=cS)only[go_sem, *]
    have g0:=ctr g0
    refine af g0 ?_
    obtain⟨r07,g0,h0⟩:=ae h0
    simp(config:=cS)only[go_sem, *]
    have g0:=ctr g0
    refine af g0 ?_
    obtain⟨_,h0⟩|⟨_,h0⟩:=itB h0
    ·obtain⟨r08,g0,h0⟩:=ae h0
     simp(config:=cS)only[go_sem, *]
     have g0:=ctr g0
     refine af g0 ?_
     obtain⟨r09,g0,h0⟩:=ae h0
     simp(config:=cS)only[go_sem, *]
     have g0:=ctr g0
     refine af g0 ?_
     obtain⟨r10,g0,h0⟩:=ae h0
     simp(config:=cS)only[go_sem, *]
     have g0:=ctr g0
     refine af g0 ?_
     obtain⟨_,h0⟩|⟨_,h0⟩:=itB h0
     ·obtain⟨r11,g0,h0⟩:=ae h0
      simp(config:=cS)only[go_sem, *]
      have g0:=ctr g0
      refine af g0 ?_
      obtain⟨q19,l0,h0⟩:=ae h0
      simp(config:=cS)only[go_sem, *]
      refine aj (m1:=.mk) (m2:=.mk) [.home 21,.nf [1,2,10,13,15,17,19,20,21,89,90,91] [640,832,1600,1601,1602,1603,1604,960,1216,5504,5505,5506,1407]] (cI ties values r10.1 (r11.2.length:Int) r01.show_.horizon r01.state.now r01.lazy d.state.now d.state.times d.state.values r11.1.now r01.show_.nodes r01.show_.ties r01.state.times r01.state.values r01.log r11.1.times r11.1.values r11.2) l0 ?_ ?_
      ·simp(config:=cS)only[go_sem, *]
      have k0:=h0
      clear h0 l0
      intro _ s0 _ h0 gb0
      obtain⟨v91_1,seen_1⟩:=s0
      unfold bN at h0
      try dsimp only at h0
      exact run
     exact run
    exact run
   obtain⟨r20,g0,h0⟩:=ae h0
   simp(config:=cS)only[go_sem, *]
   have g0:=ctr g0
   refine af g0 ?_
   obtain⟨_,h0⟩|⟨_,h0⟩:=itB h0
   ·exact run
   obtain⟨r21,g0,h0⟩:=ae h0
   simp(config:=cS)only[go_sem, *]
   have g0:=ctr g0
   refine af g0 ?_
   obtain⟨_,h0⟩|⟨_,h0⟩:=itB h0
   ·exact run
   obtain⟨_,h0⟩|⟨_,h0⟩:=itP h0
   ·exact run
   obtain⟨r22,g0,h0⟩:=ae h0
   simp(config:=cS)only[go_sem, *]
   have g0:=ctr g0
   refine af g0 ?_
   obtain⟨r23,g0,h0⟩:=ae h0
   simp(config:=cS)only[go_sem, *]
   have g0:=ctr g0
   refine af g0 ?_
   obtain⟨_,h0⟩|⟨_,h0⟩:=itB h0
   ·obtain⟨r24,g0,h0⟩:=ae h0
    simp(config:=cS)only[go_sem, *]
    have g0:=ctr g0
    refine af g0 ?_
    obtain⟨r25,g0,h0⟩:=ae h0
    simp(config:=cS)only[go_sem, *]
    have g0:=ctr g0
    refine af g0 ?_
    obtain⟨r26,g0,h0⟩:=ae h0
    simp(config:=cS)only[go_sem, *]
    have g0:=ctr g0
    refine af g0 ?_
    obtain⟨_,h0⟩|⟨_,h0⟩:=itB h0
    ·obtain⟨r27,g0,h0⟩:=ae h0
     simp(config:=cS)only[go_sem, *]
     have g0:=ctr g0
     refine af g0 ?_
     obtain⟨q35,l0,h0⟩:=ae h0
     simp(config:=cS)only[go_sem, *]
     refine aj (m1:=.mk) (m2:=.mk) [.home 21,.nf [1,2,10,13,15,17,19,20,21,89,90,91] [640,832,1600,1601,1602,1603,1604,960,1216,5504,5505,5506,1407]] (cI ties values r26.1 (r27.2.length:Int) r01.show_.horizon r01.state.now r01.lazy d.state.now d.state.times d.state.values r27.1.now r01.show_.nodes r01.show_.ties r01.state.times r01.state.values r01.log r27.1.times r27.1.values r27.2) l0 ?_ ?_
     ·simp(config:=cS)only[go_sem, *]
     have k0:=h0
     clear h0 l0
     intro _ s0 _ h0 gb0
     obtain⟨v91_2,seen_2⟩:=s0
     unfold bN at h0
     try dsimp only at h0
     exact run
    exact run
   exact run
  exact run
 exact run⟩
instance k56 {d:GDesk} {ties:List Int} {values:List Int}:Ctr (lp d ties values) (fun (res:GDesk × (List Int) × Int)=>ai prog 56 [.agg (GDesk.encS d),.sl (ab eI ties),.sl (ab eI values)] [] (.tup [.agg [.ref 20000 1 0 res.1.show_.nodes.length,.ref 20001 1 0 res.1.show_.ties.length,.lit (.int .i64 res.1.show_.horizon),.lit (.int .i64 res.1.state.now),.ref 20002 1 0 res.1.state.times.length,.ref 20003 1 0 res.1.state.values.length,.lit (.bool res.1.lazy),.ref 20004 1 0 res.1.log.length],.ref 20005 1 0 res.2.1.length,.lit (.int .i64 res.2.2)]) [(20000,1,.row true (ab ag.encO res.1.show_.nodes)),(20001,1,.row true (ab GTie.enc res.1.show_.ties)),(20002,1,.row true (ab eI res.1.state.times)),(20003,1,.row true (ab eI res.1.state.values)),(20004,1,.row true (ab GEntry.encO res.1.log)),(20005,1,.row true (ab eI res.2.1))]):=⟨by
 intro res h0
 refine ao (ra:=[.homeCell 384 0,.homeCell 384 1,.homeCell 384 4,.homeCell 384 5,.homeCell 384 7,.home 7]) (md:=mdT) hT (hi:=hi00) func56 rfl rfl (by decide +kernel) (by simp) ?_
 unfold lp at h0
 exact run⟩
instance k7 {n:Int}:Ctr (ak n) (fun (res:ByteArray)=>ai prog 7 [.lit (.int .i64 n)] [] (.lit (.string res)) []):=⟨by
 intro res h0
 refine co (hi:=hi00) func7 rfl rfl ?_
 unfold ak at h0
 obtain⟨r01,g0,h0⟩:=ae h0
 simp(config:=cS)only[go_sem, *]
 refine af (zF g0) ?_
 exact run⟩
instance k13 {l:List ByteArray} {by_:ByteArray}:Ctr (am l by_) (fun (res:ByteArray)=>ai prog 13 [.sl (ab eS l),.lit (.string by_)] [] (.lit (.string res)) []):=⟨by
 intro res h0
 refine co (hi:=hi00) func13 rfl rfl ?_
 unfold am at h0
 obtain⟨r01,g0,h0⟩:=ae h0
 simp(config:=cS)only[go_sem, *]
 refine af (zG g0) ?_
 exact run⟩
instance k97 {parts:List ByteArray} {by_:ByteArray}:Ctr (cU parts by_) (fun (res:ByteArray)=>ai prog 97 [.sl (ab eS parts),.lit (.string by_)] [] (.lit (.string res)) []):=⟨by
 intro res h0
 refine co (hi:=hi00) func97 rfl rfl ?_
 unfold cU at h0
 exact run⟩
@[go_sem] def qH (v6:List Int)(v7:Int):(Int × (List ByteArray))→St
 | (v8,parts)=>⟨[(3,.ref 255 1 0 parts.length),(6,.sl (ab eI v6)),(7,.lit (.int .i64 v7)),(8,.lit (.int .i64 v8))],[(255,1,.row true (ab eS parts))],2⟩
instance k251 {list:List Int}:Ctr (fq list) (fun (res:ByteArray)=>ai prog 251 [.sl (ab eI list)] [] (.lit (.string res)) []):=⟨by
 intro res h0
 refine co (hi:=hi00) func251 rfl rfl ?_
 unfold fq at h0
 obtain⟨q04,l0,h0⟩:=ae h0
 simp(config:=cS)only[go_sem, *]
 refine aj (m1:=.mk) (m2:=.mk) [.home 3,.nf [3,6,7,8] [255]] (qH list (list.length:Int)) l0 ?_ ?_
 ·simp(config:=cS)only[go_sem, *]
 have k0:=h0
 clear h0 l0
 intro _ s0 _ h0 gb0
 obtain⟨v8_1,parts_1⟩:=s0
 unfold mR at h0
 try dsimp only at h0
 exact run⟩
@[go_sem] def hi189_1:DT:=.i2 0 (.i2 1 (.i1 3 (.i1 4 (.i1 6 (.i1 7 (.i1 9 (.i1 10 (.i0 2 [3,4,6,7,9,10] (.i0 5 [6,7,9,10] (.i0 8 [9,10] (.r2 11 4 .nil)))))))))))
def Ed:Hint where
 acts:=fun _=>[]
 draws:=fun
  | 1=>⟨hi189_1,[[],[0],[0,1],[],[3],.range 5,[],[6],.range 8,[],[9],.range 11,.range 12,.range 13,.range 14],.range 15⟩
  | _=>⟨.nil,[],[]⟩
theorem KR (i:Nat):Ed.acts i=[]:=rfl
attribute[go_sem] KR ntmps189 results189
@[go_sem] theorem WT:(Ed.draws 1).order=hi189_1:=rfl
instance k189 {e:GEntry}:Ctr (cF e) (fun (res:ByteArray)=>ai prog 189 [.agg (GEntry.encS e)] [] (.lit (.string res)) []):=⟨by
 intro res h0
 refine co (hi:=Ed) func189 rfl rfl ?_
 unfold cF at h0
 exact run⟩
theorem sH {e:GEntry}{res:ByteArray}(h0:cF e=some res):ai prog 189 [.agg (GEntry.encS e)] [] (.lit (.string res)) []:=by have q:=ctr h0;exact q
end Go.Proofs.Qr
