/- Functions. -/
import Derived.Test.YtdhboohobflflaaGreatDoorXqX
import Derived.Test.YtdhboohobflflaaGreatDoorXq37
set_option linter.all false
set_option maxRecDepth 100000
set_option maxHeartbeats 4000000
namespace Go.Proofs.Qq
open Go Tryz
theorem co {hi:Hint}{f:FuncId}{fn:Func}{c:Code}{args:List AV}{h0 h':Hp}{r:AV}(hf:Tryz.prog.funcs[f]?=some fn)(hn:(fn.name == "runtime.NumGoroutine")=false) (hb:fn.body=some c) (h:bg prog mdT T fn.ntmps hi c ⟨iX 0 args,h0,1⟩ (retK T [] fn.results.toList (h0.map (·.1)) (fun r1 h1=>r1=r∧h1=h'))) (hc:dJ hi c=true:=by decide +kernel) (hlen:args.length≤fn.ntmps:=by simp):aj prog f args h0 r h':=az (ra:=[]) (md:=mdT) hT hf hn hb hc hlen h
@[go_sem] def oM (code:List Int):(Int × Int)→St
 | (v3,i)=>⟨[(0,.sl (ab (eK .u8) code)),(3,.lit (.int .i64 v3)),(4,.lit (.int .i64 i))],[],2⟩
attribute[go_sem] ntmps19 results19 ntmps14 results14 ntmps5 results5 ntmps7 results7 ntmps17 results17 ntmps8 results8 ntmps11 results11 ntmps29 results29 ntmps30 results30 ntmps49 results49 ntmps22 results22 ntmps88 results88 ntmps84 results84 ntmps144 results144 ntmps145 results145 ntmps85 results85 ntmps146 results146 ntmps86 results86 ntmps87 results87 ntmps50 results50 ntmps89 results89 ntmps90 results90 ntmps203 results203 ntmps202 results202 ntmps13 results13 ntmps147 results147 ntmps91 results91 ntmps51 results51 ntmps92 results92 ntmps52 results52 ntmps108 results108 ntmps109 results109 ntmps60 results60 ntmps139 results139 ntmps150 results150 ntmps261 results261 ntmps212 results212 ntmps95 results95 ntmps57 results57 ntmps242 results242 ntmps179 results179 ntmps243 results243 ntmps204 results204 ntmps219 results219 ntmps244 results244 ntmps278 results278 ntmps241 results241 ntmps171 results171 ntmps113 results113 ntmps279 results279 ntmps245 results245 ntmps181 results181 ntmps115 results115 ntmps205 results205 ntmps148 results148 ntmps94 results94 ntmps53 results53 ntmps217 results217 ntmps151 results151 ntmps54 results54 ntmps295 results295 ntmps280 results280 ntmps246 results246 ntmps183 results183 ntmps223 results223 ntmps167 results167 ntmps263 results263 ntmps224 results224 ntmps170 results170 ntmps163 results163 ntmps164 results164 ntmps105 results105 ntmps226 results226 ntmps225 results225 ntmps286 results286 ntmps262 results262 ntmps227 results227 ntmps166 results166 ntmps106 results106 ntmps159 results159 ntmps184 results184 ntmps218 results218 ntmps152 results152 ntmps153 results153 ntmps220 results220 ntmps155 results155 ntmps154 results154 ntmps158 results158 ntmps228 results228 ntmps168 results168
instance k19 {code:List Int}:Ctr (cZ code) (fun (res:GL01Cur)=>aj prog 19 [.sl (ab (eK .u8) code)] [] (.ptr 20000 1 0 0) [(20000,1,.var [.sl (ab (eK .u8) res.b),.lit (.int .i64 res.i),.lit (.int .i64 res.h)])]):=⟨by
 intro res h0
 refine co (hi:=hi00) func19 rfl rfl ?_
 unfold cZ at h0
 obtain⟨q02,l0,h0⟩:=ae h0
 simp(config:=cS)only[go_sem, *]
 refine ak (m1:=.mk) (m2:=.mk) [.nf [0,3,4] []] (oM code) l0 ?_ ?_
 ·simp(config:=cS)only[go_sem, *]
 have k0:=h0
 clear h0 l0
 intro _ s0 _ h0 gb0
 obtain⟨v3_1,i_1⟩:=s0
 unfold bD at h0
 try dsimp only at h0
 exact run⟩
@[go_sem] def hi15_4:DT:=.r2 0 15 .nil
@[go_sem] def hi15_3:DT:=.r2 0 10 .nil
@[go_sem] def hi15_2:DT:=.r2 0 13 .nil
def hi15:Hint where
 acts:=fun _=>[]
 draws:=fun
  | 2=>⟨hi15_2,[[],[0],[0,1],[0,1,2],[0,1,2,3],[],[5],[5,6],[5,6,7],[5,6,7,8],.range 10,.range 11,.range 12],.range 13⟩
  | 3=>⟨hi15_3,[[],[0],[0,1],[0,1,2],[],[4],[4,5],[4,5,6],[4,5,6,7],.range 9],.range 10⟩
  | 4=>⟨hi15_4,[[],[],[1],[1,2],[1,2,3],[],[5],[5,6],[5,6,7],[1,2,3,4,5,6,7,8],[1,2,3,4,5,6,7,8,9],[1,2,3,4,5,6,7,8,9,10],.range 12,.range 13,.range 14],.range 15⟩
  | _=>⟨.nil,[],[]⟩
theorem GH (i:Nat):hi15.acts i=[]:=rfl
attribute[go_sem] GH ntmps15 results15
@[go_sem] theorem IG:(hi15.draws 2).order=hi15_2:=rfl
@[go_sem] theorem IH:(hi15.draws 3).order=hi15_3:=rfl
@[go_sem] theorem II:(hi15.draws 4).order=hi15_4:=rfl
instance k15 {v0:GL01Cur}:Ctr (bK v0) (fun (res:Int × GL01Cur)=>aj prog 15 [.ptr 10000 0 0 0] [(10000,0,.var [.sl (ab (eK .u8) v0.b),.lit (.int .i64 v0.i),.lit (.int .i64 v0.h)])] (.lit (.int .i64 res.1)) [(10000,0,.var [.sl (ab (eK .u8) res.2.b),.lit (.int .i64 res.2.i),.lit (.int .i64 res.2.h)])]):=⟨by
 intro res h0
 refine co (hi:=hi15) func15 rfl rfl ?_
 unfold bK at h0
 exact run⟩
@[go_sem] def oN (n:Int):(Int × (List Int) × Int × Int)→St
 | (i,v5_0,v5_1,v5_2)=>⟨[(1,.lit (.int .i64 n)),(5,.ptr 512 1 0 0),(6,.lit (.int .i64 i))],[(512,1,.var [.sl (ab (eK .u8) v5_0),.lit (.int .i64 v5_1),.lit (.int .i64 v5_2)])],2⟩
instance k14 {code:List Int} {n:Int}:Ctr (da code n) (fun (res:GL01Cur)=>aj prog 14 [.sl (ab (eK .u8) code),.lit (.int .i64 n)] [] (.ptr 20000 1 0 0) [(20000,1,.var [.sl (ab (eK .u8) res.b),.lit (.int .i64 res.i),.lit (.int .i64 res.h)])]):=⟨by
 intro res h0
 refine co (hi:=hi00) func14 rfl rfl ?_
 unfold da at h0
 obtain⟨r01,g0,h0⟩:=ae h0
 simp(config:=cS)only[go_sem, *]
 have g0:=ctr g0
 refine af g0 ?_
 obtain⟨q03,l0,h0⟩:=ae h0
 simp(config:=cS)only[go_sem, *]
 refine ak (m1:=.mk) (m2:=.mk) [.nf [1,5,6] [512]] (oN n) l0 ?_ ?_
 ·simp(config:=cS)only[go_sem, *]
 have k0:=h0
 clear h0 l0
 intro _ s0 _ h0 gb0
 obtain⟨i_1,v5_0_1,v5_1_1,v5_2_1⟩:=s0
 unfold bE at h0
 try dsimp only at h0
 exact run⟩
instance k5 {code:List Int} {n:Int}:Ctr (cG code n) (fun (res:Int)=>aj prog 5 [.sl (ab (eK .u8) code),.lit (.int .i64 n)] [] (.lit (.int .i64 res)) []):=⟨by
 intro res h0
 refine co (hi:=hi00) func5 rfl rfl ?_
 unfold cG at h0
 exact run⟩
instance k7 {n:Int}:Ctr (ai n) (fun (res:ByteArray)=>aj prog 7 [.lit (.int .i64 n)] [] (.lit (.string res)) []):=⟨by
 intro res h0
 refine co (hi:=hi00) func7 rfl rfl ?_
 unfold ai at h0
 obtain⟨r01,g0,h0⟩:=ae h0
 simp(config:=cS)only[go_sem, *]
 refine af (wl g0) ?_
 exact run⟩
@[go_sem] def nE (s by_:ByteArray):(Int × Int × (List ByteArray))→St
 | (from_,i,out)=>⟨[(0,.lit (.string s)),(1,.lit (.string by_)),(5,.ref 383 1 0 out.length),(6,.lit (.int .i64 from_)),(7,.lit (.int .i64 i))],[(383,1,.row true (ab eS out))],2⟩
instance k17 {s:ByteArray} {by_:ByteArray}:Ctr (cg s by_) (fun (res:List ByteArray)=>aj prog 17 [.lit (.string s),.lit (.string by_)] [] (.ref 20000 1 0 res.length) [(20000,1,.row true (ab eS res))]):=⟨by
 intro res h0
 refine az (ra:=[.home 4]) (md:=mdT) hT (hi:=hi00) func17 rfl rfl (by decide +kernel) (by simp) ?_
 unfold cg at h0
 obtain⟨q03,l0,h0⟩:=ae h0
 simp(config:=cS)only[go_sem, *]
 refine ak (m1:=.mk) (m2:=.mk) [.home 5,.nf [0,1,5,6,7] [383]] (nE s by_) l0 ?_ ?_
 ·simp(config:=cS)only[go_sem, *]
 have k0:=h0
 clear h0 l0
 intro _ s0 _ h0 gb0
 obtain⟨from__1,i_1,out_1⟩:=s0
 unfold kv at h0
 try dsimp only at h0
 obtain⟨_,h0⟩|⟨_,h0⟩:=itP h0
 ·obtain⟨c1001,_,_,_,h0⟩:=gsI h0
  obtain⟨r02,g0,h0⟩:=ae h0
  simp(config:=cS)only[go_sem, *]
  refine af (pe g0) ?_
  exact run
 exact run⟩
instance k8 {s:ByteArray}:Ctr (de s) (fun (res:List ByteArray)=>aj prog 8 [.lit (.string s)] [] (.ref 20000 1 0 res.length) [(20000,1,.row false (ab eS res))]):=⟨by
 intro res h0
 refine az (ra:=[.home 2,.trim 2]) (md:=mdT) hT (hi:=hi00) func8 rfl rfl (by decide +kernel) (by simp) ?_
 unfold de at h0
 exact run⟩
instance k11  : Ctr (gI) (fun (res:GConsole)=>aj prog 11 [] [] (.agg [.ref 20000 1 0 res.sheet.cues.length,.ref 20001 1 0 res.sheet.prep.length,.lit (.int .i64 res.sheet.horizon),.ref 20002 1 0 res.desk.show_.nodes.length,.ref 20003 1 0 res.desk.show_.ties.length,.lit (.int .i64 res.desk.show_.horizon),.lit (.int .i64 res.desk.state.now),.ref 20004 1 0 res.desk.state.times.length,.ref 20005 1 0 res.desk.state.values.length,.lit (.bool res.desk.lazy),.ref 20006 1 0 res.desk.log.length,.ref 20007 1 0 res.takes.length]) [(20000,1,.row true (ab GCue.enc res.sheet.cues)),(20001,1,.row true (ab eI res.sheet.prep)),(20002,1,.row true (ab ah.encO res.desk.show_.nodes)),(20003,1,.row true (ab GTie.enc res.desk.show_.ties)),(20004,1,.row true (ab eI res.desk.state.times)),(20005,1,.row true (ab eI res.desk.state.values)),(20006,1,.row true (ab al.encO res.desk.log)),(20007,1,.row true (ab aE.enc res.takes))]):=⟨by
 intro res h0
 refine az (ra:=[.homeCell 0 0,.homeCell 0 1,.homeCell 0 3,.homeCell 0 4,.homeCell 0 7,.homeCell 0 8,.homeCell 0 10,.homeCell 0 11]) (md:=mdT) hT (hi:=hi00) func11 rfl rfl (by decide +kernel) (by simp) ?_
 unfold gI at h0
 exact run⟩
instance k29 {v0:List GCue}:Ctr (fU v0) (fun (res:List GCue)=>aj prog 29 [.sl (ab GCue.enc v0)] [] (.ref 20000 1 0 res.length) [(20000,1,.row true (ab GCue.enc res))]):=⟨by
 intro res h0
 refine az (ra:=[.home 2]) (md:=mdT) hT (hi:=hi00) func29 rfl rfl (by decide +kernel) (by simp) ?_
 unfold fU at h0
 obtain⟨_,h0,_⟩|⟨a0,h0⟩:=mQ h0
 ·exact run
 have:=fun (e:_→List AV)=>lF (e:=e) a0
 exact run⟩
instance k30 {v0:List Int}:Ctr (aT v0) (fun (res:List Int)=>aj prog 30 [.sl (ab eI v0)] [] (.ref 20000 1 0 res.length) [(20000,1,.row true (ab eI res))]):=⟨by
 intro res h0
 refine az (ra:=[.home 2]) (md:=mdT) hT (hi:=hi00) func30 rfl rfl (by decide +kernel) (by simp) ?_
 unfold aT at h0
 obtain⟨_,h0,_⟩|⟨a0,h0⟩:=mQ h0
 ·exact run
 have:=fun (e:_→List AV)=>lF (e:=e) a0
 exact run⟩
@[go_sem] def hi20_1:DT:=.i2 0 (.i2 1 (.i1 3 (.i1 4 (.i1 6 (.i1 7 (.i0 2 [3,4,6,7] (.i0 5 [6,7] (.i2 8 (.i2 9 .nil)))))))))
def hi20:Hint where
 acts:=fun _=>[]
 draws:=fun
  | 1=>⟨hi20_1,[[],[0],[0,1],[],[3],.range 5,[],[6],.range 8,.range 9],.range 10⟩
  | _=>⟨.nil,[],[]⟩
theorem GJ (i:Nat):hi20.acts i=[]:=rfl
attribute[go_sem] GJ ntmps20 results20
@[go_sem] theorem IJ:(hi20.draws 1).order=hi20_1:=rfl
instance k20 {t:GSheet}:Ctr (eE t) (fun (res:GSheet)=>aj prog 20 [.agg (GSheet.encS t)] [] (.agg [.ref 20000 1 0 res.cues.length,.ref 20001 1 0 res.prep.length,.lit (.int .i64 res.horizon)]) [(20000,1,.row true (ab GCue.enc res.cues)),(20001,1,.row true (ab eI res.prep))]):=⟨by
 intro res h0
 refine az (ra:=[.homeCell 128 0,.homeCell 128 1]) (md:=mdT) hT (hi:=hi20) func20 rfl rfl (by decide +kernel) (by simp) ?_
 unfold eE at h0
 exact run⟩
instance k49 {v0:List GTie}:Ctr (fV v0) (fun (res:List GTie)=>aj prog 49 [.sl (ab GTie.enc v0)] [] (.ref 20000 1 0 res.length) [(20000,1,.row true (ab GTie.enc res))]):=⟨by
 intro res h0
 refine az (ra:=[.home 2]) (md:=mdT) hT (hi:=hi00) func49 rfl rfl (by decide +kernel) (by simp) ?_
 unfold fV at h0
 obtain⟨_,h0,_⟩|⟨a0,h0⟩:=mQ h0
 ·exact run
 have:=fun (e:_→List AV)=>lF (e:=e) a0
 exact run⟩
@[go_sem] def iC (v13:List ah)(v14 out_2:Int)(h512:List GTie):(Int × (List ah))→St
 | (v15,h100012288)=>⟨[(2,.ptr 128 1 0 0),(3,.ptr 192 1 0 0),(13,.sl (ab ah.encS v13)),(14,.lit (.int .i64 v14)),(15,.lit (.int .i64 v15))],[(128,1,.var [.lit (.slice none 0 0),.lit (.slice none 0 0),.lit (.int .i64 0)]),(192,1,.var [.ref 100012288 1 0 h100012288.length,.ref 512 1 0 h512.length,.lit (.int .i64 out_2)]),(100012288,1,.row true (ab ah.encO h100012288)),(512,1,.row true (ab GTie.enc h512))],2⟩
@[go_sem] def hi31_1:DT:=.i1 0 (.i1 1 (.i1 3 (.i1 4 (.fork (.i0 2 [3,4] (.i2 5 (.i0 6 [0,1,3,4] (.i2 7 .nil)))) (.i0 6 [0,1,3,4] (.i0 2 [3,4] (.i2 5 (.i2 7 .nil))))))))
def hi31:Hint where
 acts:=fun _=>[]
 draws:=fun
  | 1=>⟨hi31_1,[[],[0],[0,1],[],[3],.range 5,[],.range 7],.range 8⟩
  | _=>⟨.nil,[],[]⟩
theorem GK (i:Nat):hi31.acts i=[]:=rfl
attribute[go_sem] GK ntmps31 results31
@[go_sem] theorem IK:(hi31.draws 1).order=hi31_1:=rfl
instance k31 {s:GShow}:Ctr (fC s) (fun (res:GShow)=>aj prog 31 [.agg (GShow.encS s)] [] (.agg [.ref 20000 1 0 res.nodes.length,.ref 20001 1 0 res.ties.length,.lit (.int .i64 res.horizon)]) [(20000,1,.row true (ab ah.encO res.nodes)),(20001,1,.row true (ab GTie.enc res.ties))]):=⟨by
 intro res h0
 refine az (ra:=[.homeCell 128 0,.homeCell 128 1]) (md:=mdT) hT (hi:=hi31) func31 rfl rfl (by decide +kernel) (by simp) ?_
 unfold fC at h0
 try simp(config:=cS)only[go_sem, *]
 refine bR ?_ ?_
 ·obtain⟨r01,g0,h0⟩:=ae h0
  simp(config:=cS)only[go_sem, *]
  have g0:=ctr g0
  refine af g0 ?_
  obtain⟨q04,l0,h0⟩:=ae h0
  simp(config:=cS)only[go_sem, *]
  refine ak (m1:=.mk) (m2:=.mk) [.homeCell 192 0,.nf [2,3,13,14,15] [128,192,100012288,512]] (iC s.nodes (s.nodes.length:Int) s.horizon r01) l0 ?_ ?_
  ·simp(config:=cS)only[go_sem, *]
  have k0:=h0
  clear h0 l0
  intro _ s0 _ h0 gb0
  obtain⟨v15_1,h100012288_1⟩:=s0
  unfold fW at h0
  try dsimp only at h0
  exact run
 obtain⟨r05,g0,h0⟩:=ae h0
 simp(config:=cS)only[go_sem, *]
 have g0:=ctr g0
 refine af g0 ?_
 obtain⟨q08,l0,h0⟩:=ae h0
 simp(config:=cS)only[go_sem, *]
 refine ak (m1:=.mk) (m2:=.mk) [.homeCell 192 0,.nf [2,3,13,14,15] [128,192,100012288,512]] (iC s.nodes (s.nodes.length:Int) s.horizon r05) l0 ?_ ?_
 ·simp(config:=cS)only[go_sem, *]
 have k0:=h0
 clear h0 l0
 intro _ s0 _ h0 gb0
 obtain⟨v15_2,h100012288_2⟩:=s0
 unfold fW at h0
 try dsimp only at h0
 exact run⟩
@[go_sem] def hi32_1:DT:=.i1 0 (.i1 1 (.i2 2 (.i2 3 (.i1 5 (.i1 6 (.i0 4 [0,1,5,6] (.i0 7 [0,1] (.i2 8 (.i2 9 .nil)))))))))
def hi32:Hint where
 acts:=fun _=>[]
 draws:=fun
  | 1=>⟨hi32_1,[[],[0],[],[2],[2,3],[],[5],[2,3,4,5,6],.range 8,.range 9],.range 10⟩
  | _=>⟨.nil,[],[]⟩
theorem GL (i:Nat):hi32.acts i=[]:=rfl
attribute[go_sem] GL ntmps32 results32
@[go_sem] theorem IL:(hi32.draws 1).order=hi32_1:=rfl
instance k32 {v0:GState}:Ctr (cH v0) (fun (res:GState)=>aj prog 32 [.agg (GState.encS v0)] [] (.agg [.lit (.int .i64 res.now),.ref 20000 1 0 res.times.length,.ref 20001 1 0 res.values.length]) [(20000,1,.row true (ab eI res.times)),(20001,1,.row true (ab eI res.values))]):=⟨by
 intro res h0
 refine az (ra:=[.homeCell 128 1,.homeCell 128 2]) (md:=mdT) hT (hi:=hi32) func32 rfl rfl (by decide +kernel) (by simp) ?_
 unfold cH at h0
 exact run⟩
@[go_sem] def nV (v6:List al)(v7:Int):(Int × (List al))→St
 | (v8,out)=>⟨[(3,.ref 255 1 0 out.length),(6,.sl (ab al.encS v6)),(7,.lit (.int .i64 v7)),(8,.lit (.int .i64 v8))],[(255,1,.row true (ab al.encO out))],2⟩
@[go_sem] def hi33_5:DT:=.i2 0 (.i1 1 (.i1 2 (.i2 3 (.i2 4 (.i1 6 (.i1 7 (.i1 9 (.i1 10 (.i0 5 [1,2,6,7,9,10] (.i0 8 [1,2,9,10] (.i0 11 [1,2] (.r2 12 4 .nil))))))))))))
def hi33:Hint where
 acts:=fun _=>[]
 draws:=fun
  | 5=>⟨hi33_5,[[],[],[1],[],[3],[3,4],[],[6],[3,4,5,6,7],[],[9],[3,4,5,6,7,8,9,10],[1,2,3,4,5,6,7,8,9,10,11],[1,2,3,4,5,6,7,8,9,10,11,12],.range 14,.range 15],.range 16⟩
  | _=>⟨.nil,[],[]⟩
theorem GM (i:Nat):hi33.acts i=[]:=rfl
attribute[go_sem] GM ntmps33 results33
@[go_sem] theorem IM:(hi33.draws 5).order=hi33_5:=rfl
instance k33 {log:List al}:Ctr (jL log) (fun (res:List al)=>aj prog 33 [.sl (ab al.encS log)] [] (.ref 20000 1 0 res.length) [(20000,1,.row true (ab al.encO res))]):=⟨by
 intro res h0
 refine az (ra:=[.home 2]) (md:=mdT) hT (hi:=hi33) func33 rfl rfl (by decide +kernel) (by simp) ?_
 unfold jL at h0
 obtain⟨q05,l0,h0⟩:=ae h0
 simp(config:=cS)only[go_sem, *]
 refine ak (m1:=.mk) (m2:=.mk) [.home 3,.nf [3,6,7,8] [255]] (nV log (log.length:Int)) l0 ?_ ?_
 ·simp(config:=cS)only[go_sem, *]
 have k0:=h0
 clear h0 l0
 intro _ s0 _ h0 gb0
 obtain⟨v8_1,out_1⟩:=s0
 unfold kZ at h0
 try dsimp only at h0
 exact run⟩
@[go_sem] def hi21_1:DT:=.i2 0 (.i2 1 (.i1 3 (.i1 4 (.i1 6 (.i1 7 (.i1 8 (.i1 9 (.i0 2 [3,4,6,7,8,9] (.i0 5 [6,7,8,9] (.i0 10 [6,7] (.i2 11 (.i2 12 .nil))))))))))))
def hi21:Hint where
 acts:=fun _=>[]
 draws:=fun
  | 1=>⟨hi21_1,[[],[0],[0,1],[],[3],.range 5,[],[6],[],[8],[0,1,2,3,4,5,8,9],.range 11,.range 12],.range 13⟩
  | _=>⟨.nil,[],[]⟩
theorem GN (i:Nat):hi21.acts i=[]:=rfl
attribute[go_sem] GN ntmps21 results21
@[go_sem] theorem IP:(hi21.draws 1).order=hi21_1:=rfl
instance k21 {d:GDesk}:Ctr (fD d) (fun (res:GDesk)=>aj prog 21 [.agg (GDesk.encS d)] [] (.agg [.ref 20000 1 0 res.show_.nodes.length,.ref 20001 1 0 res.show_.ties.length,.lit (.int .i64 res.show_.horizon),.lit (.int .i64 res.state.now),.ref 20002 1 0 res.state.times.length,.ref 20003 1 0 res.state.values.length,.lit (.bool res.lazy),.ref 20004 1 0 res.log.length]) [(20000,1,.row true (ab ah.encO res.show_.nodes)),(20001,1,.row true (ab GTie.enc res.show_.ties)),(20002,1,.row true (ab eI res.state.times)),(20003,1,.row true (ab eI res.state.values)),(20004,1,.row true (ab al.encO res.log))]):=⟨by
 intro res h0
 refine az (ra:=[.homeCell 128 0,.homeCell 128 1,.homeCell 128 4,.homeCell 128 5,.homeCell 128 7]) (md:=mdT) hT (hi:=hi21) func21 rfl rfl (by decide +kernel) (by simp) ?_
 unfold fD at h0
 exact run⟩
instance k22 {v0:List aE}:Ctr (fc v0) (fun (res:List aE)=>aj prog 22 [.sl (ab aE.enc v0)] [] (.ref 20000 1 0 res.length) [(20000,1,.row true (ab aE.enc res))]):=⟨by
 intro res h0
 refine az (ra:=[.home 2]) (md:=mdT) hT (hi:=hi00) func22 rfl rfl (by decide +kernel) (by simp) ?_
 unfold fc at h0
 obtain⟨_,h0,_⟩|⟨a0,h0⟩:=mQ h0
 ·exact run
 have:=fun (e:_→List AV)=>lF (e:=e) a0
 exact run⟩
@[go_sem] def oO (s:ByteArray)(i:Int):St:=⟨[(0,.lit (.string s)),(3,.lit (.int .i64 i))],[],2⟩
@[go_sem] def hi143_4:DT:=.r2 0 22 .nil
def zH:Hint where
 acts:=fun _=>[]
 draws:=fun
  | 4=>⟨hi143_4,[[],[],[0,1],[0,1,2],[0,1,2,3],.range 5,.range 5,.range 7,.range 8,.range 9,[],[],[10,11],[10,11,12],[0,1,2,3,4,10,11,12,13],[0,1,2,3,4,10,11,12,13,14],[0,1,2,3,4,10,11,12,13,14],[0,1,2,3,4,10,11,12,13,14,15,16],[0,1,2,3,4,10,11,12,13,14,15,16,17],[0,1,2,3,4,10,11,12,13,14,15,16,17,18],.range 15,.range 21],[0,1,2,3,4,5,6,7,8,9,10,11,12,13,14,16,17,18,19,20,15,21]⟩
  | _=>⟨.nil,[],[]⟩
theorem Ff (i:Nat):zH.acts i=[]:=rfl
attribute[go_sem] Ff ntmps143 results143
@[go_sem] theorem Hz:(zH.draws 4).order=hi143_4:=rfl
instance k143 {s:ByteArray}:Ctr (ii s) (fun (res:Bool)=>aj prog 143 [.lit (.string s)] [] (.lit (.bool res)) []):=⟨by
 intro res h0
 refine co (hi:=zH) func143 rfl rfl ?_
 unfold ii at h0
 obtain⟨q02,l0,h0⟩:=ae h0
 simp(config:=cS)only[go_sem, *]
 refine ak (m1:=.mk) (m2:=.mk) [.nf [0,3] []] (oO s) l0 ?_ ?_
 ·simp(config:=cS)only[go_sem, *]
 have k0:=h0
 clear h0 l0
 intro _ i_1 _ h0 gb0
 unfold mi at h0
 try dsimp only at h0
 exact run⟩
instance k88 {n:Int} {most:Int}:Ctr (bq n most) (fun (res:Bool)=>aj prog 88 [.lit (.int .i64 n),.lit (.int .i64 most)] [] (.lit (.bool res)) []):=⟨by
 intro res h0
 refine co (hi:=hi00) func88 rfl rfl ?_
 unfold bq at h0
 exact run⟩
instance k84 {v0:GCue} {index:Int}:Ctr (mj v0 index) (fun (res:Bool)=>aj prog 84 [.agg (GCue.enc v0),.lit (.int .i64 index)] [] (.lit (.bool res)) []):=⟨by
 intro res h0
 refine co (hi:=hi00) func84 rfl rfl ?_
 unfold mj at h0
 exact run⟩
@[go_sem] def jH (v0:List GCue)(f_v1:Nat)(k_v1:List AV)(v7 v8:Int):St:=⟨[(0,.sl (ab GCue.enc v0)),(1,.fn f_v1 k_v1),(7,.lit (.int .i64 v7)),(8,.lit (.int .i64 v8))],[],2⟩
theorem nb {v0:List GCue}{v1:GCue→Option Bool}{f_v1:Nat}{k_v1:List AV}(hp_v1:∀ y0 r,v1 y0=some r→aj prog f_v1 ([.agg (GCue.enc y0)]++k_v1) [] (.lit (.bool r)) [])(hc_v1:KC k_v1)(hm_v1:∀ a,mdT f_v1 a=⟨[],false⟩)(hk_v1:spf f_v1=false){res:Int}(h:dR v0 v1=some res):aj prog 144 [.sl (ab GCue.enc v0),.fn f_v1 k_v1] [] (.lit (.int .i64 res)) []:=by
 refine co (hi:=hi00) func144 rfl rfl ?_
 unfold dR at h
 obtain⟨q03,l1,h⟩:=ae h
 simp(config:=cS)only[go_sem,hc_v1.1,hc_v1.2,hm_v1,hk_v1]
 refine ak (m1:=.mk) (m2:=.mk) [.nf [0,1,7,8] []] (jH v0 f_v1 k_v1 (v0.length:Int)) l1 ?_ ?_
 ·simp(config:=cS)only[go_sem,hc_v1.1,hc_v1.2,hm_v1,hk_v1]
 intro nb2 v8_1 bb2 b2 gb2
 unfold fE at b2
 try dsimp only at b2
 obtain⟨h3,b2⟩|⟨h3,b2⟩:=aO b2
 ·obtain⟨x01,g4,b2⟩:=ae b2
  obtain⟨h5,h6,h7⟩:=bC g4
  obtain⟨r02,g8,b2⟩:=ae b2
  simp(config:=cS)only[go_sem,hc_v1.1,hc_v1.2,hm_v1,hk_v1,eqT h3,h5,h6,h7]
  refine af (hp_v1 _ _ g8) ?_
  obtain⟨h9,b2⟩|⟨h9,b2⟩:=aO b2
  ·cases b2
   obtain rfl:=(aI gb2).symm
   try dsimp only at h
   cases h
   simp(config:=cS)only[go_sem,hc_v1.1,hc_v1.2,hm_v1,hk_v1,eqT h3,h5,h6,h7,eZt h9]
  cases b2
  simp(config:=cS)only[go_sem,hc_v1.1,hc_v1.2,hm_v1,hk_v1,eqT h3,h5,h6,h7,eZf h9]
  refine cE gb2 ?_
  simp(config:=cS)only[go_sem,hc_v1.1,hc_v1.2,hm_v1,hk_v1,eqT h3,h5,h6,h7,eZf h9]
 cases b2
 obtain rfl:=(aI gb2).symm
 try dsimp only at h
 cases h
 simp(config:=cS)only[go_sem,hc_v1.1,hc_v1.2,hm_v1,hk_v1,eqF h3]
instance k145 {v0:GCue} {name:ByteArray}:Ctr (fX v0 name) (fun (res:Bool)=>aj prog 145 [.agg (GCue.enc v0),.loc [.lit (.string name)]] [] (.lit (.bool res)) []):=⟨by
 intro res h0
 refine co (hi:=hi00) func145 rfl rfl ?_
 unfold fX at h0
 exact run⟩
instance k85 {t:GSheet} {name:ByteArray}:Ctr (dK t name) (fun (res:Int)=>aj prog 85 [.agg (GSheet.encS t),.lit (.string name)] [] (.lit (.int .i64 res)) []):=⟨by
 intro res h0
 refine co (hi:=hi00) func85 rfl rfl ?_
 unfold dK at h0
 obtain⟨r01,g0,h0⟩:=ae h0
 simp(config:=cS)only[go_sem, *]
 refine af (nb (by exact fun _ _ hr=>by have q:=ctr hr;exact q) (by refine⟨fun _=>?_,fun _=>?_⟩ <;> simp only[go_sem]) (fun _=>rfl) rfl g0) ?_
 exact run⟩
@[go_sem] def jI (v0:List Int)(f_v1:Nat)(k_v1:List AV)(v7 v8:Int):St:=⟨[(0,.sl (ab eI v0)),(1,.fn f_v1 k_v1),(7,.lit (.int .i64 v7)),(8,.lit (.int .i64 v8))],[],2⟩
theorem gY {v0:List Int}{v1:Int→Option Bool}{f_v1:Nat}{k_v1:List AV}(hp_v1:∀ y0 r,v1 y0=some r→aj prog f_v1 ([.lit (.int .i64 y0)]++k_v1) [] (.lit (.bool r)) [])(hc_v1:KC k_v1)(hm_v1:∀ a,mdT f_v1 a=⟨[],false⟩)(hk_v1:spf f_v1=false){res:Int}(h:cL v0 v1=some res):aj prog 146 [.sl (ab eI v0),.fn f_v1 k_v1] [] (.lit (.int .i64 res)) []:=by
 refine co (hi:=hi00) func146 rfl rfl ?_
 unfold cL at h
 obtain⟨q03,l1,h⟩:=ae h
 simp(config:=cS)only[go_sem,hc_v1.1,hc_v1.2,hm_v1,hk_v1]
 refine ak (m1:=.mk) (m2:=.mk) [.nf [0,1,7,8] []] (jI v0 f_v1 k_v1 (v0.length:Int)) l1 ?_ ?_
 ·simp(config:=cS)only[go_sem,hc_v1.1,hc_v1.2,hm_v1,hk_v1]
 intro nb2 v8_1 bb2 b2 gb2
 unfold fF at b2
 try dsimp only at b2
 obtain⟨h3,b2⟩|⟨h3,b2⟩:=aO b2
 ·obtain⟨x01,g4,b2⟩:=ae b2
  obtain⟨h5,h6,h7⟩:=bC g4
  obtain⟨r02,g8,b2⟩:=ae b2
  simp(config:=cS)only[go_sem,hc_v1.1,hc_v1.2,hm_v1,hk_v1,eqT h3,h5,h6,h7]
  refine af (hp_v1 _ _ g8) ?_
  obtain⟨h9,b2⟩|⟨h9,b2⟩:=aO b2
  ·cases b2
   obtain rfl:=(aI gb2).symm
   try dsimp only at h
   cases h
   simp(config:=cS)only[go_sem,hc_v1.1,hc_v1.2,hm_v1,hk_v1,eqT h3,h5,h6,h7,eZt h9]
  cases b2
  simp(config:=cS)only[go_sem,hc_v1.1,hc_v1.2,hm_v1,hk_v1,eqT h3,h5,h6,h7,eZf h9]
  refine cE gb2 ?_
  simp(config:=cS)only[go_sem,hc_v1.1,hc_v1.2,hm_v1,hk_v1,eqT h3,h5,h6,h7,eZf h9]
 cases b2
 obtain rfl:=(aI gb2).symm
 try dsimp only at h
 cases h
 simp(config:=cS)only[go_sem,hc_v1.1,hc_v1.2,hm_v1,hk_v1,eqF h3]
theorem bz {v0:List Int}{v1:Int→Option Bool}{f_v1:Nat}{k_v1:List AV}(hp_v1:∀ y0 r,v1 y0=some r→aj prog f_v1 ([.lit (.int .i64 y0)]++k_v1) [] (.lit (.bool r)) [])(hc_v1:KC k_v1)(hm_v1:∀ a,mdT f_v1 a=⟨[],false⟩)(hk_v1:spf f_v1=false){res:Bool}(h:bc v0 v1=some res):aj prog 86 [.sl (ab eI v0),.fn f_v1 k_v1] [] (.lit (.bool res)) []:=by
 refine co (hi:=hi00) func86 rfl rfl ?_
 unfold bc at h
 obtain⟨r01,g1,h⟩:=ae h
 simp(config:=cS)only[go_sem,hc_v1.1,hc_v1.2,hm_v1,hk_v1]
 refine af (gY hp_v1 hc_v1 hm_v1 hk_v1 g1) ?_
 cases h
 simp(config:=cS)only[go_sem,hc_v1.1,hc_v1.2,hm_v1,hk_v1]
instance k87 {n:Int}:Ctr (gJ n) (fun (res:Bool)=>aj prog 87 [.lit (.int .i64 n)] [] (.lit (.bool res)) []):=⟨by
 intro res h0
 refine co (hi:=hi00) func87 rfl rfl ?_
 unfold gJ at h0
 exact run⟩
@[go_sem] def nW (v6:List GCue)(v7:Int)(t_1:List Int)(t_2 v8:Int):St:=⟨[(1,.ptr 64 1 0 0),(6,.sl (ab GCue.enc v6)),(7,.lit (.int .i64 v7)),(8,.lit (.int .i64 v8))],[(64,1,.var [.sl (ab GCue.enc v6),.sl (ab eI t_1),.lit (.int .i64 t_2)])],2⟩
instance k50 {t:GSheet}:Ctr (el t) (fun (res:Bool)=>aj prog 50 [.agg (GSheet.encS t)] [] (.lit (.bool res)) []):=⟨by
 intro res h0
 refine co (hi:=hi00) func50 rfl rfl ?_
 unfold el at h0
 obtain⟨q05,l0,h0⟩:=ae h0
 simp(config:=cS)only[go_sem, *]
 refine ak (m1:=.mk) (m2:=.mk) [.nf [1,6,7,8] [64]] (nW t.cues (t.cues.length:Int) t.prep t.horizon) l0 ?_ ?_
 ·simp(config:=cS)only[go_sem, *]
 have k0:=h0
 clear h0 l0
 intro _ v8_1 _ h0 gb0
 unfold lb at h0
 try dsimp only at h0
 obtain⟨_,h0⟩|⟨_,h0⟩:=itP h0
 ·exact run
 cases h0
 obtain rfl:=(aI gb0).symm
 clear gb0
 have h0:=k0
 clear k0
 try dsimp only at h0
 obtain⟨_,h0⟩|⟨_,h0⟩:=itP h0
 ·exact run
 obtain⟨_,h0⟩|⟨_,h0⟩:=itP h0
 ·obtain⟨_,h0⟩|⟨_,h0⟩:=itP h0
  ·exact run
  obtain⟨_,h0⟩|⟨_,h0⟩:=itP h0
  ·exact run
  obtain⟨r04,g0,h0⟩:=ae h0
  simp(config:=cS)only[go_sem, *]
  refine af (bz (by exact fun _ _ hr=>by have q:=ctr hr;exact q) (by refine⟨fun _=>?_,fun _=>?_⟩ <;> simp only[go_sem]) (fun _=>rfl) rfl g0) ?_
  exact run
 exact run⟩
instance k89 {words:List ByteArray}:Ctr (aN words) (fun (res:ByteArray × (List ByteArray))=>aj prog 89 [.ptr 10000 0 0 0] [(10000,0,.var [.sl (ab eS words)])] (.lit (.string res.1)) [(10000,0,.var [.sl (ab eS res.2)])]):=⟨by
 intro res h0
 refine co (hi:=hi00) func89 rfl rfl ?_
 unfold aN at h0
 obtain⟨_,h0⟩|⟨_,h0⟩:=itP h0
 ·exact run
 obtain⟨x01,g1,h0⟩:=ae h0
 have:=aM (k:=0) g1
 exact run⟩
instance k90 {cap0:List ByteArray}:Ctr (aC cap0) (fun (res:Int × (List ByteArray))=>aj prog 90 [.ptr 10000 0 0 0] [(10000,0,.var [.fn 89 [.ptr 10001 0 0 0]]),(10001,0,.var [.sl (ab eS cap0)])] (.lit (.int .i64 res.1)) [(10000,0,.var [.fn 89 [.ptr 10001 0 0 0]]),(10001,0,.var [.sl (ab eS res.2)])]):=⟨by
 intro res h0
 refine co (hi:=hi00) func90 rfl rfl ?_
 unfold aC at h0
 obtain⟨r01,g0,h0⟩:=ae h0
 simp(config:=cS)only[go_sem, *]
 have g0:=ctr g0
 refine af g0 ?_
 obtain⟨r02,g0,h0⟩:=ae h0
 simp(config:=cS)only[go_sem, *]
 refine af (dN g0) ?_
 exact run⟩
instance k203 {l:Int}:Ctr (bT l) (fun (res:Int)=>aj prog 203 [.lit (.int .i64 l)] [] (.lit (.int .i64 res)) []):=⟨by
 intro res h0
 refine co (hi:=hi00) func203 rfl rfl ?_
 unfold bT at h0
 exact run⟩
@[go_sem] def nX (l:List Int)(v6 v7:Int):St:=⟨[(0,.sl (ab eI l)),(5,.sl (ab eI l)),(6,.lit (.int .i64 v6)),(7,.lit (.int .i64 v7))],[],2⟩
instance k202 {l:List Int}:Ctr (bU l) (fun (res:Bool)=>aj prog 202 [.sl (ab eI l)] [] (.lit (.bool res)) []):=⟨by
 intro res h0
 refine co (hi:=hi00) func202 rfl rfl ?_
 unfold bU at h0
 obtain⟨q05,l0,h0⟩:=ae h0
 simp(config:=cS)only[go_sem, *]
 refine ak (m1:=.mk) (m2:=.mk) [.nf [0,5,6,7] []] (nX l (l.length:Int)) l0 ?_ ?_
 ·simp(config:=cS)only[go_sem, *]
 have k0:=h0
 clear h0 l0
 intro _ v7_1 _ h0 gb0
 unfold lc at h0
 try dsimp only at h0
 exact run⟩
instance k13 {l:List ByteArray} {by_:ByteArray}:Ctr (ao l by_) (fun (res:ByteArray)=>aj prog 13 [.sl (ab eS l),.lit (.string by_)] [] (.lit (.string res)) []):=⟨by
 intro res h0
 refine co (hi:=hi00) func13 rfl rfl ?_
 unfold ao at h0
 obtain⟨r01,g0,h0⟩:=ae h0
 simp(config:=cS)only[go_sem, *]
 refine af (wm g0) ?_
 exact run⟩
@[go_sem] def ma (v13:List Int)(v14:Int):(Int × (List ByteArray))→St
 | (v15,parts)=>⟨[(3,.ref 255 1 0 parts.length),(13,.sl (ab eI v13)),(14,.lit (.int .i64 v14)),(15,.lit (.int .i64 v15))],[(255,1,.row true (ab eS parts))],2⟩
instance k147 {l:List Int}:Ctr (aR l) (fun (res:ByteArray)=>aj prog 147 [.sl (ab eI l)] [] (.lit (.string res)) []):=⟨by
 intro res h0
 refine co (hi:=hi00) func147 rfl rfl ?_
 unfold aR at h0
 obtain⟨r01,g0,h0⟩:=ae h0
 simp(config:=cS)only[go_sem, *]
 have g0:=ctr g0
 refine af g0 ?_
 obtain⟨_,h0⟩|⟨_,h0⟩:=itB h0
 ·obtain⟨_,h0⟩|⟨_,h0⟩:=itP h0
  ·exact run
  obtain⟨q06,l0,h0⟩:=ae h0
  simp(config:=cS)only[go_sem, *]
  refine ak (m1:=.mk) (m2:=.mk) [.home 3,.nf [3,13,14,15] [255]] (ma l (l.length:Int)) l0 ?_ ?_
  ·simp(config:=cS)only[go_sem, *]
  have k0:=h0
  clear h0 l0
  intro _ s0 _ h0 gb0
  obtain⟨v15_1,parts_1⟩:=s0
  unfold iE at h0
  try dsimp only at h0
  obtain⟨_,h0⟩|⟨_,h0⟩:=itP h0
  ·obtain⟨x02,_,_,_,h0⟩:=gtI h0
   obtain⟨r03,g0,h0⟩:=ae h0
   simp(config:=cS)only[go_sem, *]
   have g0:=ctr g0
   refine af g0 ?_
   obtain⟨r04,g0,h0⟩:=ae h0
   simp(config:=cS)only[go_sem, *]
   have g0:=ctr g0
   refine af g0 ?_
   obtain⟨_,h0⟩:=ckP h0
   obtain⟨_,h0⟩|⟨_,h0⟩:=itP h0
   ·obtain⟨a1,h0⟩:=ckP h0
    try simp(config:=cS)only[go_sem]at a1
    exact run
   exact run
  exact run
 exact run⟩
@[go_sem] def mz (s:ByteArray)(v14:Int)(v13:List ByteArray):(Int × (List Int))→St
 | (v15,out)=>⟨[(0,.lit (.string s)),(4,.ref 319 1 0 out.length),(13,.ref 832 1 0 v13.length),(14,.lit (.int .i64 v14)),(15,.lit (.int .i64 v15))],[(319,1,.row true (ab eI out)),(832,1,.row true (ab eS v13))],2⟩
instance k91 {s:ByteArray}:Ctr (ck s) (fun (res:(List Int) × Bool)=>aj prog 91 [.lit (.string s)] [] (.tup [.ref 20000 1 0 res.1.length,.lit (.bool res.2)]) [(20000,1,.row true (ab eI res.1))]):=⟨by
 intro res h0
 refine az (ra:=[.home 2]) (md:=mdT) hT (hi:=hi00) func91 rfl rfl (by decide +kernel) (by simp) ?_
 unfold ck at h0
 obtain⟨_,h0⟩|⟨_,h0⟩:=itP h0
 ·exact run
 obtain⟨r01,g0,h0⟩:=ae h0
 simp(config:=cS)only[go_sem, *]
 have g0:=ctr g0
 refine af g0 ?_
 obtain⟨q10,l0,h0⟩:=ae h0
 simp(config:=cS)only[go_sem, *]
 refine ak (m1:=.mk) (m2:=.mk) [.home 4,.nf [0,4,13,14,15] [319,832]] (mz s (r01.length:Int) r01) l0 ?_ ?_
 ·simp(config:=cS)only[go_sem, *]
 have k0:=h0
 clear h0 l0
 intro _ s0 _ h0 gb0
 obtain⟨v15_1,out_1⟩:=s0
 unfold jb at h0
 try dsimp only at h0
 obtain⟨_,h0⟩|⟨_,h0⟩:=itP h0
 ·obtain⟨x02,_,_,_,h0⟩:=gtI h0
  obtain⟨_,h0⟩|⟨_,h0⟩:=itP h0
  ·obtain⟨c1003,g1,h0⟩:=ae h0
   have:=ik (k:=0) g1
   obtain⟨_,h0⟩|⟨_,h0⟩:=itP h0
   ·obtain⟨_,h0⟩:=ckP h0
    obtain⟨_,h0⟩|⟨_,h0⟩:=itP h0
    ·exact run
    obtain⟨c1004,g2,h0⟩:=ae h0
    have:=ik (k:=0) g2
    obtain⟨_,h0⟩|⟨_,h0⟩:=itP h0
    ·obtain⟨_,h0⟩:=ckP h0
     obtain⟨r05,g0,h0⟩:=ae h0
     simp(config:=cS)only[go_sem, *]
     refine af (dN g0) ?_
     exact run
    exact run
   obtain⟨_,h0⟩|⟨_,h0⟩:=itP h0
   ·exact run
   obtain⟨_,h0⟩|⟨_,h0⟩:=itP h0
   ·obtain⟨_,h0⟩:=ckP h0
    obtain⟨r06,g0,h0⟩:=ae h0
    simp(config:=cS)only[go_sem, *]
    refine af (dN g0) ?_
    exact run
   exact run
  obtain⟨_,h0⟩|⟨_,h0⟩:=itP h0
  ·exact run
  obtain⟨c1007,g3,h0⟩:=ae h0
  have:=ik (k:=0) g3
  obtain⟨_,h0⟩|⟨_,h0⟩:=itP h0
  ·obtain⟨_,h0⟩:=ckP h0
   obtain⟨r08,g0,h0⟩:=ae h0
   simp(config:=cS)only[go_sem, *]
   refine af (dN g0) ?_
   exact run
  exact run
 exact run⟩
@[go_sem] def nc (v8_0:ByteArray)(v8_1 v8_3 v8_4:Int):((List ByteArray) × Int × Int × Bool × Int × Int × Int)→St
 | (words_0,v8_5,v8_6,v8_7,v8_8,v8_9,v8_10)=>⟨[(4,.ptr 256 1 0 0),(5,.ptr 320 1 0 0),(6,.ptr 384 1 0 0),(7,.fn 90 [.ptr 384 1 0 0]),(8,.ptr 512 1 0 0)],[(256,1,.var [.lit (.string (ByteArray.mk #[])),.lit (.int .i64 0),.lit (.bool false),.lit (.int .i64 0),.lit (.int .i64 0),.lit (.int .i64 0),.lit (.int .i64 0),.lit (.bool false),.lit (.int .i64 0),.lit (.int .i64 0),.lit (.int .i64 0)]),(320,1,.var [.sl (ab eS words_0)]),(384,1,.var [.fn 89 [.ptr 320 1 0 0]]),(512,1,.var [.lit (.string v8_0),.lit (.int .i64 v8_1),.lit (.bool false),.lit (.int .i64 v8_3),.lit (.int .i64 v8_4),.lit (.int .i64 v8_5),.lit (.int .i64 v8_6),.lit (.bool v8_7),.lit (.int .i64 v8_8),.lit (.int .i64 v8_9),.lit (.int .i64 v8_10)])],2⟩
@[go_sem] def nd (v8_0:ByteArray)(v8_1 v8_3 v8_4:Int):((List ByteArray) × Int × Int × Bool × Int × Int × Int)→St
 | (words_0,v8_5,v8_6,v8_7,v8_8,v8_9,v8_10)=>⟨[(4,.ptr 256 1 0 0),(5,.ptr 320 1 0 0),(6,.ptr 384 1 0 0),(7,.fn 90 [.ptr 384 1 0 0]),(8,.ptr 512 1 0 0)],[(256,1,.var [.lit (.string (ByteArray.mk #[])),.lit (.int .i64 0),.lit (.bool false),.lit (.int .i64 0),.lit (.int .i64 0),.lit (.int .i64 0),.lit (.int .i64 0),.lit (.bool false),.lit (.int .i64 0),.lit (.int .i64 0),.lit (.int .i64 0)]),(320,1,.var [.sl (ab eS words_0)]),(384,1,.var [.fn 89 [.ptr 320 1 0 0]]),(512,1,.var [.lit (.string v8_0),.lit (.int .i64 v8_1),.lit (.bool true),.lit (.int .i64 v8_3),.lit (.int .i64 v8_4),.lit (.int .i64 v8_5),.lit (.int .i64 v8_6),.lit (.bool v8_7),.lit (.int .i64 v8_8),.lit (.int .i64 v8_9),.lit (.int .i64 v8_10)])],2⟩
@[go_sem] def ng (v8_0:ByteArray)(v8_3 v8_4:Int):((List ByteArray) × Int × Int × Bool × Int × Int × Int)→St
 | (words_0,v8_5,v8_6,v8_7,v8_8,v8_9,v8_10)=>⟨[(4,.ptr 256 1 0 0),(5,.ptr 320 1 0 0),(6,.ptr 384 1 0 0),(7,.fn 90 [.ptr 384 1 0 0]),(8,.ptr 512 1 0 0)],[(256,1,.var [.lit (.string (ByteArray.mk #[])),.lit (.int .i64 0),.lit (.bool false),.lit (.int .i64 0),.lit (.int .i64 0),.lit (.int .i64 0),.lit (.int .i64 0),.lit (.bool false),.lit (.int .i64 0),.lit (.int .i64 0),.lit (.int .i64 0)]),(320,1,.var [.sl (ab eS words_0)]),(384,1,.var [.fn 89 [.ptr 320 1 0 0]]),(512,1,.var [.lit (.string v8_0),.lit (.int .i64 (-1)),.lit (.bool false),.lit (.int .i64 v8_3),.lit (.int .i64 v8_4),.lit (.int .i64 v8_5),.lit (.int .i64 v8_6),.lit (.bool v8_7),.lit (.int .i64 v8_8),.lit (.int .i64 v8_9),.lit (.int .i64 v8_10)])],2⟩
@[go_sem] def hi51_10:DT:=.i1 0 (.i2 1 (.i0 2 [0] (.r2 3 5 .nil)))
@[go_sem] def hi51_8:DT:=.i1 0 (.i2 1 (.i0 2 [0] (.r2 3 3 .nil)))
def hi51:Hint where
 acts:=fun i=>match i with|4=>[.freeze [768],.sliC 320 0]|_=>[]
 draws:=fun
  | 8=>⟨hi51_8,[[],[],[1],[0,1,2],[0,1,2,3],.range 5],.range 6⟩
  | 10=>⟨hi51_10,[[],[],[1],[0,1,2],[0,1,2,3],.range 5,.range 6,.range 7],.range 8⟩
  | _=>⟨.nil,[],[]⟩
@[go_sem] theorem IQ:hi51.acts 0=[]:=rfl
@[go_sem] theorem IR:hi51.acts 1=[]:=rfl
@[go_sem] theorem IS:hi51.acts 2=[]:=rfl
@[go_sem] theorem IT:hi51.acts 3=[]:=rfl
@[go_sem] theorem IU:hi51.acts 4=[.freeze [768],.sliC 320 0]:=rfl
@[go_sem] theorem IV:hi51.acts 5=[]:=rfl
@[go_sem] theorem IW:hi51.acts 6=[]:=rfl
@[go_sem] theorem IX:hi51.acts 7=[]:=rfl
@[go_sem] theorem IY:hi51.acts 8=[]:=rfl
@[go_sem] theorem IZ:hi51.acts 9=[]:=rfl
@[go_sem] theorem HA:hi51.acts 10=[]:=rfl
@[go_sem] theorem HB:hi51.acts 11=[]:=rfl
@[go_sem] theorem HC:hi51.acts 12=[]:=rfl
@[go_sem] theorem HD:hi51.acts 13=[]:=rfl
@[go_sem] theorem HE:hi51.acts 14=[]:=rfl
@[go_sem] theorem HF:hi51.acts 15=[]:=rfl
@[go_sem] theorem HG:hi51.acts 16=[]:=rfl
@[go_sem] theorem HH:hi51.acts 17=[]:=rfl
@[go_sem] theorem HI:hi51.acts 18=[]:=rfl
@[go_sem] theorem HJ:hi51.acts 19=[]:=rfl
@[go_sem] theorem HK:hi51.acts 20=[]:=rfl
@[go_sem] theorem HL:hi51.acts 21=[]:=rfl
@[go_sem] theorem HM:hi51.acts 22=[]:=rfl
@[go_sem] theorem HN:hi51.acts 23=[]:=rfl
@[go_sem] theorem HP:hi51.acts 24=[]:=rfl
@[go_sem] theorem HQ:hi51.acts 25=[]:=rfl
@[go_sem] theorem HR:hi51.acts 26=[]:=rfl
@[go_sem] theorem Ja:(hi51.draws 8).order=hi51_8:=rfl
@[go_sem] theorem HS:(hi51.draws 10).order=hi51_10:=rfl
instance k51 {t:GSheet} {line:ByteArray}:Ctr (il t line) (fun (res:GCue)=>aj prog 51 [.agg (GSheet.encS t),.lit (.string line)] [] (.agg (GCue.enc res)) []):=⟨by
 intro res h0
 refine co (hi:=hi51) func51 rfl rfl ?_
 unfold il at h0
 obtain⟨r01,g0,h0⟩:=ae h0
 simp(config:=cS)only[go_sem, *]
 have g0:=ctr g0
 refine af g0 ?_
 obtain⟨r02,g0,h0⟩:=ae h0
 simp(config:=cS)only[go_sem, *]
 have g0:=ctr g0
 refine af g0 ?_
 obtain⟨r03,g0,h0⟩:=ae h0
 simp(config:=cS)only[go_sem, *]
 have g0:=ctr g0
 refine af g0 ?_
 obtain⟨r04,g0,h0⟩:=ae h0
 simp(config:=cS)only[go_sem, *]
 have g0:=ctr g0
 refine af g0 ?_
 obtain⟨_,h0⟩|⟨_,h0⟩:=itP h0
 ·obtain⟨r05,g0,h0⟩:=ae h0
  simp(config:=cS)only[go_sem, *]
  have g0:=ctr g0
  refine af g0 ?_
  obtain⟨r06,g0,h0⟩:=ae h0
  simp(config:=cS)only[go_sem, *]
  have g0:=ctr g0
  refine af g0 ?_
  obtain⟨r07,g0,h0⟩:=ae h0
  simp(config:=cS)only[go_sem, *]
  have g0:=ctr g0
  refine af g0 ?_
  obtain⟨r08,g0,h0⟩:=ae h0
  simp(config:=cS)only[go_sem, *]
  have g0:=ctr g0
  refine af g0 ?_
  obtain⟨q19,l0,h0⟩:=ae h0
  simp(config:=cS)only[go_sem, *]
  refine ak (m1:=.mk) (m2:=.mk) [.nf [4,5,6,7,8] [256,320,384,512]] (nc r03.1 r06 r07.1 r08.1) l0 ?_ ?_
  ·simp(config:=cS)only[go_sem, *]
  have k0:=h0
  clear h0 l0
  intro _ s0 _ h0 gb0
  obtain⟨words_0_1,v8_5_1,v8_6_1,v8_7_1,v8_8_1,v8_9_1,v8_10_1⟩:=s0
  unfold jt at h0
  try dsimp only at h0
  obtain⟨_,h0⟩|⟨_,h0⟩:=itP h0
  ·obtain⟨r09,g0,h0⟩:=ae h0
   simp(config:=cS)only[go_sem, *]
   have g0:=ctr g0
   refine af g0 ?_
   obtain⟨_,h0⟩|⟨_,h0⟩:=itP h0
   ·exact run
   obtain⟨_,h0⟩|⟨_,h0⟩:=itP h0
   ·exact run
   obtain⟨_,h0⟩|⟨_,h0⟩:=itP h0
   ·obtain⟨r14,g0,h0⟩:=ae h0
    simp(config:=cS)only[go_sem, *]
    have g0:=ctr g0
    refine af g0 ?_
    obtain⟨r15,g0,h0⟩:=ae h0
    simp(config:=cS)only[go_sem, *]
    have g0:=ctr g0
    refine af g0 ?_
    obtain⟨_,h0⟩|⟨_,h0⟩:=itP h0
    ·obtain⟨x16,g1,h0⟩:=ae h0
     have:=aM (k:=0) g1
     exact run
    exact run
   exact run
  exact run
 obtain⟨_,h0⟩|⟨_,h0⟩:=itP h0
 ·obtain⟨r20,g0,h0⟩:=ae h0
  simp(config:=cS)only[go_sem, *]
  have g0:=ctr g0
  refine af g0 ?_
  obtain⟨r21,g0,h0⟩:=ae h0
  simp(config:=cS)only[go_sem, *]
  have g0:=ctr g0
  refine af g0 ?_
  obtain⟨r22,g0,h0⟩:=ae h0
  simp(config:=cS)only[go_sem, *]
  have g0:=ctr g0
  refine af g0 ?_
  obtain⟨r23,g0,h0⟩:=ae h0
  simp(config:=cS)only[go_sem, *]
  have g0:=ctr g0
  refine af g0 ?_
  obtain⟨q34,l0,h0⟩:=ae h0
  simp(config:=cS)only[go_sem, *]
  refine ak (m1:=.mk) (m2:=.mk) [.nf [4,5,6,7,8] [256,320,384,512]] (nd r03.1 r21 r22.1 r23.1) l0 ?_ ?_
  ·simp(config:=cS)only[go_sem, *]
  have k0:=h0
  clear h0 l0
  intro _ s0 _ h0 gb0
  obtain⟨words_0_2,v8_5_2,v8_6_2,v8_7_2,v8_8_2,v8_9_2,v8_10_2⟩:=s0
  unfold ju at h0
  try dsimp only at h0
  obtain⟨_,h0⟩|⟨_,h0⟩:=itP h0
  ·obtain⟨r24,g0,h0⟩:=ae h0
   simp(config:=cS)only[go_sem, *]
   have g0:=ctr g0
   refine af g0 ?_
   obtain⟨_,h0⟩|⟨_,h0⟩:=itP h0
   ·exact run
   obtain⟨_,h0⟩|⟨_,h0⟩:=itP h0
   ·exact run
   obtain⟨_,h0⟩|⟨_,h0⟩:=itP h0
   ·obtain⟨r29,g0,h0⟩:=ae h0
    simp(config:=cS)only[go_sem, *]
    have g0:=ctr g0
    refine af g0 ?_
    obtain⟨r30,g0,h0⟩:=ae h0
    simp(config:=cS)only[go_sem, *]
    have g0:=ctr g0
    refine af g0 ?_
    obtain⟨_,h0⟩|⟨_,h0⟩:=itP h0
    ·obtain⟨x31,g2,h0⟩:=ae h0
     have:=aM (k:=0) g2
     exact run
    exact run
   exact run
  exact run
 obtain⟨r35,g0,h0⟩:=ae h0
 simp(config:=cS)only[go_sem, *]
 have g0:=ctr g0
 refine af g0 ?_
 obtain⟨r36,g0,h0⟩:=ae h0
 simp(config:=cS)only[go_sem, *]
 have g0:=ctr g0
 refine af g0 ?_
 obtain⟨q47,l0,h0⟩:=ae h0
 simp(config:=cS)only[go_sem, *]
 refine ak (m1:=.mk) (m2:=.mk) [.nf [4,5,6,7,8] [256,320,384,512]] (ng r03.1 r35.1 r36.1) l0 ?_ ?_
 ·simp(config:=cS)only[go_sem, *]
 have k0:=h0
 clear h0 l0
 intro _ s0 _ h0 gb0
 obtain⟨words_0_3,v8_5_3,v8_6_3,v8_7_3,v8_8_3,v8_9_3,v8_10_3⟩:=s0
 unfold jv at h0
 try dsimp only at h0
 obtain⟨_,h0⟩|⟨_,h0⟩:=itP h0
 ·obtain⟨r37,g0,h0⟩:=ae h0
  simp(config:=cS)only[go_sem, *]
  have g0:=ctr g0
  refine af g0 ?_
  obtain⟨_,h0⟩|⟨_,h0⟩:=itP h0
  ·exact run
  obtain⟨_,h0⟩|⟨_,h0⟩:=itP h0
  ·exact run
  obtain⟨_,h0⟩|⟨_,h0⟩:=itP h0
  ·obtain⟨r42,g0,h0⟩:=ae h0
   simp(config:=cS)only[go_sem, *]
   have g0:=ctr g0
   refine af g0 ?_
   obtain⟨r43,g0,h0⟩:=ae h0
   simp(config:=cS)only[go_sem, *]
   have g0:=ctr g0
   refine af g0 ?_
   obtain⟨_,h0⟩|⟨_,h0⟩:=itP h0
   ·obtain⟨x44,g3,h0⟩:=ae h0
    have:=aM (k:=0) g3
    exact run
   exact run
  exact run
 exact run⟩
instance k92 {n:Int} {node:Int}:Ctr (bj n node) (fun (res:Bool)=>aj prog 92 [.lit (.int .i64 n),.lit (.int .i64 node)] [] (.lit (.bool res)) []):=⟨by
 intro res h0
 refine co (hi:=hi00) func92 rfl rfl ?_
 unfold bj at h0
 exact run⟩
@[go_sem] def hi93_13:DT:=.r2 0 4 (.i1 5 (.i1 6 (.i0 4 [5,6] (.r2 7 4 .nil))))
@[go_sem] def hi93_8:DT:=.r2 0 3 (.i1 4 (.i1 5 (.i0 3 [4,5] (.r2 6 4 .nil))))
def hi93:Hint where
 acts:=fun _=>[]
 draws:=fun
  | 8=>⟨hi93_8,[[],[],[1],[1,2],[],[4],[1,2,3,4,5],[1,2,3,4,5,6],.range 8,.range 9],.range 10⟩
  | 13=>⟨hi93_13,[[],[],[],[2],[2,3],[],[5],[2,3,4,5,6],[1,2,3,4,5,6,7],.range 9,.range 10],.range 11⟩
  | _=>⟨.nil,[],[]⟩
theorem GO (i:Nat):hi93.acts i=[]:=rfl
attribute[go_sem] GO ntmps93 results93
@[go_sem] theorem Jb:(hi93.draws 8).order=hi93_8:=rfl
@[go_sem] theorem HT:(hi93.draws 13).order=hi93_13:=rfl
instance k93 {t:GSheet} {i:Int}:Ctr (jN t i) (fun (res:ByteArray)=>aj prog 93 [.agg (GSheet.encS t),.lit (.int .i64 i)] [] (.lit (.string res)) []):=⟨by
 intro res h0
 refine co (hi:=hi93) func93 rfl rfl ?_
 unfold jN at h0
 obtain⟨x01,_,_,_,h0⟩:=gtI h0
 obtain⟨_,h0⟩|⟨_,h0⟩:=itP h0
 ·obtain⟨r02,g0,h0⟩:=ae h0
  simp(config:=cS)only[go_sem, *]
  have g0:=ctr g0
  refine af g0 ?_
  obtain⟨r03,g0,h0⟩:=ae h0
  simp(config:=cS)only[go_sem, *]
  have g0:=ctr g0
  refine af g0 ?_
  obtain⟨a1,h0⟩:=ckP h0
  try simp(config:=cS)only[go_sem]at a1
  obtain⟨a2,h0⟩:=ckP h0
  try simp(config:=cS)only[go_sem]at a2
  obtain⟨_,h0⟩|⟨_,h0⟩:=itP h0
  ·obtain⟨_,h0⟩|⟨_,h0⟩:=itP h0
   ·obtain⟨_,h0⟩|⟨_,h0⟩:=itP h0
    ·obtain⟨_,h0⟩|⟨_,h0⟩:=itP h0
     ·exact run
     obtain⟨r05,g0,h0⟩:=ae h0
     simp(config:=cS)only[go_sem, *]
     have g0:=ctr g0
     refine af g0 ?_
     obtain⟨a3,h0⟩:=ckP h0
     try simp(config:=cS)only[go_sem]at a3
     obtain⟨a4,h0⟩:=ckP h0
     try simp(config:=cS)only[go_sem]at a4
     exact run
    obtain⟨r07,g0,h0⟩:=ae h0
    simp(config:=cS)only[go_sem, *]
    have g0:=ctr g0
    refine af g0 ?_
    obtain⟨a5,h0⟩:=ckP h0
    try simp(config:=cS)only[go_sem]at a5
    obtain⟨a6,h0⟩:=ckP h0
    try simp(config:=cS)only[go_sem]at a6
    obtain⟨_,h0⟩|⟨_,h0⟩:=itP h0
    ·exact run
    obtain⟨r09,g0,h0⟩:=ae h0
    simp(config:=cS)only[go_sem, *]
    have g0:=ctr g0
    refine af g0 ?_
    obtain⟨a7,h0⟩:=ckP h0
    try simp(config:=cS)only[go_sem]at a7
    obtain⟨a8,h0⟩:=ckP h0
    try simp(config:=cS)only[go_sem]at a8
    exact run
   obtain⟨r11,g0,h0⟩:=ae h0
   simp(config:=cS)only[go_sem, *]
   have g0:=ctr g0
   refine af g0 ?_
   obtain⟨a9,h0⟩:=ckP h0
   try simp(config:=cS)only[go_sem]at a9
   obtain⟨a10,h0⟩:=ckP h0
   try simp(config:=cS)only[go_sem]at a10
   obtain⟨_,h0⟩|⟨_,h0⟩:=itP h0
   ·obtain⟨_,h0⟩|⟨_,h0⟩:=itP h0
    ·exact run
    obtain⟨r13,g0,h0⟩:=ae h0
    simp(config:=cS)only[go_sem, *]
    have g0:=ctr g0
    refine af g0 ?_
    obtain⟨a11,h0⟩:=ckP h0
    try simp(config:=cS)only[go_sem]at a11
    obtain⟨a12,h0⟩:=ckP h0
    try simp(config:=cS)only[go_sem]at a12
    exact run
   obtain⟨r15,g0,h0⟩:=ae h0
   simp(config:=cS)only[go_sem, *]
   have g0:=ctr g0
   refine af g0 ?_
   obtain⟨a13,h0⟩:=ckP h0
   try simp(config:=cS)only[go_sem]at a13
   obtain⟨a14,h0⟩:=ckP h0
   try simp(config:=cS)only[go_sem]at a14
   obtain⟨_,h0⟩|⟨_,h0⟩:=itP h0
   ·exact run
   obtain⟨r17,g0,h0⟩:=ae h0
   simp(config:=cS)only[go_sem, *]
   have g0:=ctr g0
   refine af g0 ?_
   obtain⟨a15,h0⟩:=ckP h0
   try simp(config:=cS)only[go_sem]at a15
   obtain⟨a16,h0⟩:=ckP h0
   try simp(config:=cS)only[go_sem]at a16
   exact run
  obtain⟨_,h0⟩|⟨_,h0⟩:=itB h0
  ·obtain⟨r19,g0,h0⟩:=ae h0
   simp(config:=cS)only[go_sem, *]
   have g0:=ctr g0
   refine af g0 ?_
   obtain⟨r20,g0,h0⟩:=ae h0
   simp(config:=cS)only[go_sem, *]
   have g0:=ctr g0
   refine af g0 ?_
   obtain⟨a17,h0⟩:=ckP h0
   try simp(config:=cS)only[go_sem]at a17
   obtain⟨a18,h0⟩:=ckP h0
   try simp(config:=cS)only[go_sem]at a18
   obtain⟨_,h0⟩|⟨_,h0⟩:=itP h0
   ·obtain⟨_,h0⟩|⟨_,h0⟩:=itP h0
    ·obtain⟨_,h0⟩|⟨_,h0⟩:=itP h0
     ·exact run
     obtain⟨r22,g0,h0⟩:=ae h0
     simp(config:=cS)only[go_sem, *]
     have g0:=ctr g0
     refine af g0 ?_
     obtain⟨a19,h0⟩:=ckP h0
     try simp(config:=cS)only[go_sem]at a19
     obtain⟨a20,h0⟩:=ckP h0
     try simp(config:=cS)only[go_sem]at a20
     exact run
    obtain⟨r24,g0,h0⟩:=ae h0
    simp(config:=cS)only[go_sem, *]
    have g0:=ctr g0
    refine af g0 ?_
    obtain⟨a21,h0⟩:=ckP h0
    try simp(config:=cS)only[go_sem]at a21
    obtain⟨a22,h0⟩:=ckP h0
    try simp(config:=cS)only[go_sem]at a22
    obtain⟨_,h0⟩|⟨_,h0⟩:=itP h0
    ·exact run
    obtain⟨r26,g0,h0⟩:=ae h0
    simp(config:=cS)only[go_sem, *]
    have g0:=ctr g0
    refine af g0 ?_
    obtain⟨a23,h0⟩:=ckP h0
    try simp(config:=cS)only[go_sem]at a23
    obtain⟨a24,h0⟩:=ckP h0
    try simp(config:=cS)only[go_sem]at a24
    exact run
   obtain⟨r28,g0,h0⟩:=ae h0
   simp(config:=cS)only[go_sem, *]
   have g0:=ctr g0
   refine af g0 ?_
   obtain⟨a25,h0⟩:=ckP h0
   try simp(config:=cS)only[go_sem]at a25
   obtain⟨a26,h0⟩:=ckP h0
   try simp(config:=cS)only[go_sem]at a26
   obtain⟨_,h0⟩|⟨_,h0⟩:=itP h0
   ·obtain⟨_,h0⟩|⟨_,h0⟩:=itP h0
    ·exact run
    obtain⟨r30,g0,h0⟩:=ae h0
    simp(config:=cS)only[go_sem, *]
    have g0:=ctr g0
    refine af g0 ?_
    obtain⟨a27,h0⟩:=ckP h0
    try simp(config:=cS)only[go_sem]at a27
    obtain⟨a28,h0⟩:=ckP h0
    try simp(config:=cS)only[go_sem]at a28
    exact run
   obtain⟨r32,g0,h0⟩:=ae h0
   simp(config:=cS)only[go_sem, *]
   have g0:=ctr g0
   refine af g0 ?_
   obtain⟨a29,h0⟩:=ckP h0
   try simp(config:=cS)only[go_sem]at a29
   obtain⟨a30,h0⟩:=ckP h0
   try simp(config:=cS)only[go_sem]at a30
   obtain⟨_,h0⟩|⟨_,h0⟩:=itP h0
   ·exact run
   obtain⟨r34,g0,h0⟩:=ae h0
   simp(config:=cS)only[go_sem, *]
   have g0:=ctr g0
   refine af g0 ?_
   obtain⟨a31,h0⟩:=ckP h0
   try simp(config:=cS)only[go_sem]at a31
   obtain⟨a32,h0⟩:=ckP h0
   try simp(config:=cS)only[go_sem]at a32
   exact run
  obtain⟨r36,g0,h0⟩:=ae h0
  simp(config:=cS)only[go_sem, *]
  have g0:=ctr g0
  refine af g0 ?_
  obtain⟨r37,g0,h0⟩:=ae h0
  simp(config:=cS)only[go_sem, *]
  have g0:=ctr g0
  refine af g0 ?_
  obtain⟨a33,h0⟩:=ckP h0
  try simp(config:=cS)only[go_sem]at a33
  obtain⟨a34,h0⟩:=ckP h0
  try simp(config:=cS)only[go_sem]at a34
  obtain⟨_,h0⟩|⟨_,h0⟩:=itP h0
  ·obtain⟨_,h0⟩|⟨_,h0⟩:=itP h0
   ·obtain⟨_,h0⟩|⟨_,h0⟩:=itP h0
    ·exact run
    obtain⟨r39,g0,h0⟩:=ae h0
    simp(config:=cS)only[go_sem, *]
    have g0:=ctr g0
    refine af g0 ?_
    obtain⟨a35,h0⟩:=ckP h0
    try simp(config:=cS)only[go_sem]at a35
    obtain⟨a36,h0⟩:=ckP h0
    try simp(config:=cS)only[go_sem]at a36
    exact run
   obtain⟨r41,g0,h0⟩:=ae h0
   simp(config:=cS)only[go_sem, *]
   have g0:=ctr g0
   refine af g0 ?_
   obtain⟨a37,h0⟩:=ckP h0
   try simp(config:=cS)only[go_sem]at a37
   obtain⟨a38,h0⟩:=ckP h0
   try simp(config:=cS)only[go_sem]at a38
   obtain⟨_,h0⟩|⟨_,h0⟩:=itP h0
   ·exact run
   obtain⟨r43,g0,h0⟩:=ae h0
   simp(config:=cS)only[go_sem, *]
   have g0:=ctr g0
   refine af g0 ?_
   obtain⟨a39,h0⟩:=ckP h0
   try simp(config:=cS)only[go_sem]at a39
   obtain⟨a40,h0⟩:=ckP h0
   try simp(config:=cS)only[go_sem]at a40
   exact run
  obtain⟨r45,g0,h0⟩:=ae h0
  simp(config:=cS)only[go_sem, *]
  have g0:=ctr g0
  refine af g0 ?_
  obtain⟨a41,h0⟩:=ckP h0
  try simp(config:=cS)only[go_sem]at a41
  obtain⟨a42,h0⟩:=ckP h0
  try simp(config:=cS)only[go_sem]at a42
  obtain⟨_,h0⟩|⟨_,h0⟩:=itP h0
  ·obtain⟨_,h0⟩|⟨_,h0⟩:=itP h0
   ·exact run
   obtain⟨r47,g0,h0⟩:=ae h0
   simp(config:=cS)only[go_sem, *]
   have g0:=ctr g0
   refine af g0 ?_
   obtain⟨a43,h0⟩:=ckP h0
   try simp(config:=cS)only[go_sem]at a43
   obtain⟨a44,h0⟩:=ckP h0
   try simp(config:=cS)only[go_sem]at a44
   exact run
  obtain⟨r49,g0,h0⟩:=ae h0
  simp(config:=cS)only[go_sem, *]
  have g0:=ctr g0
  refine af g0 ?_
  obtain⟨a45,h0⟩:=ckP h0
  try simp(config:=cS)only[go_sem]at a45
  obtain⟨a46,h0⟩:=ckP h0
  try simp(config:=cS)only[go_sem]at a46
  obtain⟨_,h0⟩|⟨_,h0⟩:=itP h0
  ·exact run
  obtain⟨r51,g0,h0⟩:=ae h0
  simp(config:=cS)only[go_sem, *]
  have g0:=ctr g0
  refine af g0 ?_
  obtain⟨a47,h0⟩:=ckP h0
  try simp(config:=cS)only[go_sem]at a47
  obtain⟨a48,h0⟩:=ckP h0
  try simp(config:=cS)only[go_sem]at a48
  exact run
 obtain⟨_,h0⟩|⟨_,h0⟩:=itB h0
 ·obtain⟨x53,_,_,_,h0⟩:=gtI h0
  obtain⟨r54,g0,h0⟩:=ae h0
  simp(config:=cS)only[go_sem, *]
  have g0:=ctr g0
  refine af g0 ?_
  obtain⟨r55,g0,h0⟩:=ae h0
  simp(config:=cS)only[go_sem, *]
  have g0:=ctr g0
  refine af g0 ?_
  obtain⟨a49,h0⟩:=ckP h0
  try simp(config:=cS)only[go_sem]at a49
  obtain⟨a50,h0⟩:=ckP h0
  try simp(config:=cS)only[go_sem]at a50
  obtain⟨_,h0⟩|⟨_,h0⟩:=itP h0
  ·obtain⟨_,h0⟩|⟨_,h0⟩:=itP h0
   ·obtain⟨_,h0⟩|⟨_,h0⟩:=itP h0
    ·obtain⟨_,h0⟩|⟨_,h0⟩:=itP h0
     ·exact run
     obtain⟨r57,g0,h0⟩:=ae h0
     simp(config:=cS)only[go_sem, *]
     have g0:=ctr g0
     refine af g0 ?_
     obtain⟨a51,h0⟩:=ckP h0
     try simp(config:=cS)only[go_sem]at a51
     obtain⟨a52,h0⟩:=ckP h0
     try simp(config:=cS)only[go_sem]at a52
     exact run
    obtain⟨r59,g0,h0⟩:=ae h0
    simp(config:=cS)only[go_sem, *]
    have g0:=ctr g0
    refine af g0 ?_
    obtain⟨a53,h0⟩:=ckP h0
    try simp(config:=cS)only[go_sem]at a53
    obtain⟨a54,h0⟩:=ckP h0
    try simp(config:=cS)only[go_sem]at a54
    obtain⟨_,h0⟩|⟨_,h0⟩:=itP h0
    ·exact run
    obtain⟨r61,g0,h0⟩:=ae h0
    simp(config:=cS)only[go_sem, *]
    have g0:=ctr g0
    refine af g0 ?_
    obtain⟨a55,h0⟩:=ckP h0
    try simp(config:=cS)only[go_sem]at a55
    obtain⟨a56,h0⟩:=ckP h0
    try simp(config:=cS)only[go_sem]at a56
    exact run
   obtain⟨r63,g0,h0⟩:=ae h0
   simp(config:=cS)only[go_sem, *]
   have g0:=ctr g0
   refine af g0 ?_
   obtain⟨a57,h0⟩:=ckP h0
   try simp(config:=cS)only[go_sem]at a57
   obtain⟨a58,h0⟩:=ckP h0
   try simp(config:=cS)only[go_sem]at a58
   obtain⟨_,h0⟩|⟨_,h0⟩:=itP h0
   ·obtain⟨_,h0⟩|⟨_,h0⟩:=itP h0
    ·exact run
    obtain⟨r65,g0,h0⟩:=ae h0
    simp(config:=cS)only[go_sem, *]
    have g0:=ctr g0
    refine af g0 ?_
    obtain⟨a59,h0⟩:=ckP h0
    try simp(config:=cS)only[go_sem]at a59
    obtain⟨a60,h0⟩:=ckP h0
    try simp(config:=cS)only[go_sem]at a60
    exact run
   obtain⟨r67,g0,h0⟩:=ae h0
   simp(config:=cS)only[go_sem, *]
   have g0:=ctr g0
   refine af g0 ?_
   obtain⟨a61,h0⟩:=ckP h0
   try simp(config:=cS)only[go_sem]at a61
   obtain⟨a62,h0⟩:=ckP h0
   try simp(config:=cS)only[go_sem]at a62
   obtain⟨_,h0⟩|⟨_,h0⟩:=itP h0
   ·exact run
   obtain⟨r69,g0,h0⟩:=ae h0
   simp(config:=cS)only[go_sem, *]
   have g0:=ctr g0
   refine af g0 ?_
   obtain⟨a63,h0⟩:=ckP h0
   try simp(config:=cS)only[go_sem]at a63
   obtain⟨a64,h0⟩:=ckP h0
   try simp(config:=cS)only[go_sem]at a64
   exact run
  obtain⟨_,h0⟩|⟨_,h0⟩:=itB h0
  ·obtain⟨r71,g0,h0⟩:=ae h0
   simp(config:=cS)only[go_sem, *]
   have g0:=ctr g0
   refine af g0 ?_
   obtain⟨r72,g0,h0⟩:=ae h0
   simp(config:=cS)only[go_sem, *]
   have g0:=ctr g0
   refine af g0 ?_
   obtain⟨a65,h0⟩:=ckP h0
   try simp(config:=cS)only[go_sem]at a65
   obtain⟨a66,h0⟩:=ckP h0
   try simp(config:=cS)only[go_sem]at a66
   obtain⟨_,h0⟩|⟨_,h0⟩:=itP h0
   ·obtain⟨_,h0⟩|⟨_,h0⟩:=itP h0
    ·obtain⟨_,h0⟩|⟨_,h0⟩:=itP h0
     ·exact run
     obtain⟨r74,g0,h0⟩:=ae h0
     simp(config:=cS)only[go_sem, *]
     have g0:=ctr g0
     refine af g0 ?_
     obtain⟨a67,h0⟩:=ckP h0
     try simp(config:=cS)only[go_sem]at a67
     obtain⟨a68,h0⟩:=ckP h0
     try simp(config:=cS)only[go_sem]at a68
     exact run
    obtain⟨r76,g0,h0⟩:=ae h0
    simp(config:=cS)only[go_sem, *]
    have g0:=ctr g0
    refine af g0 ?_
    obtain⟨a69,h0⟩:=ckP h0
    try simp(config:=cS)only[go_sem]at a69
    obtain⟨a70,h0⟩:=ckP h0
    try simp(config:=cS)only[go_sem]at a70
    obtain⟨_,h0⟩|⟨_,h0⟩:=itP h0
    ·exact run
    obtain⟨r78,g0,h0⟩:=ae h0
    simp(config:=cS)only[go_sem, *]
    have g0:=ctr g0
    refine af g0 ?_
    obtain⟨a71,h0⟩:=ckP h0
    try simp(config:=cS)only[go_sem]at a71
    obtain⟨a72,h0⟩:=ckP h0
    try simp(config:=cS)only[go_sem]at a72
    exact run
   obtain⟨r80,g0,h0⟩:=ae h0
   simp(config:=cS)only[go_sem, *]
   have g0:=ctr g0
   refine af g0 ?_
   obtain⟨a73,h0⟩:=ckP h0
   try simp(config:=cS)only[go_sem]at a73
   obtain⟨a74,h0⟩:=ckP h0
   try simp(config:=cS)only[go_sem]at a74
   obtain⟨_,h0⟩|⟨_,h0⟩:=itP h0
   ·obtain⟨_,h0⟩|⟨_,h0⟩:=itP h0
    ·exact run
    obtain⟨r82,g0,h0⟩:=ae h0
    simp(config:=cS)only[go_sem, *]
    have g0:=ctr g0
    refine af g0 ?_
    obtain⟨a75,h0⟩:=ckP h0
    try simp(config:=cS)only[go_sem]at a75
    obtain⟨a76,h0⟩:=ckP h0
    try simp(config:=cS)only[go_sem]at a76
    exact run
   obtain⟨r84,g0,h0⟩:=ae h0
   simp(config:=cS)only[go_sem, *]
   have g0:=ctr g0
   refine af g0 ?_
   obtain⟨a77,h0⟩:=ckP h0
   try simp(config:=cS)only[go_sem]at a77
   obtain⟨a78,h0⟩:=ckP h0
   try simp(config:=cS)only[go_sem]at a78
   obtain⟨_,h0⟩|⟨_,h0⟩:=itP h0
   ·exact run
   obtain⟨r86,g0,h0⟩:=ae h0
   simp(config:=cS)only[go_sem, *]
   have g0:=ctr g0
   refine af g0 ?_
   obtain⟨a79,h0⟩:=ckP h0
   try simp(config:=cS)only[go_sem]at a79
   obtain⟨a80,h0⟩:=ckP h0
   try simp(config:=cS)only[go_sem]at a80
   exact run
  obtain⟨r88,g0,h0⟩:=ae h0
  simp(config:=cS)only[go_sem, *]
  have g0:=ctr g0
  refine af g0 ?_
  obtain⟨r89,g0,h0⟩:=ae h0
  simp(config:=cS)only[go_sem, *]
  have g0:=ctr g0
  refine af g0 ?_
  obtain⟨a81,h0⟩:=ckP h0
  try simp(config:=cS)only[go_sem]at a81
  obtain⟨a82,h0⟩:=ckP h0
  try simp(config:=cS)only[go_sem]at a82
  obtain⟨_,h0⟩|⟨_,h0⟩:=itP h0
  ·obtain⟨_,h0⟩|⟨_,h0⟩:=itP h0
   ·obtain⟨_,h0⟩|⟨_,h0⟩:=itP h0
    ·exact run
    obtain⟨r91,g0,h0⟩:=ae h0
    simp(config:=cS)only[go_sem, *]
    have g0:=ctr g0
    refine af g0 ?_
    obtain⟨a83,h0⟩:=ckP h0
    try simp(config:=cS)only[go_sem]at a83
    obtain⟨a84,h0⟩:=ckP h0
    try simp(config:=cS)only[go_sem]at a84
    exact run
   obtain⟨r93,g0,h0⟩:=ae h0
   simp(config:=cS)only[go_sem, *]
   have g0:=ctr g0
   refine af g0 ?_
   obtain⟨a85,h0⟩:=ckP h0
   try simp(config:=cS)only[go_sem]at a85
   obtain⟨a86,h0⟩:=ckP h0
   try simp(config:=cS)only[go_sem]at a86
   obtain⟨_,h0⟩|⟨_,h0⟩:=itP h0
   ·exact run
   obtain⟨r95,g0,h0⟩:=ae h0
   simp(config:=cS)only[go_sem, *]
   have g0:=ctr g0
   refine af g0 ?_
   obtain⟨a87,h0⟩:=ckP h0
   try simp(config:=cS)only[go_sem]at a87
   obtain⟨a88,h0⟩:=ckP h0
   try simp(config:=cS)only[go_sem]at a88
   exact run
  obtain⟨r97,g0,h0⟩:=ae h0
  simp(config:=cS)only[go_sem, *]
  have g0:=ctr g0
  refine af g0 ?_
  obtain⟨a89,h0⟩:=ckP h0
  try simp(config:=cS)only[go_sem]at a89
  obtain⟨a90,h0⟩:=ckP h0
  try simp(config:=cS)only[go_sem]at a90
  obtain⟨_,h0⟩|⟨_,h0⟩:=itP h0
  ·obtain⟨_,h0⟩|⟨_,h0⟩:=itP h0
   ·exact run
   obtain⟨r99,g0,h0⟩:=ae h0
   simp(config:=cS)only[go_sem, *]
   have g0:=ctr g0
   refine af g0 ?_
   obtain⟨a91,h0⟩:=ckP h0
   try simp(config:=cS)only[go_sem]at a91
   obtain⟨a92,h0⟩:=ckP h0
   try simp(config:=cS)only[go_sem]at a92
   exact run
  obtain⟨r1101,g0,h0⟩:=ae h0
  simp(config:=cS)only[go_sem, *]
  have g0:=ctr g0
  refine af g0 ?_
  obtain⟨a93,h0⟩:=ckP h0
  try simp(config:=cS)only[go_sem]at a93
  obtain⟨a94,h0⟩:=ckP h0
  try simp(config:=cS)only[go_sem]at a94
  obtain⟨_,h0⟩|⟨_,h0⟩:=itP h0
  ·exact run
  obtain⟨r1103,g0,h0⟩:=ae h0
  simp(config:=cS)only[go_sem, *]
  have g0:=ctr g0
  refine af g0 ?_
  obtain⟨a95,h0⟩:=ckP h0
  try simp(config:=cS)only[go_sem]at a95
  obtain⟨a96,h0⟩:=ckP h0
  try simp(config:=cS)only[go_sem]at a96
  exact run
 obtain⟨x1105,_,_,_,h0⟩:=gtI h0
 obtain⟨r1106,g0,h0⟩:=ae h0
 simp(config:=cS)only[go_sem, *]
 have g0:=ctr g0
 refine af g0 ?_
 obtain⟨r1107,g0,h0⟩:=ae h0
 simp(config:=cS)only[go_sem, *]
 have g0:=ctr g0
 refine af g0 ?_
 obtain⟨a97,h0⟩:=ckP h0
 try simp(config:=cS)only[go_sem]at a97
 obtain⟨a98,h0⟩:=ckP h0
 try simp(config:=cS)only[go_sem]at a98
 obtain⟨_,h0⟩|⟨_,h0⟩:=itP h0
 ·obtain⟨_,h0⟩|⟨_,h0⟩:=itP h0
  ·obtain⟨_,h0⟩|⟨_,h0⟩:=itP h0
   ·obtain⟨_,h0⟩|⟨_,h0⟩:=itP h0
    ·exact run
    obtain⟨r1109,g0,h0⟩:=ae h0
    simp(config:=cS)only[go_sem, *]
    have g0:=ctr g0
    refine af g0 ?_
    obtain⟨a99,h0⟩:=ckP h0
    try simp(config:=cS)only[go_sem]at a99
    obtain⟨a100,h0⟩:=ckP h0
    try simp(config:=cS)only[go_sem]at a100
    exact run
   obtain⟨r1111,g0,h0⟩:=ae h0
   simp(config:=cS)only[go_sem, *]
   have g0:=ctr g0
   refine af g0 ?_
   obtain⟨a101,h0⟩:=ckP h0
   try simp(config:=cS)only[go_sem]at a101
   obtain⟨a102,h0⟩:=ckP h0
   try simp(config:=cS)only[go_sem]at a102
   obtain⟨_,h0⟩|⟨_,h0⟩:=itP h0
   ·exact run
   obtain⟨r1113,g0,h0⟩:=ae h0
   simp(config:=cS)only[go_sem, *]
   have g0:=ctr g0
   refine af g0 ?_
   obtain⟨a103,h0⟩:=ckP h0
   try simp(config:=cS)only[go_sem]at a103
   obtain⟨a104,h0⟩:=ckP h0
   try simp(config:=cS)only[go_sem]at a104
   exact run
  obtain⟨r1115,g0,h0⟩:=ae h0
  simp(config:=cS)only[go_sem, *]
  have g0:=ctr g0
  refine af g0 ?_
  obtain⟨a105,h0⟩:=ckP h0
  try simp(config:=cS)only[go_sem]at a105
  obtain⟨a106,h0⟩:=ckP h0
  try simp(config:=cS)only[go_sem]at a106
  obtain⟨_,h0⟩|⟨_,h0⟩:=itP h0
  ·obtain⟨_,h0⟩|⟨_,h0⟩:=itP h0
   ·exact run
   obtain⟨r1117,g0,h0⟩:=ae h0
   simp(config:=cS)only[go_sem, *]
   have g0:=ctr g0
   refine af g0 ?_
   obtain⟨a107,h0⟩:=ckP h0
   try simp(config:=cS)only[go_sem]at a107
   obtain⟨a108,h0⟩:=ckP h0
   try simp(config:=cS)only[go_sem]at a108
   exact run
  obtain⟨r1119,g0,h0⟩:=ae h0
  simp(config:=cS)only[go_sem, *]
  have g0:=ctr g0
  refine af g0 ?_
  obtain⟨a109,h0⟩:=ckP h0
  try simp(config:=cS)only[go_sem]at a109
  obtain⟨a110,h0⟩:=ckP h0
  try simp(config:=cS)only[go_sem]at a110
  obtain⟨_,h0⟩|⟨_,h0⟩:=itP h0
  ·exact run
  obtain⟨r1121,g0,h0⟩:=ae h0
  simp(config:=cS)only[go_sem, *]
  have g0:=ctr g0
  refine af g0 ?_
  obtain⟨a111,h0⟩:=ckP h0
  try simp(config:=cS)only[go_sem]at a111
  obtain⟨a112,h0⟩:=ckP h0
  try simp(config:=cS)only[go_sem]at a112
  exact run
 obtain⟨_,h0⟩|⟨_,h0⟩:=itB h0
 ·obtain⟨r1123,g0,h0⟩:=ae h0
  simp(config:=cS)only[go_sem, *]
  have g0:=ctr g0
  refine af g0 ?_
  obtain⟨r1124,g0,h0⟩:=ae h0
  simp(config:=cS)only[go_sem, *]
  have g0:=ctr g0
  refine af g0 ?_
  obtain⟨a113,h0⟩:=ckP h0
  try simp(config:=cS)only[go_sem]at a113
  obtain⟨a114,h0⟩:=ckP h0
  try simp(config:=cS)only[go_sem]at a114
  obtain⟨_,h0⟩|⟨_,h0⟩:=itP h0
  ·obtain⟨_,h0⟩|⟨_,h0⟩:=itP h0
   ·obtain⟨_,h0⟩|⟨_,h0⟩:=itP h0
    ·exact run
    obtain⟨r1126,g0,h0⟩:=ae h0
    simp(config:=cS)only[go_sem, *]
    have g0:=ctr g0
    refine af g0 ?_
    obtain⟨a115,h0⟩:=ckP h0
    try simp(config:=cS)only[go_sem]at a115
    obtain⟨a116,h0⟩:=ckP h0
    try simp(config:=cS)only[go_sem]at a116
    exact run
   obtain⟨r1128,g0,h0⟩:=ae h0
   simp(config:=cS)only[go_sem, *]
   have g0:=ctr g0
   refine af g0 ?_
   obtain⟨a117,h0⟩:=ckP h0
   try simp(config:=cS)only[go_sem]at a117
   obtain⟨a118,h0⟩:=ckP h0
   try simp(config:=cS)only[go_sem]at a118
   obtain⟨_,h0⟩|⟨_,h0⟩:=itP h0
   ·exact run
   obtain⟨r1130,g0,h0⟩:=ae h0
   simp(config:=cS)only[go_sem, *]
   have g0:=ctr g0
   refine af g0 ?_
   obtain⟨a119,h0⟩:=ckP h0
   try simp(config:=cS)only[go_sem]at a119
   obtain⟨a120,h0⟩:=ckP h0
   try simp(config:=cS)only[go_sem]at a120
   exact run
  obtain⟨r1132,g0,h0⟩:=ae h0
  simp(config:=cS)only[go_sem, *]
  have g0:=ctr g0
  refine af g0 ?_
  obtain⟨a121,h0⟩:=ckP h0
  try simp(config:=cS)only[go_sem]at a121
  obtain⟨a122,h0⟩:=ckP h0
  try simp(config:=cS)only[go_sem]at a122
  obtain⟨_,h0⟩|⟨_,h0⟩:=itP h0
  ·obtain⟨_,h0⟩|⟨_,h0⟩:=itP h0
   ·exact run
   obtain⟨r1134,g0,h0⟩:=ae h0
   simp(config:=cS)only[go_sem, *]
   have g0:=ctr g0
   refine af g0 ?_
   obtain⟨a123,h0⟩:=ckP h0
   try simp(config:=cS)only[go_sem]at a123
   obtain⟨a124,h0⟩:=ckP h0
   try simp(config:=cS)only[go_sem]at a124
   exact run
  obtain⟨r1136,g0,h0⟩:=ae h0
  simp(config:=cS)only[go_sem, *]
  have g0:=ctr g0
  refine af g0 ?_
  obtain⟨a125,h0⟩:=ckP h0
  try simp(config:=cS)only[go_sem]at a125
  obtain⟨a126,h0⟩:=ckP h0
  try simp(config:=cS)only[go_sem]at a126
  obtain⟨_,h0⟩|⟨_,h0⟩:=itP h0
  ·exact run
  obtain⟨r1138,g0,h0⟩:=ae h0
  simp(config:=cS)only[go_sem, *]
  have g0:=ctr g0
  refine af g0 ?_
  obtain⟨a127,h0⟩:=ckP h0
  try simp(config:=cS)only[go_sem]at a127
  obtain⟨a128,h0⟩:=ckP h0
  try simp(config:=cS)only[go_sem]at a128
  exact run
 obtain⟨r1140,g0,h0⟩:=ae h0
 simp(config:=cS)only[go_sem, *]
 have g0:=ctr g0
 refine af g0 ?_
 obtain⟨r1141,g0,h0⟩:=ae h0
 simp(config:=cS)only[go_sem, *]
 have g0:=ctr g0
 refine af g0 ?_
 obtain⟨a129,h0⟩:=ckP h0
 try simp(config:=cS)only[go_sem]at a129
 obtain⟨a130,h0⟩:=ckP h0
 try simp(config:=cS)only[go_sem]at a130
 obtain⟨_,h0⟩|⟨_,h0⟩:=itP h0
 ·obtain⟨_,h0⟩|⟨_,h0⟩:=itP h0
  ·obtain⟨_,h0⟩|⟨_,h0⟩:=itP h0
   ·exact run
   obtain⟨r1143,g0,h0⟩:=ae h0
   simp(config:=cS)only[go_sem, *]
   have g0:=ctr g0
   refine af g0 ?_
   obtain⟨a131,h0⟩:=ckP h0
   try simp(config:=cS)only[go_sem]at a131
   obtain⟨a132,h0⟩:=ckP h0
   try simp(config:=cS)only[go_sem]at a132
   exact run
  obtain⟨r1145,g0,h0⟩:=ae h0
  simp(config:=cS)only[go_sem, *]
  have g0:=ctr g0
  refine af g0 ?_
  obtain⟨a133,h0⟩:=ckP h0
  try simp(config:=cS)only[go_sem]at a133
  obtain⟨a134,h0⟩:=ckP h0
  try simp(config:=cS)only[go_sem]at a134
  obtain⟨_,h0⟩|⟨_,h0⟩:=itP h0
  ·exact run
  obtain⟨r1147,g0,h0⟩:=ae h0
  simp(config:=cS)only[go_sem, *]
  have g0:=ctr g0
  refine af g0 ?_
  obtain⟨a135,h0⟩:=ckP h0
  try simp(config:=cS)only[go_sem]at a135
  obtain⟨a136,h0⟩:=ckP h0
  try simp(config:=cS)only[go_sem]at a136
  exact run
 obtain⟨r1149,g0,h0⟩:=ae h0
 simp(config:=cS)only[go_sem, *]
 have g0:=ctr g0
 refine af g0 ?_
 obtain⟨a137,h0⟩:=ckP h0
 try simp(config:=cS)only[go_sem]at a137
 obtain⟨a138,h0⟩:=ckP h0
 try simp(config:=cS)only[go_sem]at a138
 obtain⟨_,h0⟩|⟨_,h0⟩:=itP h0
 ·obtain⟨_,h0⟩|⟨_,h0⟩:=itP h0
  ·exact run
  obtain⟨r1151,g0,h0⟩:=ae h0
  simp(config:=cS)only[go_sem, *]
  have g0:=ctr g0
  refine af g0 ?_
  obtain⟨a139,h0⟩:=ckP h0
  try simp(config:=cS)only[go_sem]at a139
  obtain⟨a140,h0⟩:=ckP h0
  try simp(config:=cS)only[go_sem]at a140
  exact run
 obtain⟨r1153,g0,h0⟩:=ae h0
 simp(config:=cS)only[go_sem, *]
 have g0:=ctr g0
 refine af g0 ?_
 obtain⟨a141,h0⟩:=ckP h0
 try simp(config:=cS)only[go_sem]at a141
 obtain⟨a142,h0⟩:=ckP h0
 try simp(config:=cS)only[go_sem]at a142
 obtain⟨_,h0⟩|⟨_,h0⟩:=itP h0
 ·exact run
 obtain⟨r1155,g0,h0⟩:=ae h0
 simp(config:=cS)only[go_sem, *]
 have g0:=ctr g0
 refine af g0 ?_
 obtain⟨a143,h0⟩:=ckP h0
 try simp(config:=cS)only[go_sem]at a143
 obtain⟨a144,h0⟩:=ckP h0
 try simp(config:=cS)only[go_sem]at a144
 exact run⟩
instance k52 {t:GSheet} {i:Int}:Ctr (im t i) (fun (res:ByteArray)=>aj prog 52 [.agg (GSheet.encS t),.lit (.int .i64 i)] [] (.lit (.string res)) []):=⟨by
 intro res h0
 refine co (hi:=hi00) func52 rfl rfl ?_
 unfold im at h0
 exact run⟩
@[go_sem] def hi35_4:DT:=.i1 0 (.i1 1 (.i2 2 (.i2 3 (.i0 4 [0,1] (.i0 5 [0,1] (.r2 6 3 .nil))))))
def hi35:Hint where
 acts:=fun _=>[]
 draws:=fun
  | 4=>⟨hi35_4,[[],[0],[],[],[2,3],[2,3,4],.range 6,.range 7,.range 8],.range 9⟩
  | _=>⟨.nil,[],[]⟩
theorem GP (i:Nat):hi35.acts i=[]:=rfl
attribute[go_sem] GP ntmps35 results35
@[go_sem] theorem Jc:(hi35.draws 4).order=hi35_4:=rfl
instance k35 {t:GSheet} {line:ByteArray}:Ctr (jO t line) (fun (res:GSheet × Bool)=>aj prog 35 [.agg (GSheet.encS t),.lit (.string line)] [] (.tup [.agg [.ref 20000 1 0 res.1.cues.length,.ref 20001 1 0 res.1.prep.length,.lit (.int .i64 res.1.horizon)],.lit (.bool res.2)]) [(20000,1,.row true (ab GCue.enc res.1.cues)),(20001,1,.row true (ab eI res.1.prep))]):=⟨by
 intro res h0
 refine az (ra:=[.homeCell 256 0,.homeCell 256 1]) (md:=mdT) hT (hi:=hi35) func35 rfl rfl (by decide +kernel) (by simp) ?_
 unfold jO at h0
 exact run⟩
@[go_sem] def jn (v0:List ah)(f_v1:Nat)(k_v1:List AV)(v7 v8:Int):St:=⟨[(0,.sl (ab ah.encS v0)),(1,.fn f_v1 k_v1),(7,.lit (.int .i64 v7)),(8,.lit (.int .i64 v8))],[],2⟩
theorem gB {v0:List ah}{v1:ah→Option Bool}{f_v1:Nat}{k_v1:List AV}(hp_v1:∀ y0 r,v1 y0=some r→aj prog f_v1 ([.agg (ah.encS y0)]++k_v1) [] (.lit (.bool r)) [])(hc_v1:KC k_v1)(hm_v1:∀ a,mdT f_v1 a=⟨[],false⟩)(hk_v1:spf f_v1=false){res:Int}(h:cq v0 v1=some res):aj prog 108 [.sl (ab ah.encS v0),.fn f_v1 k_v1] [] (.lit (.int .i64 res)) []:=by
 refine co (hi:=hi00) func108 rfl rfl ?_
 unfold cq at h
 obtain⟨q03,l1,h⟩:=ae h
 simp(config:=cS)only[go_sem,hc_v1.1,hc_v1.2,hm_v1,hk_v1]
 refine ak (m1:=.mk) (m2:=.mk) [.nf [0,1,7,8] []] (jn v0 f_v1 k_v1 (v0.length:Int)) l1 ?_ ?_
 ·simp(config:=cS)only[go_sem,hc_v1.1,hc_v1.2,hm_v1,hk_v1]
 intro nb2 v8_1 bb2 b2 gb2
 unfold eU at b2
 try dsimp only at b2
 obtain⟨h3,b2⟩|⟨h3,b2⟩:=aO b2
 ·obtain⟨x01,g4,b2⟩:=ae b2
  obtain⟨h5,h6,h7⟩:=bC g4
  obtain⟨r02,g8,b2⟩:=ae b2
  simp(config:=cS)only[go_sem,hc_v1.1,hc_v1.2,hm_v1,hk_v1,eqT h3,h5,h6,h7]
  refine af (hp_v1 _ _ g8) ?_
  obtain⟨h9,b2⟩|⟨h9,b2⟩:=aO b2
  ·cases b2
   obtain rfl:=(aI gb2).symm
   try dsimp only at h
   cases h
   simp(config:=cS)only[go_sem,hc_v1.1,hc_v1.2,hm_v1,hk_v1,eqT h3,h5,h6,h7,eZt h9]
  cases b2
  simp(config:=cS)only[go_sem,hc_v1.1,hc_v1.2,hm_v1,hk_v1,eqT h3,h5,h6,h7,eZf h9]
  refine cE gb2 ?_
  simp(config:=cS)only[go_sem,hc_v1.1,hc_v1.2,hm_v1,hk_v1,eqT h3,h5,h6,h7,eZf h9]
 cases b2
 obtain rfl:=(aI gb2).symm
 try dsimp only at h
 cases h
 simp(config:=cS)only[go_sem,hc_v1.1,hc_v1.2,hm_v1,hk_v1,eqF h3]
instance k109 {n:ah} {name:ByteArray}:Ctr (fe n name) (fun (res:Bool)=>aj prog 109 [.agg (ah.encS n),.loc [.lit (.string name)]] [] (.lit (.bool res)) []):=⟨by
 intro res h0
 refine co (hi:=hi00) func109 rfl rfl ?_
 unfold fe at h0
 exact run⟩
instance k60 {s:GShow} {name:ByteArray}:Ctr (dv s name) (fun (res:Int)=>aj prog 60 [.agg (GShow.encS s),.lit (.string name)] [] (.lit (.int .i64 res)) []):=⟨by
 intro res h0
 refine co (hi:=hi00) func60 rfl rfl ?_
 unfold dv at h0
 obtain⟨r01,g0,h0⟩:=ae h0
 simp(config:=cS)only[go_sem, *]
 refine af (gB (by exact fun _ _ hr=>by have q:=ctr hr;exact q) (by refine⟨fun _=>?_,fun _=>?_⟩ <;> simp only[go_sem]) (fun _=>rfl) rfl g0) ?_
 exact run⟩
instance k139 {v0:Int}:Ctr (ml v0) (fun (res:Int)=>aj prog 139 [.lit (.int .u64 v0)] [] (.lit (.int .i64 res)) []):=⟨by
 intro res h0
 refine co (hi:=hi00) func139 rfl rfl ?_
 unfold ml at h0
 exact run⟩
instance k150 {v0:Int}:Ctr (ow v0) (fun (res:Int)=>aj prog 150 [.lit (.int .u64 v0)] [] (.lit (.int .i64 res)) []):=⟨by
 intro res h0
 refine co (hi:=hi00) func150 rfl rfl ?_
 unfold ow at h0
 exact run⟩
instance k261 {v0:Int}:Ctr (fG v0) (fun (res:Bool)=>aj prog 261 [.lit (.int .i64 v0)] [] (.lit (.bool res)) []):=⟨by
 intro res h0
 refine co (hi:=hi00) func261 rfl rfl ?_
 unfold fG at h0
 exact run⟩
instance k212 {v0:Int} {v1:Int}:Ctr (jP v0 v1) (fun (res:Bool)=>aj prog 212 [.lit (.int .i64 v0),.lit (.int .i64 v1)] [] (.lit (.bool res)) []):=⟨by
 intro res h0
 refine co (hi:=hi00) func212 rfl rfl ?_
 unfold jP at h0
 exact run⟩
@[go_sem] def eR (zb0:Bool)(v1 v2 v6:Int):(Int × (List Int))→St
 | (v7,v0)=>⟨[(0,.ref 10000 0 0 v0.length),(1,.lit (.int .i64 v1)),(2,.lit (.int .i64 v2)),(6,.lit (.int .i64 v6)),(7,.lit (.int .i64 v7))],[(10000,0,.row zb0 (ab eI v0))],2⟩
@[go_sem] def eT (zb0:Bool)(v1 v2:Int):(Int × (List Int))→St
 | (v6,v0)=>⟨[(0,.ref 10000 0 0 v0.length),(1,.lit (.int .i64 v1)),(2,.lit (.int .i64 v2)),(6,.lit (.int .i64 v6))],[(10000,0,.row zb0 (ab eI v0))],2⟩
@[go_sem] def hi206_6:DT:=.r2 0 18 .nil
@[go_sem] def hi206_4:DT:=.r2 0 15 .nil
def xt:Hint where
 acts:=fun _=>[]
 draws:=fun
  | 4=>⟨hi206_4,[[],[],[0,1],[0,1,2],[0,1,2,3],[0,1,2,3],.range 6,.range 7,[0,1,2,3],[0,1,2,3],[0,1,2,3,9],[0,1,2,3,8,9,10],[0,1,2,3,8,9,10,11],.range 13,.range 14],.range 15⟩
  | 6=>⟨hi206_6,[[],[],[],[],[3],[],[],[6],[5,6,7],[5,6,7,8],[],[],[10,11],[10,11,12],[0,1,5,6,7,8,9,10,11,12,13],[0,1,5,6,7,8,9,10,11,12,13,14],.range 16,.range 17],[0,1,13,14,15,2,3,4,5,6,7,8,9,10,11,12,16,17]⟩
  | _=>⟨.nil,[],[]⟩
theorem Fg (i:Nat):xt.acts i=[]:=rfl
attribute[go_sem] Fg ntmps206 results206
@[go_sem] theorem HU:(xt.draws 4).order=hi206_4:=rfl
@[go_sem] theorem HV:(xt.draws 6).order=hi206_6:=rfl
theorem gZ {v0:List Int}{v1 v2:Int}{zb0:Bool}{res:List Int}(h0:bS v0 v1 v2=some res):aj prog 206 [.ref 10000 0 0 v0.length,.lit (.int .i64 v1),.lit (.int .i64 v2)] [(10000,0,.row zb0 (ab eI v0))] (.tup []) [(10000,0,.row zb0 (ab eI res))]:=by
 refine co (hi:=xt) func206 rfl rfl ?_
 unfold bS at h0
 obtain⟨q06,l0,h0⟩:=ae h0
 simp(config:=cS)only[go_sem, *]
 refine ak (m1:=.mk) (m2:=.mk) [.nf [0,1,2,6] [10000]] (eT zb0 v1 v2) l0 ?_ ?_
 ·simp(config:=cS)only[go_sem, *]
 have k0:=h0
 clear h0 l0
 intro _ s0 _ h0 gb0
 obtain⟨v6_1,v0_1⟩:=s0
 unfold cR at h0
 try dsimp only at h0
 obtain⟨_,h0⟩|⟨_,h0⟩:=itP h0
 ·obtain⟨q05,l0,h0⟩:=ae h0
  simp(config:=cS)only[go_sem, *]
  refine ak (m1:=.mk) (m2:=.mk) [.nf [0,1,2,6,7] [10000]] (eR zb0 v1 v2 v6_1) l0 ?_ ?_
  ·simp(config:=cS)only[go_sem, *]
  have k0:=h0
  clear h0 l0
  intro _ s0 _ h0 gb0
  obtain⟨v7_2,v0_2⟩:=s0
  unfold cQ at h0
  try dsimp only at h0
  exact run
 exact run
@[go_sem] def hD (zb0:Bool)(v1 v2 v3:Int)(v0:List Int)(_:Unit):St:=⟨[(0,.ref 10000 0 0 v0.length),(1,.lit (.int .i64 v1)),(2,.lit (.int .i64 v2)),(3,.lit (.int .i64 v3)),(8,.lit (.bool true)),(9,.lit (.bool true))],[(10000,0,.row zb0 (ab eI v0))],2⟩
@[go_sem] def hi149_17:DT:=.r2 0 15 .nil
def zI:Hint where
 acts:=fun _=>[]
 draws:=fun
  | 17=>⟨hi149_17,[[],[0],[0,1],[0,1,2],[0,1,2],[0,1,2,4],.range 6,.range 7,[0,1,2],[0,1,2],[0,1,2,8,9],[0,1,2,8,9,10],.range 12,.range 13,.range 14],.range 15⟩
  | _=>⟨.nil,[],[]⟩
theorem Fh (i:Nat):zI.acts i=[]:=rfl
attribute[go_sem] Fh ntmps149 results149
@[go_sem] theorem Hn:(zI.draws 17).order=hi149_17:=rfl
theorem ko {v0:List Int}{v1 v2 v3:Int}{zb0:Bool}{res:List Int}(h0:cT v0 v1 v2 v3=some res):aj prog 149 [.ref 10000 0 0 v0.length,.lit (.int .i64 v1),.lit (.int .i64 v2),.lit (.int .i64 v3)] [(10000,0,.row zb0 (ab eI v0))] (.tup []) [(10000,0,.row zb0 (ab eI res))]:=by
 refine co (hi:=zI) func149 rfl rfl ?_
 unfold cT at h0
 obtain⟨q02,l0,h0⟩:=ae h0
 simp(config:=cS)only[go_sem, *]
 refine ak (m1:=.mk) (m2:=.mk) [.nf [0,1,2,3,8,9] [10000]] (hD zb0 v1 v2 v3 v0) l0 ?_ ?_
 ·simp(config:=cS)only[go_sem, *]
 have k0:=h0
 clear h0 l0
 intro _ s0 _ h0 gb0
 unfold dL at h0
 try dsimp only at h0
 obtain⟨_,h0⟩|⟨_,h0⟩:=itP h0
 ·obtain⟨r01,g0,h0⟩:=ae h0
  simp(config:=cS)only[go_sem, *]
  refine af (gZ g0) ?_
  exact run
 exact run
theorem dZ {v0:List Int}{zb0:Bool}{res:List Int}(h0:cl v0=some res):aj prog 95 [.ref 10000 0 0 v0.length] [(10000,0,.row zb0 (ab eI v0))] (.tup []) [(10000,0,.row zb0 (ab eI res))]:=by
 refine co (hi:=hi00) func95 rfl rfl ?_
 unfold cl at h0
 obtain⟨r01,g0,h0⟩:=ae h0
 simp(config:=cS)only[go_sem, *]
 have g0:=ctr g0
 refine af g0 ?_
 obtain⟨r02,g0,h0⟩:=ae h0
 simp(config:=cS)only[go_sem, *]
 refine af (ko g0) ?_
 exact run
@[go_sem] def kI (v14:Int)(v13:List ByteArray)(v0_0:List GCue)(v0_1:List Int)(v0_2:Int)(v0_3:List ah)(v0_4:List GTie)(v0_5 v0_6:Int)(v0_7 v0_8:List Int)(v0_9:Bool)(v0_10:List al)(v0_11:List aE):(Int × (List Int))→St
 | (v15,out)=>⟨[(0,.ptr 10000 0 0 0),(6,.ref 447 1 0 out.length),(13,.ref 832 1 0 v13.length),(14,.lit (.int .i64 v14)),(15,.lit (.int .i64 v15))],[(10000,0,.var [.sl (ab GCue.enc v0_0),.sl (ab eI v0_1),.lit (.int .i64 v0_2),.sl (ab ah.encS v0_3),.sl (ab GTie.enc v0_4),.lit (.int .i64 v0_5),.lit (.int .i64 v0_6),.sl (ab eI v0_7),.sl (ab eI v0_8),.lit (.bool v0_9),.sl (ab al.encS v0_10),.sl (ab aE.enc v0_11)]),(447,1,.row true (ab eI out)),(832,1,.row true (ab eS v13))],2⟩
instance k57 {v0:GConsole} {word:ByteArray}:Ctr (cj v0 word) (fun (res:(List Int) × Bool × GConsole)=>aj prog 57 [.ptr 10000 0 0 0,.lit (.string word)] [(10000,0,.var [.sl (ab GCue.enc v0.sheet.cues),.sl (ab eI v0.sheet.prep),.lit (.int .i64 v0.sheet.horizon),.sl (ab ah.encS v0.desk.show_.nodes),.sl (ab GTie.enc v0.desk.show_.ties),.lit (.int .i64 v0.desk.show_.horizon),.lit (.int .i64 v0.desk.state.now),.sl (ab eI v0.desk.state.times),.sl (ab eI v0.desk.state.values),.lit (.bool v0.desk.lazy),.sl (ab al.encS v0.desk.log),.sl (ab aE.enc v0.takes)])] (.tup [.ref 20000 1 0 res.1.length,.lit (.bool res.2.1)]) [(10000,0,.var [.sl (ab GCue.enc res.2.2.sheet.cues),.sl (ab eI res.2.2.sheet.prep),.lit (.int .i64 res.2.2.sheet.horizon),.sl (ab ah.encS res.2.2.desk.show_.nodes),.sl (ab GTie.enc res.2.2.desk.show_.ties),.lit (.int .i64 res.2.2.desk.show_.horizon),.lit (.int .i64 res.2.2.desk.state.now),.sl (ab eI res.2.2.desk.state.times),.sl (ab eI res.2.2.desk.state.values),.lit (.bool res.2.2.desk.lazy),.sl (ab al.encS res.2.2.desk.log),.sl (ab aE.enc res.2.2.takes)]),(20000,1,.row true (ab eI res.1))]):=⟨by
 intro res h0
 refine az (ra:=[.home 4,.homeCell 10000 0,.freeze [100640000],.sliC 10000 0,.homeCell 10000 1,.freeze [100640001],.sliC 10000 1,.homeCell 10000 3,.freeze [100640003],.sliC 10000 3,.homeCell 10000 4,.freeze [100640004],.sliC 10000 4,.homeCell 10000 7,.freeze [100640007],.sliC 10000 7,.homeCell 10000 8,.freeze [100640008],.sliC 10000 8,.homeCell 10000 10,.freeze [100640010],.sliC 10000 10,.homeCell 10000 11,.freeze [100640011],.sliC 10000 11]) (md:=mdT) hT (hi:=hi00) func57 rfl rfl (by decide +kernel) (by simp) ?_
 unfold cj at h0
 obtain⟨_,h0⟩|⟨_,h0⟩:=itP h0
 ·exact run
 obtain⟨r01,g0,h0⟩:=ae h0
 simp(config:=cS)only[go_sem, *]
 have g0:=ctr g0
 refine af g0 ?_
 obtain⟨q05,l0,h0⟩:=ae h0
 simp(config:=cS)only[go_sem, *]
 refine ak (m1:=.mk) (m2:=.mk) [.home 6,.nf [0,6,13,14,15] [10000,447,832]] (kI (r01.length:Int) r01 v0.sheet.cues v0.sheet.prep v0.sheet.horizon v0.desk.show_.nodes v0.desk.show_.ties v0.desk.show_.horizon v0.desk.state.now v0.desk.state.times v0.desk.state.values v0.desk.lazy v0.desk.log v0.takes) l0 ?_ ?_
 ·simp(config:=cS)only[go_sem, *]
 have k0:=h0
 clear h0 l0
 intro _ s0 _ h0 gb0
 obtain⟨v15_1,out_1⟩:=s0
 unfold gC at h0
 try dsimp only at h0
 obtain⟨_,h0⟩|⟨_,h0⟩:=itP h0
 ·exact run
 cases h0
 obtain rfl:=(aI gb0).symm
 clear gb0
 have h0:=k0
 clear k0
 try dsimp only at h0
 obtain⟨r04,g0,h0⟩:=ae h0
 simp(config:=cS)only[go_sem, *]
 refine af (dZ g0) ?_
 exact run⟩
instance k242 {n:ah}:Ctr (kQ n) (fun (res:Bool)=>aj prog 242 [.agg (ah.encS n)] [] (.lit (.bool res)) []):=⟨by
 intro res h0
 refine co (hi:=hi00) func242 rfl rfl ?_
 unfold kQ at h0
 exact run⟩
@[go_sem] def nF (v35:List ah)(v36 v37:Int)(v48:List ah)(v49:Int)(s_1:List GTie)(s_2:Int)(n_0:ByteArray)(n_1:List Int)(n_2 v50:Int):St:=⟨[(1,.ptr 64 1 0 0),(4,.ptr 256 1 0 0),(35,.sl (ab ah.encS v35)),(36,.lit (.int .i64 v36)),(37,.lit (.int .i64 v37)),(48,.sl (ab ah.encS v48)),(49,.lit (.int .i64 v49)),(50,.lit (.int .i64 v50))],[(64,1,.var [.sl (ab ah.encS v35),.sl (ab GTie.enc s_1),.lit (.int .i64 s_2)]),(256,1,.var [.lit (.string n_0),.sl (ab eI n_1),.lit (.int .i64 n_2)])],2⟩
@[go_sem] def nG (v35:List ah)(v36:Int)(s_1:List GTie)(s_2 v37:Int):St:=⟨[(1,.ptr 64 1 0 0),(35,.sl (ab ah.encS v35)),(36,.lit (.int .i64 v36)),(37,.lit (.int .i64 v37))],[(64,1,.var [.sl (ab ah.encS v35),.sl (ab GTie.enc s_1),.lit (.int .i64 s_2)])],2⟩
instance k179 {s:GShow}:Ctr (jc s) (fun (res:Bool)=>aj prog 179 [.agg (GShow.encS s)] [] (.lit (.bool res)) []):=⟨by
 intro res h0
 refine co (hi:=hi00) func179 rfl rfl ?_
 unfold jc at h0
 obtain⟨_,h0⟩|⟨_,h0⟩:=itP h0
 ·exact run
 obtain⟨_,h0⟩|⟨_,h0⟩:=itP h0
 ·exact run
 obtain⟨x01,g1,h0⟩:=ae h0
 have:=aM (k:=0) g1
 obtain⟨_,h0⟩|⟨_,h0⟩:=itP h0
 ·exact run
 obtain⟨_,h0⟩|⟨_,h0⟩:=itP h0
 ·obtain⟨q06,l0,h0⟩:=ae h0
  simp(config:=cS)only[go_sem, *]
  refine ak (m1:=.mk) (m2:=.mk) [.nf [1,35,36,37] [64]] (nG s.nodes (s.nodes.length:Int) s.ties s.horizon) l0 ?_ ?_
  ·simp(config:=cS)only[go_sem, *]
  have k0:=h0
  clear h0 l0
  intro _ v37_1 _ h0 gb0
  unfold kx at h0
  try dsimp only at h0
  obtain⟨_,h0⟩|⟨_,h0⟩:=itP h0
  ·obtain⟨x02,_,_,_,h0⟩:=gtI h0
   obtain⟨r03,g0,h0⟩:=ae h0
   simp(config:=cS)only[go_sem, *]
   have g0:=ctr g0
   refine af g0 ?_
   obtain⟨_,h0⟩|⟨_,h0⟩:=itB h0
   ·obtain⟨_,h0⟩:=ckP h0
    obtain⟨_,h0⟩:=ckP h0
    obtain⟨q05,l0,h0⟩:=ae h0
    simp(config:=cS)only[go_sem, *]
    refine ak (m1:=.mk) (m2:=.mk) [.nf [1,4,35,36,37,48,49,50] [64,256]] (nF s.nodes (s.nodes.length:Int) v37_1 (s.nodes.take v37_1.toNat) (((s.nodes.take v37_1.toNat).length:Nat):Int) s.ties s.horizon x02.name x02.label x02.watch) l0 ?_ ?_
    ·simp(config:=cS)only[go_sem, *]
    have k0:=h0
    clear h0 l0
    intro _ v50_2 _ h0 gb0
    unfold kw at h0
    try dsimp only at h0
    exact run
   exact run
  exact run
 exact run⟩
instance k243 {n:Int}:Ctr (ij n) (fun (res:Bool)=>aj prog 243 [.lit (.int .i64 n)] [] (.lit (.bool res)) []):=⟨by
 intro res h0
 refine co (hi:=hi00) func243 rfl rfl ?_
 unfold ij at h0
 exact run⟩
@[go_sem] def mb (v0 v1:List Int)(v12 v13:Int):St:=⟨[(0,.sl (ab eI v0)),(1,.sl (ab eI v1)),(12,.lit (.int .i64 v12)),(13,.lit (.int .i64 v13))],[],2⟩
@[go_sem] def hi165_6:DT:=.r2 0 9 .nil
def zJ:Hint where
 acts:=fun _=>[]
 draws:=fun
  | 6=>⟨hi165_6,[[],[],[0,1],[0,1,2],[],[],[4,5],[4,5,6],.range 8],.range 9⟩
  | _=>⟨.nil,[],[]⟩
theorem Fi (i:Nat):zJ.acts i=[]:=rfl
attribute[go_sem] Fi ntmps165 results165
@[go_sem] theorem HW:(zJ.draws 6).order=hi165_6:=rfl
instance k165 {v0:List Int} {v1:List Int}:Ctr (bF v0 v1) (fun (res:Bool)=>aj prog 165 [.sl (ab eI v0),.sl (ab eI v1)] [] (.lit (.bool res)) []):=⟨by
 intro res h0
 refine co (hi:=zJ) func165 rfl rfl ?_
 unfold bF at h0
 obtain⟨_,h0⟩|⟨_,h0⟩:=itP h0
 ·obtain⟨q03,l0,h0⟩:=ae h0
  simp(config:=cS)only[go_sem, *]
  refine ak (m1:=.mk) (m2:=.mk) [.nf [0,1,12,13] []] (mb v0 v1 (v0.length:Int)) l0 ?_ ?_
  ·simp(config:=cS)only[go_sem, *]
  have k0:=h0
  clear h0 l0
  intro _ v13_1 _ h0 gb0
  unfold iF at h0
  try dsimp only at h0
  exact run
 exact run⟩
@[go_sem] def jJ (v0:List GTie)(f_v1:Nat)(k_v1:List AV)(v7 v8:Int):St:=⟨[(0,.sl (ab GTie.enc v0)),(1,.fn f_v1 k_v1),(7,.lit (.int .i64 v7)),(8,.lit (.int .i64 v8))],[],2⟩
theorem hM {v0:List GTie}{v1:GTie→Option Bool}{f_v1:Nat}{k_v1:List AV}(hp_v1:∀ y0 r,v1 y0=some r→aj prog f_v1 ([.agg (GTie.enc y0)]++k_v1) [] (.lit (.bool r)) [])(hc_v1:KC k_v1)(hm_v1:∀ a,mdT f_v1 a=⟨[],false⟩)(hk_v1:spf f_v1=false){res:Int}(h:cM v0 v1=some res):aj prog 204 [.sl (ab GTie.enc v0),.fn f_v1 k_v1] [] (.lit (.int .i64 res)) []:=by
 refine co (hi:=hi00) func204 rfl rfl ?_
 unfold cM at h
 obtain⟨q03,l1,h⟩:=ae h
 simp(config:=cS)only[go_sem,hc_v1.1,hc_v1.2,hm_v1,hk_v1]
 refine ak (m1:=.mk) (m2:=.mk) [.nf [0,1,7,8] []] (jJ v0 f_v1 k_v1 (v0.length:Int)) l1 ?_ ?_
 ·simp(config:=cS)only[go_sem,hc_v1.1,hc_v1.2,hm_v1,hk_v1]
 intro nb2 v8_1 bb2 b2 gb2
 unfold fH at b2
 try dsimp only at b2
 obtain⟨h3,b2⟩|⟨h3,b2⟩:=aO b2
 ·obtain⟨x01,g4,b2⟩:=ae b2
  obtain⟨h5,h6,h7⟩:=bC g4
  obtain⟨r02,g8,b2⟩:=ae b2
  simp(config:=cS)only[go_sem,hc_v1.1,hc_v1.2,hm_v1,hk_v1,eqT h3,h5,h6,h7]
  refine af (hp_v1 _ _ g8) ?_
  obtain⟨h9,b2⟩|⟨h9,b2⟩:=aO b2
  ·cases b2
   obtain rfl:=(aI gb2).symm
   try dsimp only at h
   cases h
   simp(config:=cS)only[go_sem,hc_v1.1,hc_v1.2,hm_v1,hk_v1,eqT h3,h5,h6,h7,eZt h9]
  cases b2
  simp(config:=cS)only[go_sem,hc_v1.1,hc_v1.2,hm_v1,hk_v1,eqT h3,h5,h6,h7,eZf h9]
  refine cE gb2 ?_
  simp(config:=cS)only[go_sem,hc_v1.1,hc_v1.2,hm_v1,hk_v1,eqT h3,h5,h6,h7,eZf h9]
 cases b2
 obtain rfl:=(aI gb2).symm
 try dsimp only at h
 cases h
 simp(config:=cS)only[go_sem,hc_v1.1,hc_v1.2,hm_v1,hk_v1,eqF h3]
theorem fy {v0:List GTie}{v1:GTie→Option Bool}{f_v1:Nat}{k_v1:List AV}(hp_v1:∀ y0 r,v1 y0=some r→aj prog f_v1 ([.agg (GTie.enc y0)]++k_v1) [] (.lit (.bool r)) [])(hc_v1:KC k_v1)(hm_v1:∀ a,mdT f_v1 a=⟨[],false⟩)(hk_v1:spf f_v1=false){res:Bool}(h:bW v0 v1=some res):aj prog 219 [.sl (ab GTie.enc v0),.fn f_v1 k_v1] [] (.lit (.bool res)) []:=by
 refine co (hi:=hi00) func219 rfl rfl ?_
 unfold bW at h
 obtain⟨r01,g1,h⟩:=ae h
 simp(config:=cS)only[go_sem,hc_v1.1,hc_v1.2,hm_v1,hk_v1]
 refine af (hM hp_v1 hc_v1 hm_v1 hk_v1 g1) ?_
 cases h
 simp(config:=cS)only[go_sem,hc_v1.1,hc_v1.2,hm_v1,hk_v1]
instance k244 {u:GTie} {t:GTie}:Ctr (gK u t) (fun (res:Bool)=>aj prog 244 [.agg (GTie.enc u),.loc [.lit (.int .i64 t.from_),.lit (.int .i64 t.to),.lit (.int .i64 t.low),.lit (.int .i64 t.high),.lit (.bool t.free)]] [] (.lit (.bool res)) []):=⟨by
 intro res h0
 refine co (hi:=hi00) func244 rfl rfl ?_
 unfold gK at h0
 exact run⟩
@[go_sem] def nY (v6:List GTie)(v7:Int)(s_0:List ah)(s_2 v8:Int):St:=⟨[(1,.ptr 64 1 0 0),(6,.sl (ab GTie.enc v6)),(7,.lit (.int .i64 v7)),(8,.lit (.int .i64 v8))],[(64,1,.var [.sl (ab ah.encS s_0),.sl (ab GTie.enc v6),.lit (.int .i64 s_2)])],2⟩
@[go_sem] def hi180_7:DT:=.r2 0 36 .nil
def zK:Hint where
 acts:=fun _=>[]
 draws:=fun
  | 7=>⟨hi180_7,[[],[0],[0,1],[0,1,2],[0,1,2,3],.range 5,.range 6,.range 7,.range 8,.range 9,.range 10,.range 9,[0,1,2,3,4,5,6,7,8,11],.range 13,.range 14,.range 15,.range 16,.range 17,.range 18,.range 19,.range 20,.range 19,[0,1,2,3,4,5,6,7,8,9,10,11,12,13,14,15,16,17,18,21],.range 23,.range 24,.range 25,.range 19,[0,1,2,3,4,5,6,7,8,9,10,11,12,13,14,15,16,17,18,26],.range 19,[0,1,2,3,4,5,6,7,8,9,10,11,12,13,14,15,16,17,18,28],[0,1,2,3,4,5,6,7,8,9,10,11,12,13,14,15,16,17,18,26,27,28,29],[0,1,2,3,4,5,6,7,8,9,10,11,12,13,14,15,16,17,18,26,27,28,29,30],[0,1,2,3,4,5,6,7,8,9,10,11,12,13,14,15,16,17,18,26,27,28,29,30,31],.range 33,.range 34,.range 35],.range 36⟩
  | _=>⟨.nil,[],[]⟩
theorem Fk (i:Nat):zK.acts i=[]:=rfl
attribute[go_sem] Fk ntmps180 results180
@[go_sem] theorem HX:(zK.draws 7).order=hi180_7:=rfl
instance k180 {s:GShow}:Ctr (jQ s) (fun (res:Bool)=>aj prog 180 [.agg (GShow.encS s)] [] (.lit (.bool res)) []):=⟨by
 intro res h0
 refine co (hi:=zK) func180 rfl rfl ?_
 unfold jQ at h0
 obtain⟨q10,l0,h0⟩:=ae h0
 simp(config:=cS)only[go_sem, *]
 refine ak (m1:=.mk) (m2:=.mk) [.nf [1,6,7,8] [64]] (nY s.ties (s.ties.length:Int) s.nodes s.horizon) l0 ?_ ?_
 ·simp(config:=cS)only[go_sem, *]
 have k0:=h0
 clear h0 l0
 intro _ v8_1 _ h0 gb0
 unfold ld at h0
 try dsimp only at h0
 obtain⟨_,h0⟩|⟨_,h0⟩:=itP h0
 ·obtain⟨x01,_,_,_,h0⟩:=gtI h0
  obtain⟨r02,g0,h0⟩:=ae h0
  simp(config:=cS)only[go_sem, *]
  have g0:=ctr g0
  refine af g0 ?_
  obtain⟨_,h0⟩|⟨_,h0⟩:=itB h0
  ·obtain⟨r03,g0,h0⟩:=ae h0
   simp(config:=cS)only[go_sem, *]
   have g0:=ctr g0
   refine af g0 ?_
   obtain⟨_,h0⟩|⟨_,h0⟩:=itB h0
   ·obtain⟨_,h0⟩|⟨_,h0⟩:=itP h0
    ·exact run
    obtain⟨r04,g0,h0⟩:=ae h0
    simp(config:=cS)only[go_sem, *]
    have g0:=ctr g0
    refine af g0 ?_
    obtain⟨_,h0⟩|⟨_,h0⟩:=itB h0
    ·obtain⟨r05,g0,h0⟩:=ae h0
     simp(config:=cS)only[go_sem, *]
     have g0:=ctr g0
     refine af g0 ?_
     obtain⟨_,h0⟩|⟨_,h0⟩:=itB h0
     ·obtain⟨_,h0⟩|⟨_,h0⟩:=itP h0
      ·exact run
      obtain⟨_,h0⟩|⟨_,h0⟩:=itB h0
      ·obtain⟨_,h0⟩|⟨_,h0⟩:=itP h0
       ·exact run
       obtain⟨_,h0⟩|⟨_,h0⟩:=itP h0
       ·exact run
       obtain⟨x06,_,_,_,h0⟩:=gtI h0
       obtain⟨_,h0⟩|⟨_,h0⟩:=itP h0
       ·obtain⟨x07,_,_,_,h0⟩:=gtI h0
        obtain⟨r08,g0,h0⟩:=ae h0
        simp(config:=cS)only[go_sem, *]
        have g0:=ctr g0
        refine af g0 ?_
        obtain⟨_,h0⟩|⟨_,h0⟩:=itB h0
        ·obtain⟨_,h0⟩:=ckP h0
         obtain⟨_,h0⟩:=ckP h0
         obtain⟨r09,g0,h0⟩:=ae h0
         simp(config:=cS)only[go_sem, *]
         refine af (fy (by exact fun _ _ hr=>by have q:=ctr hr;exact q) (by refine⟨fun _=>?_,fun _=>?_⟩ <;> simp only[go_sem]) (fun _=>rfl) rfl g0) ?_
         exact run
        exact run
       exact run
      exact run
     exact run
    exact run
   exact run
  exact run
 exact run⟩
instance k278 {n:ah} {p:Int}:Ctr (gL n p) (fun (res:Bool)=>aj prog 278 [.agg (ah.encS n),.loc [.lit (.int .i64 p)]] [] (.lit (.bool res)) []):=⟨by
 intro res h0
 refine co (hi:=hi00) func278 rfl rfl ?_
 unfold gL at h0
 exact run⟩
instance k241 {s:GShow} {p:Int}:Ctr (gx s p) (fun (res:Int)=>aj prog 241 [.agg (GShow.encS s),.lit (.int .i64 p)] [] (.lit (.int .i64 res)) []):=⟨by
 intro res h0
 refine co (hi:=hi00) func241 rfl rfl ?_
 unfold gx at h0
 obtain⟨r01,g0,h0⟩:=ae h0
 simp(config:=cS)only[go_sem, *]
 refine af (gB (by exact fun _ _ hr=>by have q:=ctr hr;exact q) (by refine⟨fun _=>?_,fun _=>?_⟩ <;> simp only[go_sem]) (fun _=>rfl) rfl g0) ?_
 exact run⟩
@[go_sem] def mc (v0:List Int)(v1 v7 v8:Int):St:=⟨[(0,.sl (ab eI v0)),(1,.lit (.int .i64 v1)),(7,.lit (.int .i64 v7)),(8,.lit (.int .i64 v8))],[],2⟩
instance k171 {v0:List Int} {v1:Int}:Ctr (fY v0 v1) (fun (res:Int)=>aj prog 171 [.sl (ab eI v0),.lit (.int .i64 v1)] [] (.lit (.int .i64 res)) []):=⟨by
 intro res h0
 refine co (hi:=hi00) func171 rfl rfl ?_
 unfold fY at h0
 obtain⟨q02,l0,h0⟩:=ae h0
 simp(config:=cS)only[go_sem, *]
 refine ak (m1:=.mk) (m2:=.mk) [.nf [0,1,7,8] []] (mc v0 v1 (v0.length:Int)) l0 ?_ ?_
 ·simp(config:=cS)only[go_sem, *]
 have k0:=h0
 clear h0 l0
 intro _ v8_1 _ h0 gb0
 unfold iG at h0
 try dsimp only at h0
 exact run⟩
instance k113 {v0:List Int} {v1:Int}:Ctr (bm v0 v1) (fun (res:Bool)=>aj prog 113 [.sl (ab eI v0),.lit (.int .i64 v1)] [] (.lit (.bool res)) []):=⟨by
 intro res h0
 refine co (hi:=hi00) func113 rfl rfl ?_
 unfold bm at h0
 exact run⟩
instance k279 {v0:Int} {a:List Int}:Ctr (dS v0 a) (fun (res:Bool)=>aj prog 279 [.lit (.int .i64 v0),.loc [.sl (ab eI a)]] [] (.lit (.bool res)) []):=⟨by
 intro res h0
 refine co (hi:=hi00) func279 rfl rfl ?_
 unfold dS at h0
 exact run⟩
instance k245 {a:List Int} {b:List Int}:Ctr (ff a b) (fun (res:Bool)=>aj prog 245 [.sl (ab eI a),.sl (ab eI b)] [] (.lit (.bool res)) []):=⟨by
 intro res h0
 refine co (hi:=hi00) func245 rfl rfl ?_
 unfold ff at h0
 obtain⟨r01,g0,h0⟩:=ae h0
 simp(config:=cS)only[go_sem, *]
 have g0:=ctr g0
 refine af g0 ?_
 obtain⟨_,h0⟩|⟨_,h0⟩:=itB h0
 ·obtain⟨r02,g0,h0⟩:=ae h0
  simp(config:=cS)only[go_sem, *]
  have g0:=ctr g0
  refine af g0 ?_
  obtain⟨_,h0⟩|⟨_,h0⟩:=itB h0
  ·obtain⟨r03,g0,h0⟩:=ae h0
   simp(config:=cS)only[go_sem, *]
   refine af (bz (by exact fun _ _ hr=>by have q:=ctr hr;exact q) (by refine⟨fun _=>?_,fun _=>?_⟩ <;> simp only[go_sem]) (fun _=>rfl) rfl g0) ?_
   exact run
  exact run
 exact run⟩
@[go_sem] def hi182_1:DT:=.i1 0 (.i2 1 (.i0 2 [0] (.i2 3 (.i2 4 .nil))))
def zL:Hint where
 acts:=fun _=>[]
 draws:=fun
  | 1=>⟨hi182_1,[[],[],[1],[0,1,2],[0,1,2,3]],.range 5⟩
  | _=>⟨.nil,[],[]⟩
theorem Fl (i:Nat):zL.acts i=[]:=rfl
attribute[go_sem] Fl ntmps182 results182
@[go_sem] theorem HY:(zL.draws 1).order=hi182_1:=rfl
instance k182 {s:GShow} {label:List Int} {v2:Int}:Ctr (io s label v2) (fun (res:Bool)=>aj prog 182 [.agg (GShow.encS s),.sl (ab eI label),.lit (.int .i64 v2)] [] (.lit (.bool res)) []):=⟨by
 intro res h0
 refine co (hi:=zL) func182 rfl rfl ?_
 unfold io at h0
 exact run⟩
instance k181 {v0:Int} {s:GShow} {n:ah}:Ctr (ip v0 s n) (fun (res:Bool)=>aj prog 181 [.lit (.int .i64 v0),.loc [.sl (ab ah.encS s.nodes),.sl (ab GTie.enc s.ties),.lit (.int .i64 s.horizon)],.loc [.lit (.string n.name),.sl (ab eI n.label),.lit (.int .i64 n.watch)]] [] (.lit (.bool res)) []):=⟨by
 intro res h0
 refine co (hi:=hi00) func181 rfl rfl ?_
 unfold ip at h0
 exact run⟩
@[go_sem] def oP (v24:List ah)(v25:Int)(s_1:List GTie)(s_2 v26:Int):St:=⟨[(1,.ptr 64 1 0 0),(24,.sl (ab ah.encS v24)),(25,.lit (.int .i64 v25)),(26,.lit (.int .i64 v26))],[(64,1,.var [.sl (ab ah.encS v24),.sl (ab GTie.enc s_1),.lit (.int .i64 s_2)])],2⟩
instance k115 {s:GShow}:Ctr (bk s) (fun (res:Bool)=>aj prog 115 [.agg (GShow.encS s)] [] (.lit (.bool res)) []):=⟨by
 intro res h0
 refine co (hi:=hi00) func115 rfl rfl ?_
 unfold bk at h0
 obtain⟨r01,g0,h0⟩:=ae h0
 simp(config:=cS)only[go_sem, *]
 have g0:=ctr g0
 refine af g0 ?_
 obtain⟨_,h0⟩|⟨_,h0⟩:=itB h0
 ·obtain⟨r02,g0,h0⟩:=ae h0
  simp(config:=cS)only[go_sem, *]
  have g0:=ctr g0
  refine af g0 ?_
  obtain⟨_,h0⟩|⟨_,h0⟩:=itB h0
  ·obtain⟨_,h0⟩|⟨_,h0⟩:=itP h0
   ·exact run
   obtain⟨_,h0⟩|⟨_,h0⟩:=itP h0
   ·exact run
   obtain⟨q05,l0,h0⟩:=ae h0
   simp(config:=cS)only[go_sem, *]
   refine ak (m1:=.mk) (m2:=.mk) [.nf [1,24,25,26] [64]] (oP s.nodes (s.nodes.length:Int) s.ties s.horizon) l0 ?_ ?_
   ·simp(config:=cS)only[go_sem, *]
   have k0:=h0
   clear h0 l0
   intro _ v26_1 _ h0 gb0
   unfold mm at h0
   try dsimp only at h0
   obtain⟨_,h0⟩|⟨_,h0⟩:=itP h0
   ·obtain⟨x03,_,_,_,h0⟩:=gtI h0
    obtain⟨r04,g0,h0⟩:=ae h0
    simp(config:=cS)only[go_sem, *]
    refine af (bz (by exact fun _ _ hr=>by have q:=ctr hr;exact q) (by refine⟨fun _=>?_,fun _=>?_⟩ <;> simp only[go_sem]) (fun _=>rfl) rfl g0) ?_
    exact run
   exact run
  exact run
 exact run⟩
instance k205 {t:GTie} {node:Int}:Ctr (gM t node) (fun (res:Bool)=>aj prog 205 [.agg (GTie.enc t),.loc [.lit (.int .i64 node)]] [] (.lit (.bool res)) []):=⟨by
 intro res h0
 refine co (hi:=hi00) func205 rfl rfl ?_
 unfold gM at h0
 exact run⟩
instance k148 {s:GShow} {node:Int}:Ctr (cI s node) (fun (res:Int)=>aj prog 148 [.agg (GShow.encS s),.lit (.int .i64 node)] [] (.lit (.int .i64 res)) []):=⟨by
 intro res h0
 refine co (hi:=hi00) func148 rfl rfl ?_
 unfold cI at h0
 obtain⟨r01,g0,h0⟩:=ae h0
 simp(config:=cS)only[go_sem, *]
 refine af (hM (by exact fun _ _ hr=>by have q:=ctr hr;exact q) (by refine⟨fun _=>?_,fun _=>?_⟩ <;> simp only[go_sem]) (fun _=>rfl) rfl g0) ?_
 exact run⟩
instance k94 {s:GShow} {node:Int}:Ctr (jR s node) (fun (res:Int)=>aj prog 94 [.agg (GShow.encS s),.lit (.int .i64 node)] [] (.lit (.int .i64 res)) []):=⟨by
 intro res h0
 refine co (hi:=hi00) func94 rfl rfl ?_
 unfold jR at h0
 exact run⟩
@[go_sem] def lK (ok:Bool)(v19:Int)(v18:List Int)(v0_0:List GCue)(v0_1:List Int)(v0_2:Int)(v0_3:List ah)(v0_4:List GTie)(v0_5 v0_6:Int)(v0_7 v0_8:List Int)(v0_9:Bool)(v0_10:List al)(v0_11:List aE):(Int × (List Int))→St
 | (v20,out)=>⟨[(0,.ptr 10000 0 0 0),(7,.lit (.bool ok)),(8,.ref 575 1 0 out.length),(18,.ref 960 1 0 v18.length),(19,.lit (.int .i64 v19)),(20,.lit (.int .i64 v20))],[(10000,0,.var [.sl (ab GCue.enc v0_0),.sl (ab eI v0_1),.lit (.int .i64 v0_2),.sl (ab ah.encS v0_3),.sl (ab GTie.enc v0_4),.lit (.int .i64 v0_5),.lit (.int .i64 v0_6),.sl (ab eI v0_7),.sl (ab eI v0_8),.lit (.bool v0_9),.sl (ab al.encS v0_10),.sl (ab aE.enc v0_11)]),(575,1,.row true (ab eI out)),(960,1,.row true (ab eI v18))],2⟩
instance k53 {v0:GConsole} {word:ByteArray}:Ctr (fg v0 word) (fun (res:(List Int) × Bool × GConsole)=>aj prog 53 [.ptr 10000 0 0 0,.lit (.string word)] [(10000,0,.var [.sl (ab GCue.enc v0.sheet.cues),.sl (ab eI v0.sheet.prep),.lit (.int .i64 v0.sheet.horizon),.sl (ab ah.encS v0.desk.show_.nodes),.sl (ab GTie.enc v0.desk.show_.ties),.lit (.int .i64 v0.desk.show_.horizon),.lit (.int .i64 v0.desk.state.now),.sl (ab eI v0.desk.state.times),.sl (ab eI v0.desk.state.values),.lit (.bool v0.desk.lazy),.sl (ab al.encS v0.desk.log),.sl (ab aE.enc v0.takes)])] (.tup [.ref 20000 1 0 res.1.length,.lit (.bool res.2.1)]) [(10000,0,.var [.sl (ab GCue.enc res.2.2.sheet.cues),.sl (ab eI res.2.2.sheet.prep),.lit (.int .i64 res.2.2.sheet.horizon),.sl (ab ah.encS res.2.2.desk.show_.nodes),.sl (ab GTie.enc res.2.2.desk.show_.ties),.lit (.int .i64 res.2.2.desk.show_.horizon),.lit (.int .i64 res.2.2.desk.state.now),.sl (ab eI res.2.2.desk.state.times),.sl (ab eI res.2.2.desk.state.values),.lit (.bool res.2.2.desk.lazy),.sl (ab al.encS res.2.2.desk.log),.sl (ab aE.enc res.2.2.takes)]),(20000,1,.row true (ab eI res.1))]):=⟨by
 intro res h0
 refine az (ra:=[.home 4,.homeCell 10000 0,.freeze [100640000],.sliC 10000 0,.homeCell 10000 1,.freeze [100640001],.sliC 10000 1,.homeCell 10000 3,.freeze [100640003],.sliC 10000 3,.homeCell 10000 4,.freeze [100640004],.sliC 10000 4,.homeCell 10000 7,.freeze [100640007],.sliC 10000 7,.homeCell 10000 8,.freeze [100640008],.sliC 10000 8,.homeCell 10000 10,.freeze [100640010],.sliC 10000 10,.homeCell 10000 11,.freeze [100640011],.sliC 10000 11]) (md:=mdT) hT (hi:=hi00) func53 rfl rfl (by decide +kernel) (by simp) ?_
 unfold fg at h0
 obtain⟨r01,g0,h0⟩:=ae h0
 simp(config:=cS)only[go_sem, *]
 have g0:=ctr g0
 refine af g0 ?_
 obtain⟨q05,l0,h0⟩:=ae h0
 simp(config:=cS)only[go_sem, *]
 refine ak (m1:=.mk) (m2:=.mk) [.home 8,.nf [0,7,8,18,19,20] [10000,575,960]] (lK r01.2.1 (r01.1.length:Int) r01.1 r01.2.2.sheet.cues r01.2.2.sheet.prep r01.2.2.sheet.horizon r01.2.2.desk.show_.nodes r01.2.2.desk.show_.ties r01.2.2.desk.show_.horizon r01.2.2.desk.state.now r01.2.2.desk.state.times r01.2.2.desk.state.values r01.2.2.desk.lazy r01.2.2.desk.log r01.2.2.takes) l0 ?_ ?_
 ·simp(config:=cS)only[go_sem, *]
 have k0:=h0
 clear h0 l0
 intro _ s0 _ h0 gb0
 obtain⟨v20_1,out_1⟩:=s0
 unfold hN at h0
 try dsimp only at h0
 obtain⟨_,h0⟩|⟨_,h0⟩:=itP h0
 ·exact run
 cases h0
 obtain rfl:=(aI gb0).symm
 clear gb0
 have h0:=k0
 clear k0
 try dsimp only at h0
 obtain⟨r04,g0,h0⟩:=ae h0
 simp(config:=cS)only[go_sem, *]
 refine af (dZ g0) ?_
 exact run⟩
instance k217 {v0:Int} {y:Int}:Ctr (mn v0 y) (fun (res:Int × Int)=>aj prog 217 [.lit (.int .u64 v0),.lit (.int .u64 y)] [] (.tup [.lit (.int .u64 res.1),.lit (.int .u64 res.2)]) []):=⟨by
 intro res h0
 refine co (hi:=hi00) func217 rfl rfl ?_
 unfold mn at h0
 exact run⟩
instance k151 {v0:Int} {y:Int}:Ctr (oz v0 y) (fun (res:Int × Int)=>aj prog 151 [.lit (.int .u64 v0),.lit (.int .u64 y)] [] (.tup [.lit (.int .u64 res.1),.lit (.int .u64 res.2)]) []):=⟨by
 intro res h0
 refine co (hi:=hi00) func151 rfl rfl ?_
 unfold oz at h0
 exact run⟩
@[go_sem] def lL  : (Int × (List Int))→St
 | (v8,v7)=>⟨[(7,.ref 1920 1 0 v7.length),(8,.lit (.int .i64 v8))],[(1920,1,.row true (ab eI v7))],2⟩
@[go_sem] def hi96_9:DT:=.r2 0 10 .nil
def hi96:Hint where
 acts:=fun _=>[]
 draws:=fun
  | 9=>⟨hi96_9,[[],[],[],[1,2],[],[],[4,5],[1,2,3,4,5,6],.range 8,.range 9],.range 10⟩
  | _=>⟨.nil,[],[]⟩
theorem GQ (i:Nat):hi96.acts i=[]:=rfl
attribute[go_sem] GQ ntmps96 results96
@[go_sem] theorem Jd:(hi96.draws 9).order=hi96_9:=rfl
instance k96 {v0:List Int} {v1:Int}:Ctr (cz v0 v1) (fun (res:List Int)=>aj prog 96 [.sl (ab eI v0),.lit (.int .i64 v1)] [] (.ref 20000 1 0 res.length) [(20000,1,.row true (ab eI res))]):=⟨by
 intro res h0
 refine az (ra:=[.home 4]) (md:=mdT) hT (hi:=hi96) func96 rfl rfl (by decide +kernel) (by simp) ?_
 unfold cz at h0
 obtain⟨_,h0⟩|⟨_,h0⟩:=itP h0
 ·exact run
 obtain⟨r01,g0,h0⟩:=ae h0
 simp(config:=cS)only[go_sem, *]
 have g0:=ctr g0
 refine af g0 ?_
 obtain⟨_,h0⟩|⟨_,h0⟩:=itP h0
 ·exact run
 obtain⟨_,h0⟩|⟨_,h0⟩:=itP h0
 ·exact run
 obtain⟨_,h0⟩:=ckP h0
 obtain⟨_,h0⟩:=ckP h0
 obtain⟨_,h0⟩:=ckP h0
 obtain⟨q02,l0,h0⟩:=ae h0
 simp(config:=cS)only[go_sem, *]
 refine ak (m1:=.mk) (m2:=.mk) [.nf [7,8] [1920]] (lL) l0 ?_ ?_
 ·simp(config:=cS)only[go_sem, *]
 have k0:=h0
 clear h0 l0
 intro _ s0 _ h0 gb0
 obtain⟨v8_1,v7_1⟩:=s0
 unfold hP at h0
 try dsimp only at h0
 exact run⟩
@[go_sem] def oQ (ok:Bool)(v17:Int)(v16:List Int):(Int × (List Int))→St
 | (v18,out)=>⟨[(5,.lit (.bool ok)),(6,.ref 960 1 0 out.length),(16,.ref 704 1 0 v16.length),(17,.lit (.int .i64 v17)),(18,.lit (.int .i64 v18))],[(960,1,.row true (ab eI out)),(704,1,.row true (ab eI v16))],2⟩
instance k54 {word:ByteArray}:Ctr (kR word) (fun (res:(List Int) × Bool)=>aj prog 54 [.lit (.string word)] [] (.tup [.ref 20000 1 0 res.1.length,.lit (.bool res.2)]) [(20000,1,.row true (ab eI res.1))]):=⟨by
 intro res h0
 refine az (ra:=[.home 2]) (md:=mdT) hT (hi:=hi00) func54 rfl rfl (by decide +kernel) (by simp) ?_
 unfold kR at h0
 obtain⟨r01,g0,h0⟩:=ae h0
 simp(config:=cS)only[go_sem, *]
 have g0:=ctr g0
 refine af g0 ?_
 obtain⟨r02,g0,h0⟩:=ae h0
 simp(config:=cS)only[go_sem, *]
 have g0:=ctr g0
 refine af g0 ?_
 obtain⟨q05,l0,h0⟩:=ae h0
 simp(config:=cS)only[go_sem, *]
 refine ak (m1:=.mk) (m2:=.mk) [.nf [5,6,16,17,18] [960,704]] (oQ r01.2 (r01.1.length:Int) r01.1) l0 ?_ ?_
 ·simp(config:=cS)only[go_sem, *]
 have k0:=h0
 clear h0 l0
 intro _ s0 _ h0 gb0
 obtain⟨v18_1,out_1⟩:=s0
 unfold mq at h0
 try dsimp only at h0
 exact run⟩
instance k295 {n:Int}:Ctr (fZ n) (fun (res:Bool)=>aj prog 295 [.lit (.int .i64 n)] [] (.lit (.bool res)) []):=⟨by
 intro res h0
 refine co (hi:=hi00) func295 rfl rfl ?_
 unfold fZ at h0
 exact run⟩
instance k280 {v:List Int}:Ctr (fI v) (fun (res:Bool)=>aj prog 280 [.sl (ab eI v)] [] (.lit (.bool res)) []):=⟨by
 intro res h0
 refine co (hi:=hi00) func280 rfl rfl ?_
 unfold fI at h0
 obtain⟨_,h0⟩|⟨_,h0⟩:=itP h0
 ·obtain⟨r01,g0,h0⟩:=ae h0
  simp(config:=cS)only[go_sem, *]
  refine af (bz (by exact fun _ _ hr=>by have q:=ctr hr;exact q) (by refine⟨fun _=>?_,fun _=>?_⟩ <;> simp only[go_sem]) (fun _=>rfl) rfl g0) ?_
  exact run
 exact run⟩
@[go_sem] def nZ (v37:List Int)(v38:Int)(s_0:List ah)(s_1:List GTie)(s_2 v3_0:Int)(v3_2:List Int)(v39:Int):St:=⟨[(2,.ptr 128 1 0 0),(3,.ptr 192 1 0 0),(37,.sl (ab eI v37)),(38,.lit (.int .i64 v38)),(39,.lit (.int .i64 v39))],[(128,1,.var [.sl (ab ah.encS s_0),.sl (ab GTie.enc s_1),.lit (.int .i64 s_2)]),(192,1,.var [.lit (.int .i64 v3_0),.sl (ab eI v37),.sl (ab eI v3_2)])],2⟩
@[go_sem] def oa (v67:List Int)(v68:Int)(s_0:List ah)(s_1:List GTie)(s_2 v3_0:Int)(v3_1:List Int)(v69:Int):St:=⟨[(2,.ptr 128 1 0 0),(3,.ptr 192 1 0 0),(67,.sl (ab eI v67)),(68,.lit (.int .i64 v68)),(69,.lit (.int .i64 v69))],[(128,1,.var [.sl (ab ah.encS s_0),.sl (ab GTie.enc s_1),.lit (.int .i64 s_2)]),(192,1,.var [.lit (.int .i64 v3_0),.sl (ab eI v3_1),.sl (ab eI v67)])],2⟩
instance k246 {s:GShow} {v1:GState}:Ctr (jS s v1) (fun (res:Bool)=>aj prog 246 [.agg (GShow.encS s),.agg (GState.encS v1)] [] (.lit (.bool res)) []):=⟨by
 intro res h0
 refine co (hi:=hi00) func246 rfl rfl ?_
 unfold jS at h0
 obtain⟨_,h0⟩|⟨_,h0⟩:=itP h0
 ·exact run
 obtain⟨_,h0⟩|⟨_,h0⟩:=itP h0
 ·exact run
 obtain⟨_,h0⟩|⟨_,h0⟩:=itP h0
 ·obtain⟨r01,g0,h0⟩:=ae h0
  simp(config:=cS)only[go_sem, *]
  have g0:=ctr g0
  refine af g0 ?_
  obtain⟨_,h0⟩|⟨_,h0⟩:=itB h0
  ·obtain⟨q07,l0,h0⟩:=ae h0
   simp(config:=cS)only[go_sem, *]
   refine ak (m1:=.mk) (m2:=.mk) [.nf [2,3,37,38,39] [128,192]] (nZ v1.times (v1.times.length:Int) s.nodes s.ties s.horizon v1.now v1.values) l0 ?_ ?_
   ·simp(config:=cS)only[go_sem, *]
   have k0:=h0
   clear h0 l0
   intro _ v39_1 _ h0 gb0
   unfold lf at h0
   try dsimp only at h0
   obtain⟨_,h0⟩|⟨_,h0⟩:=itP h0
   ·exact run
   cases h0
   obtain rfl:=(aI gb0).symm
   clear gb0
   have h0:=k0
   clear k0
   try dsimp only at h0
   obtain⟨q06,l0,h0⟩:=ae h0
   simp(config:=cS)only[go_sem, *]
   refine ak (m1:=.mk) (m2:=.mk) [.nf [2,3,67,68,69] [128,192]] (oa v1.values (v1.values.length:Int) s.nodes s.ties s.horizon v1.now v1.times) l0 ?_ ?_
   ·simp(config:=cS)only[go_sem, *]
   have k0:=h0
   clear h0 l0
   intro _ v69_2 _ h0 gb0
   unfold lg at h0
   try dsimp only at h0
   exact run
  exact run
 exact run⟩
instance k183 {s:GShow} {v1:GState}:Ctr (gy s v1) (fun (res:Bool)=>aj prog 183 [.agg (GShow.encS s),.agg (GState.encS v1)] [] (.lit (.bool res)) []):=⟨by
 intro res h0
 refine co (hi:=hi00) func183 rfl rfl ?_
 unfold gy at h0
 exact run⟩
@[go_sem] def hi127_3:DT:=.i1 1 (.i1 2 (.i1 3 (.fork (.i0 0 [1,2,3] (.fork (.i2 4 (.fork (.i0 5 [1,2,3] (.i2 6 (.i0 7 [1,2,3] (.i2 8 .nil)))) (.i0 7 [1,2,3] (.i0 5 [1,2,3] (.i2 6 (.i2 8 .nil)))))) (.fork (.i0 5 [1,2,3] (.fork (.i2 4 (.i2 6 (.i0 7 [1,2,3] (.i2 8 .nil)))) (.i0 7 [1,2,3] (.i2 4 (.i2 6 (.i2 8 .nil)))))) (.i0 7 [1,2,3] (.fork (.i2 4 (.i0 5 [1,2,3] (.i2 6 (.i2 8 .nil)))) (.i0 5 [1,2,3] (.i2 4 (.i2 6 (.i2 8 .nil))))))))) (.fork (.i0 5 [1,2,3] (.fork (.i0 0 [1,2,3] (.fork (.i2 4 (.i2 6 (.i0 7 [1,2,3] (.i2 8 .nil)))) (.i0 7 [1,2,3] (.i2 4 (.i2 6 (.i2 8 .nil)))))) (.i0 7 [1,2,3] (.i0 0 [1,2,3] (.i2 4 (.i2 6 (.i2 8 .nil))))))) (.i0 7 [1,2,3] (.fork (.i0 0 [1,2,3] (.fork (.i2 4 (.i0 5 [1,2,3] (.i2 6 (.i2 8 .nil)))) (.i0 5 [1,2,3] (.i2 4 (.i2 6 (.i2 8 .nil)))))) (.i0 5 [1,2,3] (.i0 0 [1,2,3] (.i2 4 (.i2 6 (.i2 8 .nil)))))))))))
def zM:Hint where
 acts:=fun _=>[]
 draws:=fun
  | 3=>⟨hi127_3,[[],[],[1],[1,2],[0,1,2,3],[],.range 6,[],.range 8],.range 9⟩
  | _=>⟨.nil,[],[]⟩
theorem Fm (i:Nat):zM.acts i=[]:=rfl
attribute[go_sem] Fm ntmps127 results127
@[go_sem] theorem HZ:(zM.draws 3).order=hi127_3:=rfl
instance k127 {s:GShow}:Ctr (ea s) (fun (res:GState)=>aj prog 127 [.agg (GShow.encS s)] [] (.agg [.lit (.int .i64 res.now),.ref 20000 1 0 res.times.length,.ref 20001 1 0 res.values.length]) [(20000,1,.row true (ab eI res.times)),(20001,1,.row true (ab eI res.values))]):=⟨by
 intro res h0
 refine az (ra:=[.homeCell 128 1,.homeCell 128 2]) (md:=mdT) hT (hi:=zM) func127 rfl rfl (by decide +kernel) (by simp) ?_
 unfold ea at h0
 obtain⟨r01,g0,h0⟩:=ae h0
 simp(config:=cS)only[go_sem, *]
 have g0:=ctr g0
 refine af g0 ?_
 obtain⟨_,h0⟩|⟨_,h0⟩:=itB h0
 ·try simp(config:=cS)only[go_sem, *]
  refine bR ?_ ?_
  ·try simp(config:=cS)only[go_sem, *]
   refine bR ?_ ?_
   ·obtain⟨r02,g0,h0⟩:=ae h0
    simp(config:=cS)only[go_sem, *]
    have g0:=ctr g0
    refine af g0 ?_
    try simp(config:=cS)only[go_sem, *]
    refine bR ?_ ?_
    ·obtain⟨x03,g1,h0⟩:=ae h0
     have:=aM (k:=0) g1
     exact run
    obtain⟨x04,g2,h0⟩:=ae h0
    have:=aM (k:=0) g2
    exact run
   try simp(config:=cS)only[go_sem, *]
   refine bR ?_ ?_
   ·try simp(config:=cS)only[go_sem, *]
    refine bR ?_ ?_
    ·obtain⟨r05,g0,h0⟩:=ae h0
     simp(config:=cS)only[go_sem, *]
     have g0:=ctr g0
     refine af g0 ?_
     obtain⟨x06,g3,h0⟩:=ae h0
     have:=aM (k:=0) g3
     exact run
    obtain⟨r07,g0,h0⟩:=ae h0
    simp(config:=cS)only[go_sem, *]
    have g0:=ctr g0
    refine af g0 ?_
    obtain⟨x08,g4,h0⟩:=ae h0
    have:=aM (k:=0) g4
    exact run
   try simp(config:=cS)only[go_sem, *]
   refine bR ?_ ?_
   ·obtain⟨r09,g0,h0⟩:=ae h0
    simp(config:=cS)only[go_sem, *]
    have g0:=ctr g0
    refine af g0 ?_
    obtain⟨x10,g5,h0⟩:=ae h0
    have:=aM (k:=0) g5
    exact run
   obtain⟨r11,g0,h0⟩:=ae h0
   simp(config:=cS)only[go_sem, *]
   have g0:=ctr g0
   refine af g0 ?_
   obtain⟨x12,g6,h0⟩:=ae h0
   have:=aM (k:=0) g6
   exact run
  try simp(config:=cS)only[go_sem, *]
  refine bR ?_ ?_
  ·try simp(config:=cS)only[go_sem, *]
   refine bR ?_ ?_
   ·try simp(config:=cS)only[go_sem, *]
    refine bR ?_ ?_
    ·obtain⟨r13,g0,h0⟩:=ae h0
     simp(config:=cS)only[go_sem, *]
     have g0:=ctr g0
     refine af g0 ?_
     obtain⟨x14,g7,h0⟩:=ae h0
     have:=aM (k:=0) g7
     exact run
    obtain⟨r15,g0,h0⟩:=ae h0
    simp(config:=cS)only[go_sem, *]
    have g0:=ctr g0
    refine af g0 ?_
    obtain⟨x16,g8,h0⟩:=ae h0
    have:=aM (k:=0) g8
    exact run
   obtain⟨r17,g0,h0⟩:=ae h0
   simp(config:=cS)only[go_sem, *]
   have g0:=ctr g0
   refine af g0 ?_
   obtain⟨x18,g9,h0⟩:=ae h0
   have:=aM (k:=0) g9
   exact run
  try simp(config:=cS)only[go_sem, *]
  refine bR ?_ ?_
  ·try simp(config:=cS)only[go_sem, *]
   refine bR ?_ ?_
   ·obtain⟨r19,g0,h0⟩:=ae h0
    simp(config:=cS)only[go_sem, *]
    have g0:=ctr g0
    refine af g0 ?_
    obtain⟨x20,g10,h0⟩:=ae h0
    have:=aM (k:=0) g10
    exact run
   obtain⟨r21,g0,h0⟩:=ae h0
   simp(config:=cS)only[go_sem, *]
   have g0:=ctr g0
   refine af g0 ?_
   obtain⟨x22,g11,h0⟩:=ae h0
   have:=aM (k:=0) g11
   exact run
  obtain⟨r23,g0,h0⟩:=ae h0
  simp(config:=cS)only[go_sem, *]
  have g0:=ctr g0
  refine af g0 ?_
  obtain⟨x24,g12,h0⟩:=ae h0
  have:=aM (k:=0) g12
  exact run
 exact run⟩
@[go_sem] def oR (v9:List GTie)(v10 v3_0:Int)(v3_1 v3_2:List Int):(Int × (List Int))→St
 | (v11,out)=>⟨[(3,.ptr 192 1 0 0),(5,.ref 383 1 0 out.length),(9,.sl (ab GTie.enc v9)),(10,.lit (.int .i64 v10)),(11,.lit (.int .i64 v11))],[(192,1,.var [.lit (.int .i64 v3_0),.sl (ab eI v3_1),.sl (ab eI v3_2)]),(383,1,.row true (ab eI out))],2⟩
instance k223 {s:GShow} {v1:GState}:Ctr (kS s v1) (fun (res:List Int)=>aj prog 223 [.agg (GShow.encS s),.agg (GState.encS v1)] [] (.ref 20000 1 0 res.length) [(20000,1,.row true (ab eI res))]):=⟨by
 intro res h0
 refine az (ra:=[.home 4]) (md:=mdT) hT (hi:=hi00) func223 rfl rfl (by decide +kernel) (by simp) ?_
 unfold kS at h0
 obtain⟨q04,l0,h0⟩:=ae h0
 simp(config:=cS)only[go_sem, *]
 refine ak (m1:=.mk) (m2:=.mk) [.home 5,.nf [3,5,9,10,11] [192,383]] (oR s.ties (s.ties.length:Int) v1.now v1.times v1.values) l0 ?_ ?_
 ·simp(config:=cS)only[go_sem, *]
 have k0:=h0
 clear h0 l0
 intro _ s0 _ h0 gb0
 obtain⟨v11_1,out_1⟩:=s0
 unfold mr at h0
 try dsimp only at h0
 exact run⟩
@[go_sem] def ob (set:Int)(v8:List Int)(v9:Int):(Int × (List Int))→St
 | (v10,out)=>⟨[(1,.lit (.int .i64 set)),(5,.ref 383 1 0 out.length),(8,.sl (ab eI v8)),(9,.lit (.int .i64 v9)),(10,.lit (.int .i64 v10))],[(383,1,.row true (ab eI out))],2⟩
instance k167 {list:List Int} {set:Int}:Ctr (gz list set) (fun (res:List Int)=>aj prog 167 [.sl (ab eI list),.lit (.int .i64 set)] [] (.ref 20000 1 0 res.length) [(20000,1,.row true (ab eI res))]):=⟨by
 intro res h0
 refine az (ra:=[.home 4]) (md:=mdT) hT (hi:=hi00) func167 rfl rfl (by decide +kernel) (by simp) ?_
 unfold gz at h0
 obtain⟨q02,l0,h0⟩:=ae h0
 simp(config:=cS)only[go_sem, *]
 refine ak (m1:=.mk) (m2:=.mk) [.home 5,.nf [1,5,8,9,10] [383]] (ob set list (list.length:Int)) l0 ?_ ?_
 ·simp(config:=cS)only[go_sem, *]
 have k0:=h0
 clear h0 l0
 intro _ s0 _ h0 gb0
 obtain⟨v10_1,out_1⟩:=s0
 unfold li at h0
 try dsimp only at h0
 exact run⟩
instance k263 {v1:Int}:Ctr (gN v1) (fun (res:List Int × Nat)=>aj prog 263 [.lit (.slice none 0 0),.lit (.int .i64 v1)] [] (.ref 20000 1 0 res.2) [(20000,1,.row true (ab eI res.1))]):=⟨by
 intro res h0
 refine az (ra:=[.home 4]) (md:=mdT) hT (hi:=hi00) func263 rfl rfl (by decide +kernel) (by simp) ?_
 unfold gN at h0
 exact run⟩
@[go_sem] def lM (v0:List (List Int))(v10:Int):(Int × Int)→St
 | (v3,v11)=>⟨[(0,.sl (ab (eLS eI) v0)),(3,.lit (.int .i64 v3)),(9,.sl (ab (eLS eI) v0)),(10,.lit (.int .i64 v10)),(11,.lit (.int .i64 v11))],[],2⟩
@[go_sem] def lN (v25:List (List Int))(v26:Int):(Nat × Int × (List Int))→St
 | (v6_n,v27,v6)=>⟨[(6,.ref 1536 1 0 v6_n),(25,.sl (ab (eLS eI) v25)),(26,.lit (.int .i64 v26)),(27,.lit (.int .i64 v27))],[(1536,1,.row true (ab eI v6))],2⟩
instance k224 {v0:List (List Int)}:Ctr (fh v0) (fun (res:List Int)=>aj prog 224 [.sl (ab (eLS eI) v0)] [] (.ref 20000 1 0 res.length) [(20000,1,.row true (ab eI res))]):=⟨by
 intro res h0
 refine az (ra:=[.home 2,.trimT 2]) (md:=mdT) hT (hi:=hi00) func224 rfl rfl (by decide +kernel) (by simp) ?_
 unfold fh at h0
 obtain⟨q05,l0,h0⟩:=ae h0
 simp(config:=cS)only[go_sem, *]
 refine ak (m1:=.mk) (m2:=.mk) [.nf [0,3,9,10,11] []] (lM v0 (v0.length:Int)) l0 ?_ ?_
 ·simp(config:=cS)only[go_sem, *]
 have k0:=h0
 clear h0 l0
 intro _ s0 _ h0 gb0
 obtain⟨v3_1,v11_1⟩:=s0
 unfold hU at h0
 try dsimp only at h0
 obtain⟨_,h0⟩|⟨_,h0⟩:=itP h0
 ·exact run
 cases h0
 obtain rfl:=(aI gb0).symm
 clear gb0
 have h0:=k0
 clear k0
 try dsimp only at h0
 obtain⟨r02,g0,h0⟩:=ae h0
 simp(config:=cS)only[go_sem, *]
 have g0:=ctr g0
 refine af g0 ?_
 obtain⟨q04,l0,h0⟩:=ae h0
 simp(config:=cS)only[go_sem, *]
 refine ak (m1:=.mk) (m2:=.mk) [.nf [6,25,26,27] [1536]] (lN v0 (v0.length:Int)) l0 ?_ ?_
 ·simp(config:=cS)only[go_sem, *]
 have k0:=h0
 clear h0 l0
 intro _ s0 _ h0 gb0
 obtain⟨v6_n_2,v27_2,v6_2⟩:=s0
 unfold hY at h0
 try dsimp only at h0
 exact run⟩
@[go_sem] def oc (v21:Int)(s_0:List ah)(s_1:List GTie)(s_2 v3_0:Int)(v3_1 v3_2 v20:List Int):(Int × (List Int) × (List Int))→St
 | (v22,must,may)=>⟨[(2,.ptr 128 1 0 0),(3,.ptr 192 1 0 0),(5,.ref 383 1 0 must.length),(6,.ref 447 1 0 may.length),(20,.ref 1280 1 0 v20.length),(21,.lit (.int .i64 v21)),(22,.lit (.int .i64 v22))],[(128,1,.var [.sl (ab ah.encS s_0),.sl (ab GTie.enc s_1),.lit (.int .i64 s_2)]),(192,1,.var [.lit (.int .i64 v3_0),.sl (ab eI v3_1),.sl (ab eI v3_2)]),(383,1,.row true (ab eI must)),(447,1,.row true (ab eI may)),(1280,1,.row true (ab eI v20))],2⟩
@[go_sem] def oe (must may:List Int):(Int × (List (List Int)))→St
 | (set,out)=>⟨[(5,.ref 383 1 0 must.length),(6,.ref 447 1 0 may.length),(10,.ref 703 1 0 out.length),(11,.lit (.int .i64 set))],[(383,1,.tree (ab eI must)),(447,1,.row true (ab eI may)),(703,1,.row true (ab (eLO eI) out))],2⟩
@[go_sem] def hi156_7:DT:=.r2 0 14 .nil
def zN:Hint where
 acts:=fun _=>[]
 draws:=fun
  | 7=>⟨hi156_7,[[],[0],[],[2],[],[4],[],[4,5,6],[4,5,6,7],[4,5,6,7,8],[2,3,4,5,6,7,8,9],[2,3,4,5,6,7,8,9,10],.range 12,.range 13],.range 14⟩
  | _=>⟨.nil,[],[]⟩
theorem Fo (i:Nat):zN.acts i=[]:=rfl
attribute[go_sem] Fo ntmps156 results156
@[go_sem] theorem Ia:(zN.draws 7).order=hi156_7:=rfl
instance k156 {s:GShow} {v1:GState}:Ctr (em s v1) (fun (res:List (List Int))=>aj prog 156 [.agg (GShow.encS s),.agg (GState.encS v1)] [] (.sl (ab (eLS eI) res)) []):=⟨by
 intro res h0
 refine az (ra:=[.freeze [703],.sliT 4,.nilSl 4]) (md:=mdT) hT (hi:=zN) func156 rfl rfl (by decide +kernel) (by simp) ?_
 unfold em at h0
 obtain⟨_,h0⟩|⟨_,h0⟩:=itP h0
 ·exact run
 obtain⟨r01,g0,h0⟩:=ae h0
 simp(config:=cS)only[go_sem, *]
 have g0:=ctr g0
 refine af g0 ?_
 obtain⟨q09,l0,h0⟩:=ae h0
 simp(config:=cS)only[go_sem, *]
 refine ak (m1:=.mk) (m2:=.mk) [.home 5,.home 6,.nf [2,3,5,6,20,21,22] [128,192,383,447,1280]] (oc (r01.length:Int) s.nodes s.ties s.horizon v1.now v1.times v1.values r01) l0 ?_ ?_
 ·simp(config:=cS)only[go_sem, *]
 have k0:=h0
 clear h0 l0
 intro _ s0 _ h0 gb0
 obtain⟨v22_1,must_1,may_1⟩:=s0
 unfold lj at h0
 try dsimp only at h0
 obtain⟨_,h0⟩|⟨_,h0⟩:=itP h0
 ·exact run
 cases h0
 obtain rfl:=(aI gb0).symm
 clear gb0
 have h0:=k0
 clear k0
 try dsimp only at h0
 obtain⟨q08,l0,h0⟩:=ae h0
 simp(config:=cS)only[go_sem, *]
 refine ak (m1:=.mk) (m2:=.mk) [.home 10,.freeze [383],.nf [5,6,10,11] [383,447,703]] (oe must_1 may_1) l0 ?_ ?_
 ·simp(config:=cS)only[go_sem, *]
 have k0:=h0
 clear h0 l0
 intro _ s0 _ h0 gb0
 obtain⟨set_2,out_2⟩:=s0
 unfold lk at h0
 try dsimp only at h0
 obtain⟨_,h0⟩:=ckN h0
 obtain⟨_,h0⟩|⟨_,h0⟩:=itP h0
 ·obtain⟨r05,g0,h0⟩:=ae h0
  simp(config:=cS)only[go_sem, *]
  have g0:=ctr g0
  refine af g0 ?_
  obtain⟨r06,g0,h0⟩:=ae h0
  simp(config:=cS)only[go_sem, *]
  have g0:=ctr g0
  refine af g0 ?_
  obtain⟨r07,g0,h0⟩:=ae h0
  simp(config:=cS)only[go_sem, *]
  refine af (dZ g0) ?_
  exact run
 exact run⟩
@[go_sem] def jo (v0:List (List Int))(f_v1:Nat)(k_v1:List AV)(v7 v8:Int):St:=⟨[(0,.sl (ab (eLS eI) v0)),(1,.fn f_v1 k_v1),(7,.lit (.int .i64 v7)),(8,.lit (.int .i64 v8))],[],2⟩
theorem mA {v0:List (List Int)}{v1:(List Int)→Option Bool}{f_v1:Nat}{k_v1:List AV}(hp_v1:∀ y0 r,v1 y0=some r→aj prog f_v1 ([.sl (ab eI y0)]++k_v1) [] (.lit (.bool r)) [])(hc_v1:KC k_v1)(hm_v1:∀ a,mdT f_v1 a=⟨[],false⟩)(hk_v1:spf f_v1=false){res:Int}(h:dC v0 v1=some res):aj prog 170 [.sl (ab (eLS eI) v0),.fn f_v1 k_v1] [] (.lit (.int .i64 res)) []:=by
 refine co (hi:=hi00) func170 rfl rfl ?_
 unfold dC at h
 obtain⟨q03,l1,h⟩:=ae h
 simp(config:=cS)only[go_sem,hc_v1.1,hc_v1.2,hm_v1,hk_v1]
 refine ak (m1:=.mk) (m2:=.mk) [.nf [0,1,7,8] []] (jo v0 f_v1 k_v1 (v0.length:Int)) l1 ?_ ?_
 ·simp(config:=cS)only[go_sem,hc_v1.1,hc_v1.2,hm_v1,hk_v1]
 intro nb2 v8_1 bb2 b2 gb2
 unfold eV at b2
 try dsimp only at b2
 obtain⟨h3,b2⟩|⟨h3,b2⟩:=aO b2
 ·obtain⟨x01,g4,b2⟩:=ae b2
  obtain⟨h5,h6,h7⟩:=bC g4
  obtain⟨r02,g8,b2⟩:=ae b2
  simp(config:=cS)only[go_sem,hc_v1.1,hc_v1.2,hm_v1,hk_v1,eqT h3,h5,h6,h7]
  refine af (hp_v1 _ _ g8) ?_
  obtain⟨h9,b2⟩|⟨h9,b2⟩:=aO b2
  ·cases b2
   obtain rfl:=(aI gb2).symm
   try dsimp only at h
   cases h
   simp(config:=cS)only[go_sem,hc_v1.1,hc_v1.2,hm_v1,hk_v1,eqT h3,h5,h6,h7,eZt h9]
  cases b2
  simp(config:=cS)only[go_sem,hc_v1.1,hc_v1.2,hm_v1,hk_v1,eqT h3,h5,h6,h7,eZf h9]
  refine cE gb2 ?_
  simp(config:=cS)only[go_sem,hc_v1.1,hc_v1.2,hm_v1,hk_v1,eqT h3,h5,h6,h7,eZf h9]
 cases b2
 obtain rfl:=(aI gb2).symm
 try dsimp only at h
 cases h
 simp(config:=cS)only[go_sem,hc_v1.1,hc_v1.2,hm_v1,hk_v1,eqF h3]
theorem kJ {v0:List (List Int)}{v1:(List Int)→Option Bool}{f_v1:Nat}{k_v1:List AV}(hp_v1:∀ y0 r,v1 y0=some r→aj prog f_v1 ([.sl (ab eI y0)]++k_v1) [] (.lit (.bool r)) [])(hc_v1:KC k_v1)(hm_v1:∀ a,mdT f_v1 a=⟨[],false⟩)(hk_v1:spf f_v1=false){res:Bool}(h:db v0 v1=some res):aj prog 163 [.sl (ab (eLS eI) v0),.fn f_v1 k_v1] [] (.lit (.bool res)) []:=by
 refine co (hi:=hi00) func163 rfl rfl ?_
 unfold db at h
 obtain⟨r01,g1,h⟩:=ae h
 simp(config:=cS)only[go_sem,hc_v1.1,hc_v1.2,hm_v1,hk_v1]
 refine af (mA hp_v1 hc_v1 hm_v1 hk_v1 g1) ?_
 cases h
 simp(config:=cS)only[go_sem,hc_v1.1,hc_v1.2,hm_v1,hk_v1]
instance k164 {y:List Int} {v1:List Int}:Ctr (kT y v1) (fun (res:Bool)=>aj prog 164 [.sl (ab eI y),.loc [.sl (ab eI v1)]] [] (.lit (.bool res)) []):=⟨by
 intro res h0
 refine co (hi:=hi00) func164 rfl rfl ?_
 unfold kT at h0
 exact run⟩
instance k105 {list:List (List Int)} {v1:List Int}:Ctr (jd list v1) (fun (res:Bool)=>aj prog 105 [.sl (ab (eLS eI) list),.sl (ab eI v1)] [] (.lit (.bool res)) []):=⟨by
 intro res h0
 refine co (hi:=hi00) func105 rfl rfl ?_
 unfold jd at h0
 obtain⟨r01,g0,h0⟩:=ae h0
 simp(config:=cS)only[go_sem, *]
 refine af (kJ (by exact fun _ _ hr=>by have q:=ctr hr;exact q) (by refine⟨fun _=>?_,fun _=>?_⟩ <;> simp only[go_sem]) (fun _=>rfl) rfl g0) ?_
 exact run⟩
@[go_sem] def pA (v12:List Int)(v13:Int)(s_0:List ah)(s_1:List GTie)(s_2 v4_0:Int)(v4_1 v4_2:List Int)(out_0:Int)(h705:List Int):(Int × (List Int))→St
 | (v14,h704)=>⟨[(3,.ptr 192 1 0 0),(4,.ptr 256 1 0 0),(6,.ptr 384 1 0 0),(7,.ptr 448 1 0 0),(12,.sl (ab eI v12)),(13,.lit (.int .i64 v13)),(14,.lit (.int .i64 v14))],[(192,1,.var [.sl (ab ah.encS s_0),.sl (ab GTie.enc s_1),.lit (.int .i64 s_2)]),(256,1,.var [.lit (.int .i64 v4_0),.sl (ab eI v4_1),.sl (ab eI v4_2)]),(384,1,.var [.lit (.int .i64 0),.lit (.slice none 0 0),.lit (.slice none 0 0)]),(448,1,.var [.lit (.int .i64 out_0),.ref 704 1 0 h704.length,.ref 705 1 0 h705.length]),(704,1,.row true (ab eI h704)),(705,1,.row true (ab eI h705))],2⟩
@[go_sem] def hi157_5:DT:=.r2 0 12 .nil
def zO:Hint where
 acts:=fun _=>[]
 draws:=fun
  | 5=>⟨hi157_5,[[],[0],[],[2],[],[2,3,4],[2,3,4,5],[2,3,4,5,6],[],[8],.range 10,.range 11],.range 12⟩
  | _=>⟨.nil,[],[]⟩
theorem Fp (i:Nat):zO.acts i=[]:=rfl
attribute[go_sem] Fp ntmps157 results157
@[go_sem] theorem Ib:(zO.draws 5).order=hi157_5:=rfl
instance k157 {s:GShow} {v1:GState} {ties:List Int}:Ctr (ga s v1 ties) (fun (res:GState)=>aj prog 157 [.agg (GShow.encS s),.agg (GState.encS v1),.sl (ab eI ties)] [] (.agg [.lit (.int .i64 res.now),.ref 20000 1 0 res.times.length,.ref 20001 1 0 res.values.length]) [(20000,1,.row true (ab eI res.times)),(20001,1,.row true (ab eI res.values))]):=⟨by
 intro res h0
 refine az (ra:=[.homeCell 384 1,.homeCell 384 2]) (md:=mdT) hT (hi:=zO) func157 rfl rfl (by decide +kernel) (by simp) ?_
 unfold ga at h0
 obtain⟨r01,g0,h0⟩:=ae h0
 simp(config:=cS)only[go_sem, *]
 have g0:=ctr g0
 refine af g0 ?_
 obtain⟨q05,l0,h0⟩:=ae h0
 simp(config:=cS)only[go_sem, *]
 refine ak (m1:=.mk) (m2:=.mk) [.nf [3,4,6,7,12,13,14] [192,256,384,448,704,705]] (pA ties (ties.length:Int) s.nodes s.ties s.horizon v1.now v1.times v1.values r01.now r01.values) l0 ?_ ?_
 ·simp(config:=cS)only[go_sem, *]
 have k0:=h0
 clear h0 l0
 intro _ s0 _ h0 gb0
 obtain⟨v14_1,h704_1⟩:=s0
 unfold mV at h0
 try dsimp only at h0
 exact run⟩
@[go_sem] def oS (s_0:List ah)(s_1:List GTie)(s_2:Int):(Int × (List Int))→St
 | (i,out)=>⟨[(1,.ptr 64 1 0 0),(3,.ref 255 1 0 out.length),(4,.lit (.int .i64 i))],[(64,1,.var [.sl (ab ah.encS s_0),.sl (ab GTie.enc s_1),.lit (.int .i64 s_2)]),(255,1,.row true (ab eI out))],2⟩
instance k226 {s:GShow}:Ctr (kU s) (fun (res:List Int)=>aj prog 226 [.agg (GShow.encS s)] [] (.ref 20000 1 0 res.length) [(20000,1,.row true (ab eI res))]):=⟨by
 intro res h0
 refine az (ra:=[.home 2]) (md:=mdT) hT (hi:=hi00) func226 rfl rfl (by decide +kernel) (by simp) ?_
 unfold kU at h0
 obtain⟨q02,l0,h0⟩:=ae h0
 simp(config:=cS)only[go_sem, *]
 refine ak (m1:=.mk) (m2:=.mk) [.home 3,.nf [1,3,4] [64,255]] (oS s.nodes s.ties s.horizon) l0 ?_ ?_
 ·simp(config:=cS)only[go_sem, *]
 have k0:=h0
 clear h0 l0
 intro _ s0 _ h0 gb0
 obtain⟨i_1,out_1⟩:=s0
 unfold ms at h0
 try dsimp only at h0
 exact run⟩
@[go_sem] def jp (zb0:Bool)(f_v1:Nat)(k_v1:List AV):(Int × Int × (List Int))→St
 | (v5,v6,v0)=>⟨[(0,.ref 10000 0 0 v0.length),(1,.fn f_v1 k_v1),(5,.lit (.int .i64 v5)),(6,.lit (.int .i64 v6))],[(10000,0,.row zb0 (ab eI v0))],2⟩
theorem mB {v0:List Int}{v1:Int→Option Bool}{zb0:Bool}{f_v1:Nat}{k_v1:List AV}(hp_v1:∀ y0 r,v1 y0=some r→aj prog f_v1 ([.lit (.int .i64 y0)]++k_v1) [] (.lit (.bool r)) [])(hc_v1:KC k_v1)(hm_v1:∀ a,mdT f_v1 a=⟨[],false⟩)(hk_v1:spf f_v1=false){res:List Int}(h:dD v0 v1=some res):aj prog 225 [.ref 10000 0 0 v0.length,.fn f_v1 k_v1] [(10000,0,.row zb0 (ab eI v0))] (.ref 10000 0 0 res.length) [(10000,0,.row false (ab eI res))]:=by
 refine az (ra:=[.home 4,.trim 4]) (md:=mdT) hT (hi:=hi00) func225 rfl rfl (by decide +kernel) (by simp) ?_
 unfold dD at h
 obtain⟨r01,g1,h⟩:=ae h
 simp(config:=cS)only[go_sem,hc_v1.1,hc_v1.2,hm_v1,hk_v1]
 refine af (gY hp_v1 hc_v1 hm_v1 hk_v1 g1) ?_
 obtain⟨h2,h⟩|⟨h2,h⟩:=aO h
 ·cases h
  simp(config:=cS)only[go_sem,hc_v1.1,hc_v1.2,hm_v1,hk_v1,eqT h2]
 obtain⟨q05,l3,h⟩:=ae h
 simp(config:=cS)only[go_sem,hc_v1.1,hc_v1.2,hm_v1,hk_v1,eqF h2]
 refine ak (m1:=.mk) (m2:=.mk) [.nf [0,1,5,6] [10000]] (jp zb0 f_v1 k_v1) l3 ?_ ?_
 ·simp(config:=cS)only[go_sem,hc_v1.1,hc_v1.2,hm_v1,hk_v1,eqF h2]
 intro nb4 sb4 bb4 b4 gb4
 obtain⟨v5_1,v6_1,v0_1⟩:=sb4
 unfold eW at b4
 try dsimp only at b4
 obtain⟨h5,b4⟩|⟨h5,b4⟩:=aO b4
 ·obtain⟨x02,g6,b4⟩:=ae b4
  obtain⟨h7,h8,h9⟩:=bC g6
  obtain⟨r03,g10,b4⟩:=ae b4
  simp(config:=cS)only[go_sem,hc_v1.1,hc_v1.2,hm_v1,hk_v1,eqF h2,eqT h5,h7,h8,h9]
  refine af (hp_v1 _ _ g10) ?_
  obtain⟨h11,b4⟩|⟨h11,b4⟩:=aO b4
  ·cases b4
   simp(config:=cS)only[go_sem,hc_v1.1,hc_v1.2,hm_v1,hk_v1,eqF h2,eqT h5,h7,h8,h9,eZt h11]
   refine cE gb4 ?_
   simp(config:=cS)only[go_sem,hc_v1.1,hc_v1.2,hm_v1,hk_v1,eqF h2,eqT h5,h7,h8,h9,eZt h11]
  obtain⟨x04,g12,b4⟩:=ae b4
  obtain⟨h13,h14,h15⟩:=bC g12
  cases b4
  simp(config:=cS)only[go_sem,hc_v1.1,hc_v1.2,hm_v1,hk_v1,eqF h2,eqT h5,h7,h8,h9,eZf h11,h13,h14,h15]
  refine cE gb4 ?_
  simp(config:=cS)only[go_sem,hc_v1.1,hc_v1.2,hm_v1,hk_v1,eqF h2,eqT h5,h7,h8,h9,eZf h11,h13,h14,h15]
 cases b4
 obtain rfl:=(aI gb4).symm
 try dsimp only at h
 obtain⟨h17,h⟩:=du h
 obtain⟨h18,h⟩:=du h
 obtain⟨h19,h⟩:=du h
 cases h
 simp(config:=cS)only[go_sem,hc_v1.1,hc_v1.2,hm_v1,hk_v1,eqF h2,eqF h5,eqT h17,eqT h18,eqT h19]
instance k286 {l:Int} {v:List Int}:Ctr (mt l v) (fun (res:Int)=>aj prog 286 [.lit (.int .i64 l),.sl (ab eI v)] [] (.lit (.int .i64 res)) []):=⟨by
 intro res h0
 refine co (hi:=hi00) func286 rfl rfl ?_
 unfold mt at h0
 exact run⟩
@[go_sem] def mC (v v16:List Int)(v17:Int):(Int × Int)→St
 | (out,v18)=>⟨[(1,.sl (ab eI v)),(5,.lit (.int .i64 out)),(16,.sl (ab eI v16)),(17,.lit (.int .i64 v17)),(18,.lit (.int .i64 v18))],[],2⟩
instance k262 {l:List Int} {v:List Int}:Ctr (gO l v) (fun (res:Int)=>aj prog 262 [.sl (ab eI l),.sl (ab eI v)] [] (.lit (.int .i64 res)) []):=⟨by
 intro res h0
 refine co (hi:=hi00) func262 rfl rfl ?_
 unfold gO at h0
 obtain⟨r01,g0,h0⟩:=ae h0
 simp(config:=cS)only[go_sem, *]
 have g0:=ctr g0
 refine af g0 ?_
 obtain⟨_,h0⟩|⟨_,h0⟩:=itB h0
 ·obtain⟨r02,g0,h0⟩:=ae h0
  simp(config:=cS)only[go_sem, *]
  have g0:=ctr g0
  refine af g0 ?_
  obtain⟨_,h0⟩|⟨_,h0⟩:=itB h0
  ·obtain⟨q05,l0,h0⟩:=ae h0
   simp(config:=cS)only[go_sem, *]
   refine ak (m1:=.mk) (m2:=.mk) [.nf [1,5,16,17,18] []] (mC v l (l.length:Int)) l0 ?_ ?_
   ·simp(config:=cS)only[go_sem, *]
   have k0:=h0
   clear h0 l0
   intro _ s0 _ h0 gb0
   obtain⟨out_1,v18_1⟩:=s0
   unfold je at h0
   try dsimp only at h0
   exact run
  exact run
 exact run⟩
@[go_sem] def hi222_1:DT:=.r2 0 10 .nil
def zP:Hint where
 acts:=fun _=>[]
 draws:=fun
  | 1=>⟨hi222_1,[[],[0],[],[0,1,2],[0,1,2,3],.range 5,[],[6],.range 8,.range 9],.range 10⟩
  | _=>⟨.nil,[],[]⟩
theorem Fq (i:Nat):zP.acts i=[]:=rfl
attribute[go_sem] Fq ntmps222 results222
@[go_sem] theorem Ic:(zP.draws 1).order=hi222_1:=rfl
instance k222 {s:GShow} {v1:GState} {node:Int}:Ctr (cJ s v1 node) (fun (res:Int)=>aj prog 222 [.agg (GShow.encS s),.agg (GState.encS v1),.lit (.int .i64 node)] [] (.lit (.int .i64 res)) []):=⟨by
 intro res h0
 refine co (hi:=zP) func222 rfl rfl ?_
 unfold cJ at h0
 exact run⟩
instance k227 {i:Int} {v1:GState} {s:GShow}:Ctr (gP i v1 s) (fun (res:Bool)=>aj prog 227 [.lit (.int .i64 i),.loc [.lit (.int .i64 v1.now),.sl (ab eI v1.times),.sl (ab eI v1.values)],.loc [.sl (ab ah.encS s.nodes),.sl (ab GTie.enc s.ties),.lit (.int .i64 s.horizon)]] [] (.lit (.bool res)) []):=⟨by
 intro res h0
 refine co (hi:=hi00) func227 rfl rfl ?_
 unfold gP at h0
 exact run⟩
instance k166 {s:GShow} {v1:GState}:Ctr (jT s v1) (fun (res:List Int)=>aj prog 166 [.agg (GShow.encS s),.agg (GState.encS v1)] [] (.ref 20000 1 0 res.length) [(20000,1,.row false (ab eI res))]):=⟨by
 intro res h0
 refine az (ra:=[.home 4,.trim 4]) (md:=mdT) hT (hi:=hi00) func166 rfl rfl (by decide +kernel) (by simp) ?_
 unfold jT at h0
 obtain⟨r01,g0,h0⟩:=ae h0
 simp(config:=cS)only[go_sem, *]
 have g0:=ctr g0
 refine af g0 ?_
 obtain⟨r02,g0,h0⟩:=ae h0
 simp(config:=cS)only[go_sem, *]
 refine af (mB (by exact fun _ _ hr=>by have q:=ctr hr;exact q) (by refine⟨fun _=>?_,fun _=>?_⟩ <;> simp only[go_sem]) (fun _=>rfl) rfl g0) ?_
 exact run⟩
@[go_sem] def nh (nodes:List Int):(Int × (List (List Int)))→St
 | (set,out)=>⟨[(5,.ref 640 1 0 nodes.length),(6,.ref 447 1 0 out.length),(7,.lit (.int .i64 set))],[(640,1,.row false (ab eI nodes)),(447,1,.row true (ab (eLO eI) out))],2⟩
instance k106 {s:GShow} {v1:GState}:Ctr (dw s v1) (fun (res:List (List Int))=>aj prog 106 [.agg (GShow.encS s),.agg (GState.encS v1)] [] (.ref 20000 1 0 res.length) [(20000,1,.row true (ab (eLO eI) res))]):=⟨by
 intro res h0
 refine az (ra:=[.home 4]) (md:=mdT) hT (hi:=hi00) func106 rfl rfl (by decide +kernel) (by simp) ?_
 unfold dw at h0
 obtain⟨r01,g0,h0⟩:=ae h0
 simp(config:=cS)only[go_sem, *]
 have g0:=ctr g0
 refine af g0 ?_
 obtain⟨_,h0⟩:=ckN h0
 obtain⟨q03,l0,h0⟩:=ae h0
 simp(config:=cS)only[go_sem, *]
 refine ak (m1:=.mk) (m2:=.mk) [.home 6,.nf [5,6,7] [640,447]] (nh r01) l0 ?_ ?_
 ·simp(config:=cS)only[go_sem, *]
 have k0:=h0
 clear h0 l0
 intro _ s0 _ h0 gb0
 obtain⟨set_1,out_1⟩:=s0
 unfold jw at h0
 try dsimp only at h0
 exact run⟩
@[go_sem] def og (v14:List Int)(v15:Int)(s_0:List ah)(s_1:List GTie)(s_2 v4_0:Int)(v4_1 v4_2:List Int)(out_0:Int)(h833:List Int):(Int × (List Int) × (List Int))→St
 | (v16,props,h832)=>⟨[(3,.ptr 192 1 0 0),(4,.ptr 256 1 0 0),(6,.ptr 384 1 0 0),(8,.ptr 512 1 0 0),(9,.ref 639 1 0 props.length),(14,.sl (ab eI v14)),(15,.lit (.int .i64 v15)),(16,.lit (.int .i64 v16))],[(192,1,.var [.sl (ab ah.encS s_0),.sl (ab GTie.enc s_1),.lit (.int .i64 s_2)]),(256,1,.var [.lit (.int .i64 v4_0),.sl (ab eI v4_1),.sl (ab eI v4_2)]),(384,1,.var [.lit (.int .i64 0),.lit (.slice none 0 0),.lit (.slice none 0 0)]),(512,1,.var [.lit (.int .i64 out_0),.ref 832 1 0 h832.length,.ref 833 1 0 h833.length]),(832,1,.row true (ab eI h832)),(833,1,.row true (ab eI h833)),(639,1,.row true (ab eI props))],2⟩
instance k159 {s:GShow} {v1:GState} {nodes:List Int}:Ctr (eo s v1 nodes) (fun (res:GState × (List Int))=>aj prog 159 [.agg (GShow.encS s),.agg (GState.encS v1),.sl (ab eI nodes)] [] (.tup [.agg [.lit (.int .i64 res.1.now),.ref 20000 1 0 res.1.times.length,.ref 20001 1 0 res.1.values.length],.ref 20002 1 0 res.2.length]) [(20000,1,.row true (ab eI res.1.times)),(20001,1,.row true (ab eI res.1.values)),(20002,1,.row true (ab eI res.2))]):=⟨by
 intro res h0
 refine az (ra:=[.homeCell 384 1,.homeCell 384 2,.home 7]) (md:=mdT) hT (hi:=hi00) func159 rfl rfl (by decide +kernel) (by simp) ?_
 unfold eo at h0
 obtain⟨r01,g0,h0⟩:=ae h0
 simp(config:=cS)only[go_sem, *]
 have g0:=ctr g0
 refine af g0 ?_
 obtain⟨q06,l0,h0⟩:=ae h0
 simp(config:=cS)only[go_sem, *]
 refine ak (m1:=.mk) (m2:=.mk) [.home 9,.nf [3,4,6,8,9,14,15,16] [192,256,384,512,832,833,639]] (og nodes (nodes.length:Int) s.nodes s.ties s.horizon v1.now v1.times v1.values r01.now r01.values) l0 ?_ ?_
 ·simp(config:=cS)only[go_sem, *]
 have k0:=h0
 clear h0 l0
 intro _ s0 _ h0 gb0
 obtain⟨v16_1,props_1,h832_1⟩:=s0
 unfold ll at h0
 try dsimp only at h0
 obtain⟨_,h0⟩|⟨_,h0⟩:=itP h0
 ·exact run
 cases h0
 obtain rfl:=(aI gb0).symm
 clear gb0
 have h0:=k0
 clear k0
 try dsimp only at h0
 obtain⟨r05,g0,h0⟩:=ae h0
 simp(config:=cS)only[go_sem, *]
 refine af (dZ g0) ?_
 exact run⟩
@[go_sem] def nH (values v12:List Int)(v13 out_0:Int)(h704:List Int):(Int × (List Int))→St
 | (v14,h705)=>⟨[(2,.sl (ab eI values)),(6,.ptr 384 1 0 0),(7,.ptr 448 1 0 0),(12,.sl (ab eI v12)),(13,.lit (.int .i64 v13)),(14,.lit (.int .i64 v14))],[(384,1,.var [.lit (.int .i64 0),.lit (.slice none 0 0),.lit (.slice none 0 0)]),(448,1,.var [.lit (.int .i64 out_0),.ref 704 1 0 h704.length,.ref 705 1 0 h705.length]),(704,1,.row true (ab eI h704)),(705,1,.row true (ab eI h705))],2⟩
@[go_sem] def hi160_5:DT:=.r2 0 10 .nil
def zQ:Hint where
 acts:=fun _=>[]
 draws:=fun
  | 5=>⟨hi160_5,[[],[0],[],[2],[],[],[4,5],[4,5,6],.range 8,.range 9],.range 10⟩
  | _=>⟨.nil,[],[]⟩
theorem Fs (i:Nat):zQ.acts i=[]:=rfl
attribute[go_sem] Fs ntmps160 results160
@[go_sem] theorem Ie:(zQ.draws 5).order=hi160_5:=rfl
instance k160 {v0:GState} {props:List Int} {values:List Int}:Ctr (dM v0 props values) (fun (res:GState)=>aj prog 160 [.agg (GState.encS v0),.sl (ab eI props),.sl (ab eI values)] [] (.agg [.lit (.int .i64 res.now),.ref 20000 1 0 res.times.length,.ref 20001 1 0 res.values.length]) [(20000,1,.row true (ab eI res.times)),(20001,1,.row true (ab eI res.values))]):=⟨by
 intro res h0
 refine az (ra:=[.homeCell 384 1,.homeCell 384 2]) (md:=mdT) hT (hi:=zQ) func160 rfl rfl (by decide +kernel) (by simp) ?_
 unfold dM at h0
 obtain⟨r01,g0,h0⟩:=ae h0
 simp(config:=cS)only[go_sem, *]
 have g0:=ctr g0
 refine af g0 ?_
 obtain⟨q05,l0,h0⟩:=ae h0
 simp(config:=cS)only[go_sem, *]
 refine ak (m1:=.mk) (m2:=.mk) [.nf [2,6,7,12,13,14] [384,448,704,705]] (nH values props (props.length:Int) r01.now r01.times) l0 ?_ ?_
 ·simp(config:=cS)only[go_sem, *]
 have k0:=h0
 clear h0 l0
 intro _ s0 _ h0 gb0
 obtain⟨v14_1,h705_1⟩:=s0
 unfold ky at h0
 try dsimp only at h0
 exact run⟩
@[go_sem] def pB (v58:List Int)(v59 next_0:Int)(h3456 h3457 props:List Int):(Int × (List Int) × (List Int))→St
 | (v60,seen,values)=>⟨[(6,.ptr 384 1 0 0),(9,.ptr 576 1 0 0),(10,.ref 3458 1 0 props.length),(11,.ref 767 1 0 seen.length),(12,.ref 831 1 0 values.length),(58,.sl (ab eI v58)),(59,.lit (.int .i64 v59)),(60,.lit (.int .i64 v60))],[(384,1,.var [.lit (.int .i64 0),.lit (.slice none 0 0),.lit (.slice none 0 0)]),(576,1,.var [.lit (.int .i64 next_0),.ref 3456 1 0 h3456.length,.ref 3457 1 0 h3457.length]),(3456,1,.row true (ab eI h3456)),(3457,1,.row true (ab eI h3457)),(3458,1,.row true (ab eI props)),(767,1,.row true (ab eI seen)),(831,1,.row true (ab eI values))],2⟩
@[go_sem] def hi247_4:DT:=.i2 0 (.i2 1 (.i1 3 (.i1 4 (.i0 2 [3,4] (.i2 5 (.i2 6 .nil))))))
@[go_sem] def hi247_1:DT:=.r2 0 8 (.i1 9 (.i1 10 (.i0 8 [9,10] (.r2 11 9 .nil))))
def xu:Hint where
 acts:=fun _=>[]
 draws:=fun
  | 1=>⟨hi247_1,[[],[0],[],[2],[0,1,2,3],.range 5,.range 6,.range 6,.range 8,.range 6,[0,1,2,3,4,5,9],.range 11,.range 12,.range 13,.range 14,.range 15,.range 16,.range 17,.range 18,.range 19],.range 20⟩
  | 4=>⟨hi247_4,[[],[],[0,1],[],[3],.range 5,.range 6],.range 7⟩
  | _=>⟨.nil,[],[]⟩
theorem Ft (i:Nat):xu.acts i=[]:=rfl
attribute[go_sem] Ft ntmps247 results247
@[go_sem] theorem If:(xu.draws 1).order=hi247_1:=rfl
@[go_sem] theorem Ig:(xu.draws 4).order=hi247_4:=rfl
instance k247 {s:GShow} {v1:GState} {e:al}:Ctr (mu s v1 e) (fun (res:GState × Bool)=>aj prog 247 [.agg (GShow.encS s),.agg (GState.encS v1),.agg (al.encS e)] [] (.tup [.agg [.lit (.int .i64 res.1.now),.ref 20000 1 0 res.1.times.length,.ref 20001 1 0 res.1.values.length],.lit (.bool res.2)]) [(20000,1,.row true (ab eI res.1.times)),(20001,1,.row true (ab eI res.1.values))]):=⟨by
 intro res h0
 refine az (ra:=[.homeCell 384 1,.homeCell 384 2]) (md:=mdT) hT (hi:=xu) func247 rfl rfl (by decide +kernel) (by simp) ?_
 unfold mu at h0
 obtain⟨_,h0⟩|⟨_,h0⟩:=itP h0
 ·obtain⟨r01,g0,h0⟩:=ae h0
  simp(config:=cS)only[go_sem, *]
  have g0:=ctr g0
  refine af g0 ?_
  obtain⟨r02,g0,h0⟩:=ae h0
  simp(config:=cS)only[go_sem, *]
  have g0:=ctr g0
  refine af g0 ?_
  obtain⟨_,h0⟩|⟨_,h0⟩:=itB h0
  ·obtain⟨r03,g0,h0⟩:=ae h0
   simp(config:=cS)only[go_sem, *]
   have g0:=ctr g0
   refine af g0 ?_
   obtain⟨_,h0⟩|⟨_,h0⟩:=itB h0
   ·obtain⟨r04,g0,h0⟩:=ae h0
    simp(config:=cS)only[go_sem, *]
    have g0:=ctr g0
    refine af g0 ?_
    obtain⟨r05,g0,h0⟩:=ae h0
    simp(config:=cS)only[go_sem, *]
    have g0:=ctr g0
    refine af g0 ?_
    obtain⟨r06,g0,h0⟩:=ae h0
    simp(config:=cS)only[go_sem, *]
    have g0:=ctr g0
    refine af g0 ?_
    obtain⟨_,h0⟩|⟨_,h0⟩:=itB h0
    ·obtain⟨r07,g0,h0⟩:=ae h0
     simp(config:=cS)only[go_sem, *]
     have g0:=ctr g0
     refine af g0 ?_
     obtain⟨q13,l0,h0⟩:=ae h0
     simp(config:=cS)only[go_sem, *]
     refine ak (m1:=.mk) (m2:=.mk) [.home 11,.home 12,.nf [6,9,10,11,12,58,59,60] [384,576,3456,3457,3458,767,831]] (pB e.values (e.values.length:Int) r07.1.now r07.1.times r07.1.values r07.2) l0 ?_ ?_
     ·simp(config:=cS)only[go_sem, *]
     have k0:=h0
     clear h0 l0
     intro _ s0 _ h0 gb0
     obtain⟨v60_1,seen_1,values_1⟩:=s0
     unfold mW at h0
     try dsimp only at h0
     exact run
    exact run
   exact run
  exact run
 exact run⟩
@[go_sem] def ni (v17:List al)(v18:Int)(s_0:List ah)(s_1:List GTie)(s_2:Int):(Int × Int × (List Int) × (List Int))→St
 | (v19,v6_0,h1024,h1025)=>⟨[(2,.ptr 128 1 0 0),(4,.ptr 256 1 0 0),(6,.ptr 384 1 0 0),(17,.sl (ab al.encS v17)),(18,.lit (.int .i64 v18)),(19,.lit (.int .i64 v19))],[(128,1,.var [.sl (ab ah.encS s_0),.sl (ab GTie.enc s_1),.lit (.int .i64 s_2)]),(256,1,.var [.lit (.int .i64 0),.lit (.slice none 0 0),.lit (.slice none 0 0)]),(384,1,.var [.lit (.int .i64 v6_0),.ref 1024 1 0 h1024.length,.ref 1025 1 0 h1025.length]),(1024,1,.row true (ab eI h1024)),(1025,1,.row true (ab eI h1025))],2⟩
instance k184 {s:GShow} {log:List al}:Ctr (iq s log) (fun (res:GState × Bool)=>aj prog 184 [.agg (GShow.encS s),.sl (ab al.encS log)] [] (.tup [.agg [.lit (.int .i64 res.1.now),.ref 20000 1 0 res.1.times.length,.ref 20001 1 0 res.1.values.length],.lit (.bool res.2)]) [(20000,1,.row true (ab eI res.1.times)),(20001,1,.row true (ab eI res.1.values))]):=⟨by
 intro res h0
 refine az (ra:=[.homeCell 256 1,.homeCell 256 2]) (md:=mdT) hT (hi:=hi00) func184 rfl rfl (by decide +kernel) (by simp) ?_
 unfold iq at h0
 obtain⟨r01,g0,h0⟩:=ae h0
 simp(config:=cS)only[go_sem, *]
 have g0:=ctr g0
 refine af g0 ?_
 obtain⟨_,h0⟩|⟨_,h0⟩:=itB h0
 ·obtain⟨r02,g0,h0⟩:=ae h0
  simp(config:=cS)only[go_sem, *]
  have g0:=ctr g0
  refine af g0 ?_
  obtain⟨q05,l0,h0⟩:=ae h0
  simp(config:=cS)only[go_sem, *]
  refine ak (m1:=.mk) (m2:=.mk) [.nfp [2,4,6,17,18,19] [(128,128),(256,256),(384,384),(1728,1024),(1024,1024),(1729,1025),(1025,1025)] []] (ni log (log.length:Int) s.nodes s.ties s.horizon) l0 ?_ ?_
  ·simp(config:=cS)only[go_sem, *]
  have k0:=h0
  clear h0 l0
  intro _ s0 _ h0 gb0
  obtain⟨v19_1,v6_0_1,h1024_1,h1025_1⟩:=s0
  unfold jx at h0
  try dsimp only at h0
  exact run
 exact run⟩
instance k218 {a:GState} {b:GState}:Ctr (gQ a b) (fun (res:Bool)=>aj prog 218 [.agg (GState.encS a),.agg (GState.encS b)] [] (.lit (.bool res)) []):=⟨by
 intro res h0
 refine co (hi:=hi00) func218 rfl rfl ?_
 unfold gQ at h0
 exact run⟩
instance k152 {d:GDesk}:Ctr (kV d) (fun (res:Bool)=>aj prog 152 [.agg (GDesk.encS d)] [] (.lit (.bool res)) []):=⟨by
 intro res h0
 refine co (hi:=hi00) func152 rfl rfl ?_
 unfold kV at h0
 exact run⟩
instance k153 {v:Int}:Ctr (fi v) (fun (res:Bool)=>aj prog 153 [.lit (.int .i64 v)] [] (.lit (.bool res)) []):=⟨by
 intro res h0
 refine co (hi:=hi00) func153 rfl rfl ?_
 unfold fi at h0
 exact run⟩
@[go_sem] def hi221_1:DT:=.r2 0 14 .nil
def zR:Hint where
 acts:=fun _=>[]
 draws:=fun
  | 1=>⟨hi221_1,[[],[0],[],[2],[0,1,2,3],.range 5,[],[6],[],[8],[6,7,8,9],[6,7,8,9,10],.range 6,.range 13],[0,1,2,3,4,5,7,8,9,10,11,12,6,13]⟩
  | _=>⟨.nil,[],[]⟩
theorem Fu (i:Nat):zR.acts i=[]:=rfl
attribute[go_sem] Fu ntmps221 results221
@[go_sem] theorem Ih:(zR.draws 1).order=hi221_1:=rfl
instance k221 {s:GShow} {v1:GState} {t:GTie}:Ctr (gb s v1 t) (fun (res:Bool)=>aj prog 221 [.agg (GShow.encS s),.agg (GState.encS v1),.agg (GTie.enc t)] [] (.lit (.bool res)) []):=⟨by
 intro res h0
 refine co (hi:=zR) func221 rfl rfl ?_
 unfold gb at h0
 exact run⟩
instance k220 {t:GTie} {s:GShow} {v2:GState}:Ctr (gd t s v2) (fun (res:Bool)=>aj prog 220 [.agg (GTie.enc t),.loc [.sl (ab ah.encS s.nodes),.sl (ab GTie.enc s.ties),.lit (.int .i64 s.horizon)],.loc [.lit (.int .i64 v2.now),.sl (ab eI v2.times),.sl (ab eI v2.values)]] [] (.lit (.bool res)) []):=⟨by
 intro res h0
 refine co (hi:=hi00) func220 rfl rfl ?_
 unfold gd at h0
 exact run⟩
@[go_sem] def oh (v8:List Int)(v9:Int)(s_0:List ah)(s_1:List GTie)(s_2 v3_0:Int)(v3_2:List Int)(v10:Int):St:=⟨[(2,.ptr 128 1 0 0),(3,.ptr 192 1 0 0),(8,.sl (ab eI v8)),(9,.lit (.int .i64 v9)),(10,.lit (.int .i64 v10))],[(128,1,.var [.sl (ab ah.encS s_0),.sl (ab GTie.enc s_1),.lit (.int .i64 s_2)]),(192,1,.var [.lit (.int .i64 v3_0),.sl (ab eI v8),.sl (ab eI v3_2)])],2⟩
instance k155 {s:GShow} {v1:GState}:Ctr (ep s v1) (fun (res:Bool)=>aj prog 155 [.agg (GShow.encS s),.agg (GState.encS v1)] [] (.lit (.bool res)) []):=⟨by
 intro res h0
 refine co (hi:=hi00) func155 rfl rfl ?_
 unfold ep at h0
 obtain⟨q03,l0,h0⟩:=ae h0
 simp(config:=cS)only[go_sem, *]
 refine ak (m1:=.mk) (m2:=.mk) [.nf [2,3,8,9,10] [128,192]] (oh v1.times (v1.times.length:Int) s.nodes s.ties s.horizon v1.now v1.values) l0 ?_ ?_
 ·simp(config:=cS)only[go_sem, *]
 have k0:=h0
 clear h0 l0
 intro _ v10_1 _ h0 gb0
 unfold lm at h0
 try dsimp only at h0
 exact run⟩
instance k154 {s:GShow} {v1:GState}:Ctr (fJ s v1) (fun (res:Bool)=>aj prog 154 [.agg (GShow.encS s),.agg (GState.encS v1)] [] (.lit (.bool res)) []):=⟨by
 intro res h0
 refine co (hi:=hi00) func154 rfl rfl ?_
 unfold fJ at h0
 obtain⟨r01,g0,h0⟩:=ae h0
 simp(config:=cS)only[go_sem, *]
 refine af (fy (by exact fun _ _ hr=>by have q:=ctr hr;exact q) (by refine⟨fun _=>?_,fun _=>?_⟩ <;> simp only[go_sem]) (fun _=>rfl) rfl g0) ?_
 exact run⟩
instance k158 {s:GShow}:Ctr (jU s) (fun (res:GShow × (List (ByteArray × Bool)))=>aj prog 158 [.agg (GShow.encS s)] [] (.ptr 20000 1 0 0) [(20000,1,.var [.sl (ab ah.encS res.1.nodes),.sl (ab GTie.enc res.1.ties),.lit (.int .i64 res.1.horizon),.mp 20001 1]),(20001,1,.map (eM res.2))]):=⟨by
 intro res h0
 refine co (hi:=hi00) func158 rfl rfl ?_
 unfold jU at h0
 exact run⟩
@[go_sem] def sr (v13:List Int)(v14 v1_0:Int)(v1_2:List Int):(Int × (List Int))→St
 | (v15,out)=>⟨[(1,.ptr 64 1 0 0),(3,.ref 704 1 0 out.length),(13,.sl (ab eI v13)),(14,.lit (.int .i64 v14)),(15,.lit (.int .i64 v15))],[(64,1,.var [.lit (.int .i64 v1_0),.sl (ab eI v13),.sl (ab eI v1_2)]),(704,1,.row true (ab (eK .u8) out))],2⟩
@[go_sem] def su (v27:List Int)(v28:Int):(Int × (List Int))→St
 | (v29,out)=>⟨[(3,.ref 704 1 0 out.length),(27,.sl (ab eI v27)),(28,.lit (.int .i64 v28)),(29,.lit (.int .i64 v29))],[(704,1,.row true (ab (eK .u8) out))],2⟩
instance k228 {v0:GState}:Ctr (oA v0) (fun (res:ByteArray)=>aj prog 228 [.agg (GState.encS v0)] [] (.lit (.string res)) []):=⟨by
 intro res h0
 refine co (hi:=hi00) func228 rfl rfl ?_
 unfold oA at h0
 obtain⟨q04,l0,h0⟩:=ae h0
 simp(config:=cS)only[go_sem, *]
 refine ak (m1:=.mk) (m2:=.mk) [.nf [1,3,13,14,15] [64,704]] (sr v0.times (v0.times.length:Int) v0.now v0.values) l0 ?_ ?_
 ·simp(config:=cS)only[go_sem, *]
 have k0:=h0
 clear h0 l0
 intro _ s0 _ h0 gb0
 obtain⟨v15_1,out_1⟩:=s0
 unfold oK at h0
 try dsimp only at h0
 obtain⟨_,h0⟩|⟨_,h0⟩:=itP h0
 ·exact run
 cases h0
 obtain rfl:=(aI gb0).symm
 clear gb0
 have h0:=k0
 clear k0
 try dsimp only at h0
 obtain⟨q03,l0,h0⟩:=ae h0
 simp(config:=cS)only[go_sem, *]
 refine ak (m1:=.mk) (m2:=.mk) [.nf [3,27,28,29] [704]] (su v0.values (v0.values.length:Int)) l0 ?_ ?_
 ·simp(config:=cS)only[go_sem, *]
 have k0:=h0
 clear h0 l0
 intro _ s0 _ h0 gb0
 obtain⟨v29_2,out_2⟩:=s0
 unfold oL at h0
 try dsimp only at h0
 exact run⟩
@[go_sem] def kq (props:List Int)(v10 v11:Int):St:=⟨[(0,.sl (ab eI props)),(9,.sl (ab eI props)),(10,.lit (.int .i64 v10)),(11,.lit (.int .i64 v11))],[],2⟩
@[go_sem] def kr (props:List Int)(n v44:Int)(out:List (List Int)):(Int × (List Int))→St
 | (v45,values)=>⟨[(0,.sl (ab eI props)),(5,.ref 383 1 0 out.length),(6,.lit (.int .i64 n)),(7,.ref 511 1 0 values.length),(44,.lit (.int .i64 v44)),(45,.lit (.int .i64 v45))],[(383,1,.row true (ab (eLO eI) out)),(511,1,.row true (ab eI values))],2⟩
@[go_sem] def ku (props:List Int):(Int × (List (List Int)))→St
 | (n,out)=>⟨[(0,.sl (ab eI props)),(5,.ref 383 1 0 out.length),(6,.lit (.int .i64 n))],[(383,1,.row true (ab (eLO eI) out))],2⟩
instance k168 {props:List Int}:Ctr (er props) (fun (res:List (List Int))=>aj prog 168 [.sl (ab eI props)] [] (.sl (ab (eLS eI) res)) []):=⟨by
 intro res h0
 refine az (ra:=[.freeze [383],.sliT 2,.nilSl 2]) (md:=mdT) hT (hi:=hi00) func168 rfl rfl (by decide +kernel) (by simp) ?_
 unfold er at h0
 obtain⟨q05,l0,h0⟩:=ae h0
 simp(config:=cS)only[go_sem, *]
 refine ak (m1:=.mk) (m2:=.mk) [.nf [0,9,10,11] []] (kq props (props.length:Int)) l0 ?_ ?_
 ·simp(config:=cS)only[go_sem, *]
 have k0:=h0
 clear h0 l0
 intro _ v11_1 _ h0 gb0
 unfold gf at h0
 try dsimp only at h0
 obtain⟨_,h0⟩|⟨_,h0⟩:=itP h0
 ·exact run
 cases h0
 obtain rfl:=(aI gb0).symm
 clear gb0
 have h0:=k0
 clear k0
 try dsimp only at h0
 obtain⟨q04,l0,h0⟩:=ae h0
 simp(config:=cS)only[go_sem, *]
 refine ak (m1:=.mk) (m2:=.mk) [.home 5,.nf [0,5,6] [383]] (ku props) l0 ?_ ?_
 ·simp(config:=cS)only[go_sem, *]
 have k0:=h0
 clear h0 l0
 intro _ s0 _ h0 gb0
 obtain⟨n_2,out_2⟩:=s0
 unfold gh at h0
 try dsimp only at h0
 obtain⟨_,h0⟩:=ckN h0
 obtain⟨_,h0⟩|⟨_,h0⟩:=itP h0
 ·obtain⟨q03,l0,h0⟩:=ae h0
  simp(config:=cS)only[go_sem, *]
  refine ak (m1:=.mk) (m2:=.mk) [.home 7,.nf [0,5,6,7,44,45] [383,511]] (kr props n_2 (props.length:Int) out_2) l0 ?_ ?_
  ·simp(config:=cS)only[go_sem, *]
  have k0:=h0
  clear h0 l0
  intro _ s0 _ h0 gb0
  obtain⟨v45_3,values_3⟩:=s0
  unfold gg at h0
  try dsimp only at h0
  exact run
 exact run⟩
end Go.Proofs.Qq
