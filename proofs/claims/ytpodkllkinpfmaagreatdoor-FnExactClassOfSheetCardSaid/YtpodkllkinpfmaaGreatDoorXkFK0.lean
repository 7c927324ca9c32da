/- Functions. -/
import Derived.Test.YtpodkllkinpfmaaGreatDoorXkX
import Derived.Test.YtpodkllkinpfmaaGreatDoorXk37
set_option linter.all false
set_option maxRecDepth 100000
set_option maxHeartbeats 4000000
namespace Go.Proofs.Qk
open Go Tryz
theorem co {hi:Hint}{f:FuncId}{fn:Func}{c:Code}{args:List AV}{h0 h':Hp}{r:AV}(hf:Tryz.prog.funcs[f]?=some fn)(hn:(fn.name == "runtime.NumGoroutine")=false) (hb:fn.body=some c) (h:cq prog mdT T fn.ntmps hi c ⟨qk 0 args,h0,1⟩ (retK T [] fn.results.toList (h0.map (·.1)) (fun r1 h1=>r1=r∧h1=h'))) (hc:lE hi c=true:=by decide +kernel) (hlen:args.length≤fn.ntmps:=by simp):ak prog f args h0 r h':=aB (ra:=[]) (md:=mdT) hT hf hn hb hc hlen h
attribute[go_sem] ntmps240 results240 ntmps151 results151 ntmps59 results59 ntmps53 results53 ntmps243 results243 ntmps153 results153 ntmps67 results67 ntmps55 results55 ntmps164 results164 ntmps331 results331 ntmps303 results303 ntmps304 results304 ntmps241 results241 ntmps305 results305 ntmps306 results306 ntmps307 results307 ntmps160 results160 ntmps332 results332 ntmps294 results294 ntmps295 results295 ntmps159 results159 ntmps296 results296 ntmps297 results297 ntmps298 results298 ntmps236 results236 ntmps144 results144 ntmps358 results358 ntmps357 results357 ntmps371 results371 ntmps359 results359 ntmps167 results167 ntmps161 results161 ntmps333 results333 ntmps247 results247 ntmps163 results163 ntmps245 results245 ntmps61 results61 ntmps248 results248 ntmps249 results249 ntmps250 results250 ntmps251 results251 ntmps63 results63 ntmps334 results334 ntmps299 results299 ntmps237 results237 ntmps301 results301 ntmps157 results157 ntmps335 results335 ntmps336 results336 ntmps361 results361 ntmps362 results362 ntmps342 results342 ntmps363 results363 ntmps372 results372 ntmps373 results373 ntmps201 results201 ntmps158 results158 ntmps343 results343 ntmps302 results302 ntmps239 results239 ntmps149 results149 ntmps54 results54 ntmps126 results126 ntmps122 results122 ntmps221 results221 ntmps222 results222 ntmps123 results123 ntmps223 results223 ntmps124 results124 ntmps125 results125 ntmps44 results44 ntmps118 results118 ntmps119 results119 ntmps120 results120 ntmps107 results107 ntmps215 results215 ntmps214 results214
instance k240 {a:GCue} {left:Int}:Ctr (qm a left) (fun (res:Int)=>ak prog 240 [.agg (GCue.enc a),.lit (.int .i64 left)] [] (.lit (.int .i64 res)) []):=⟨by
 intro res h0
 refine co (hi:=hi00) func240 rfl rfl ?_
 unfold qm at h0
 exact run⟩
@[go_sem] def xD (a:List GCue):(Int × Int)→St
 | (left,i)=>⟨[(0,.sl (ab GCue.enc a)),(1,.lit (.int .i64 left)),(5,.lit (.int .i64 i))],[],2⟩
instance k151 {a:List GCue} {left:Int}:Ctr (nF a left) (fun (res:Int)=>ak prog 151 [.sl (ab GCue.enc a),.lit (.int .i64 left)] [] (.lit (.int .i64 res)) []):=⟨by
 intro res h0
 refine co (hi:=hi00) func151 rfl rfl ?_
 unfold nF at h0
 obtain⟨_,h0⟩|⟨_,h0⟩:=itP h0
 ·exact run
 obtain⟨q03,l0,h0⟩:=af h0
 simp(config:=cS)only[go_sem, *]
 refine ah (m1:=.mk) (m2:=.mk) [.nf [0,1,5] []] (xD a) l0 ?_ ?_
 ·simp(config:=cS)only[go_sem, *]
 have k0:=h0
 clear h0 l0
 intro _ s0 _ h0 gb0
 obtain⟨left_1,i_1⟩:=s0
 unfold kJ at h0
 try dsimp only at h0
 exact run⟩
instance k59 {a:List Int} {left:Int}:Ctr (nG a left) (fun (res:Int)=>ak prog 59 [.sl (ab eI a),.lit (.int .i64 left)] [] (.lit (.int .i64 res)) []):=⟨by
 intro res h0
 refine co (hi:=hi00) func59 rfl rfl ?_
 unfold nG at h0
 exact run⟩
instance k53 {a:GSheet} {left:Int}:Ctr (mE a left) (fun (res:Int)=>ak prog 53 [.agg (GSheet.encS a),.lit (.int .i64 left)] [] (.lit (.int .i64 res)) []):=⟨by
 intro res h0
 refine co (hi:=hi00) func53 rfl rfl ?_
 unfold mE at h0
 exact run⟩
instance k243 {a:GCue}:Ctr (qn a) (fun (res:GCue)=>ak prog 243 [.agg (GCue.enc a)] [] (.agg (GCue.enc res)) []):=⟨by
 intro res h0
 refine co (hi:=hi00) func243 rfl rfl ?_
 unfold qn at h0
 exact run⟩
@[go_sem] def xE (a:List GCue):(Int × (List GCue))→St
 | (i,out)=>⟨[(0,.sl (ab GCue.enc a)),(3,.ref 448 1 0 out.length),(4,.lit (.int .i64 i))],[(448,1,.row true (ab GCue.enc out))],2⟩
instance k153 {a:List GCue}:Ctr (nH a) (fun (res:List GCue)=>ak prog 153 [.sl (ab GCue.enc a)] [] (.ref 20000 1 0 res.length) [(20000,1,.row true (ab GCue.enc res))]):=⟨by
 intro res h0
 refine aB (ra:=[.home 2]) (md:=mdT) hT (hi:=hi00) func153 rfl rfl (by decide +kernel) (by simp) ?_
 unfold nH at h0
 obtain⟨_,h0⟩:=ckP h0
 obtain⟨_,h0⟩:=ckP h0
 obtain⟨q04,l0,h0⟩:=af h0
 simp(config:=cS)only[go_sem, *]
 refine ah (m1:=.mk) (m2:=.mk) [.nf [0,3,4] [448]] (xE a) l0 ?_ ?_
 ·simp(config:=cS)only[go_sem, *]
 have k0:=h0
 clear h0 l0
 intro _ s0 _ h0 gb0
 obtain⟨i_1,out_1⟩:=s0
 unfold kK at h0
 try dsimp only at h0
 exact run⟩
@[go_sem] def xF (a:List Int):(Int × (List Int))→St
 | (i,out)=>⟨[(0,.sl (ab eI a)),(3,.ref 448 1 0 out.length),(4,.lit (.int .i64 i))],[(448,1,.row true (ab eI out))],2⟩
instance k67 {a:List Int}:Ctr (nI a) (fun (res:List Int)=>ak prog 67 [.sl (ab eI a)] [] (.ref 20000 1 0 res.length) [(20000,1,.row true (ab eI res))]):=⟨by
 intro res h0
 refine aB (ra:=[.home 2]) (md:=mdT) hT (hi:=hi00) func67 rfl rfl (by decide +kernel) (by simp) ?_
 unfold nI at h0
 obtain⟨_,h0⟩:=ckP h0
 obtain⟨_,h0⟩:=ckP h0
 obtain⟨q03,l0,h0⟩:=af h0
 simp(config:=cS)only[go_sem, *]
 refine ah (m1:=.mk) (m2:=.mk) [.nf [0,3,4] [448]] (xF a) l0 ?_ ?_
 ·simp(config:=cS)only[go_sem, *]
 have k0:=h0
 clear h0 l0
 intro _ s0 _ h0 gb0
 obtain⟨i_1,out_1⟩:=s0
 unfold kL at h0
 try dsimp only at h0
 exact run⟩
instance k55 {a:GSheet}:Ctr (iH a) (fun (res:GSheet)=>ak prog 55 [.agg (GSheet.encS a)] [] (.agg [.ref 20000 1 0 res.cues.length,.ref 20001 1 0 res.prep.length,.lit (.int .i64 res.horizon)]) [(20000,1,.row true (ab GCue.enc res.cues)),(20001,1,.row true (ab eI res.prep))]):=⟨by
 intro res h0
 refine aB (ra:=[.homeCell 128 0,.homeCell 128 1]) (md:=mdT) hT (hi:=hi00) func55 rfl rfl (by decide +kernel) (by simp) ?_
 unfold iH at h0
 exact run⟩
instance k164 {n:Int} {lo:Int} {hi:Int}:Ctr (aF n lo hi) (fun (res:Bool)=>ak prog 164 [.lit (.int .i64 n),.lit (.int .i64 lo),.lit (.int .i64 hi)] [] (.lit (.bool res)) []):=⟨by
 intro res h0
 refine co (hi:=hi00) func164 rfl rfl ?_
 unfold aF at h0
 exact run⟩
@[go_sem] def xG (s:ByteArray)(i:Int):St:=⟨[(0,.lit (.string s)),(3,.lit (.int .i64 i))],[],2⟩
instance k331 {s:ByteArray}:Ctr (lw s) (fun (res:Bool)=>ak prog 331 [.lit (.string s)] [] (.lit (.bool res)) []):=⟨by
 intro res h0
 refine co (hi:=hi00) func331 rfl rfl ?_
 unfold lw at h0
 obtain⟨q03,l0,h0⟩:=af h0
 simp(config:=cS)only[go_sem, *]
 refine ah (m1:=.mk) (m2:=.mk) [.nf [0,3] []] (xG s) l0 ?_ ?_
 ·simp(config:=cS)only[go_sem, *]
 have k0:=h0
 clear h0 l0
 intro _ i_1 _ h0 gb0
 unfold iI at h0
 try dsimp only at h0
 exact run⟩
instance k303 {v0:GCue} {index:Int}:Ctr (oH v0 index) (fun (res:Bool)=>ak prog 303 [.agg (GCue.enc v0),.lit (.int .i64 index)] [] (.lit (.bool res)) []):=⟨by
 intro res h0
 refine co (hi:=hi00) func303 rfl rfl ?_
 unfold oH at h0
 exact run⟩
@[go_sem] def vh (name:ByteArray)(v8:List GCue)(v9 v10:Int):St:=⟨[(1,.lit (.string name)),(8,.sl (ab GCue.enc v8)),(9,.lit (.int .i64 v9)),(10,.lit (.int .i64 v10))],[],2⟩
instance k304 {t:GSheet} {name:ByteArray}:Ctr (lH t name) (fun (res:Int)=>ak prog 304 [.agg (GSheet.encS t),.lit (.string name)] [] (.lit (.int .i64 res)) []):=⟨by
 intro res h0
 refine co (hi:=hi00) func304 rfl rfl ?_
 unfold lH at h0
 obtain⟨q02,l0,h0⟩:=af h0
 simp(config:=cS)only[go_sem, *]
 refine ah (m1:=.mk) (m2:=.mk) [.nf [1,8,9,10] []] (vh name t.cues (t.cues.length:Int)) l0 ?_ ?_
 ·simp(config:=cS)only[go_sem, *]
 have k0:=h0
 clear h0 l0
 intro _ v10_1 _ h0 gb0
 unfold fC at h0
 try dsimp only at h0
 exact run⟩
@[go_sem] def wo (v24:List Int)(v25:Int)(t_0:List GCue)(t_2 v26:Int):St:=⟨[(1,.ptr 64 1 0 0),(24,.sl (ab eI v24)),(25,.lit (.int .i64 v25)),(26,.lit (.int .i64 v26))],[(64,1,.var [.sl (ab GCue.enc t_0),.sl (ab eI v24),.lit (.int .i64 t_2)])],2⟩
@[go_sem] def wq (v35:List GCue)(v36:Int)(t_1:List Int)(t_2 v37:Int):St:=⟨[(1,.ptr 64 1 0 0),(35,.sl (ab GCue.enc v35)),(36,.lit (.int .i64 v36)),(37,.lit (.int .i64 v37))],[(64,1,.var [.sl (ab GCue.enc v35),.sl (ab eI t_1),.lit (.int .i64 t_2)])],2⟩
instance k241 {t:GSheet}:Ctr (mF t) (fun (res:Bool)=>ak prog 241 [.agg (GSheet.encS t)] [] (.lit (.bool res)) []):=⟨by
 intro res h0
 refine co (hi:=hi00) func241 rfl rfl ?_
 unfold mF at h0
 obtain⟨_,h0⟩|⟨_,h0⟩:=itP h0
 ·exact run
 obtain⟨_,h0⟩|⟨_,h0⟩:=itP h0
 ·obtain⟨r01,g0,h0⟩:=af h0
  simp(config:=cS)only[go_sem, *]
  have g0:=ctr g0
  refine aj g0 ?_
  obtain⟨_,h0⟩|⟨_,h0⟩:=itB h0
  ·obtain⟨q08,l0,h0⟩:=af h0
   simp(config:=cS)only[go_sem, *]
   refine ah (m1:=.mk) (m2:=.mk) [.nf [1,24,25,26] [64]] (wo t.prep (t.prep.length:Int) t.cues t.horizon) l0 ?_ ?_
   ·simp(config:=cS)only[go_sem, *]
   have k0:=h0
   clear h0 l0
   intro _ v26_1 _ h0 gb0
   unfold gN at h0
   try dsimp only at h0
   obtain⟨_,h0⟩|⟨_,h0⟩:=itP h0
   ·exact run
   cases h0
   obtain rfl:=(aD gb0).symm
   clear gb0
   have h0:=k0
   clear k0
   try dsimp only at h0
   obtain⟨q07,l0,h0⟩:=af h0
   simp(config:=cS)only[go_sem, *]
   refine ah (m1:=.mk) (m2:=.mk) [.nf [1,35,36,37] [64]] (wq t.cues (t.cues.length:Int) t.prep t.horizon) l0 ?_ ?_
   ·simp(config:=cS)only[go_sem, *]
   have k0:=h0
   clear h0 l0
   intro _ v37_2 _ h0 gb0
   unfold gO at h0
   try dsimp only at h0
   exact run
  exact run
 exact run⟩
@[go_sem] def vi (v11:List GCue)(v12:Int):(Int × Int)→St
 | (n,v13)=>⟨[(5,.lit (.int .i64 n)),(11,.sl (ab GCue.enc v11)),(12,.lit (.int .i64 v12)),(13,.lit (.int .i64 v13))],[],2⟩
instance k305 {t:GSheet} {cue:Int}:Ctr (cO t cue) (fun (res:Int)=>ak prog 305 [.agg (GSheet.encS t),.lit (.int .i64 cue)] [] (.lit (.int .i64 res)) []):=⟨by
 intro res h0
 refine co (hi:=hi00) func305 rfl rfl ?_
 unfold cO at h0
 obtain⟨_,h0⟩:=ckP h0
 obtain⟨_,h0⟩:=ckP h0
 obtain⟨q02,l0,h0⟩:=af h0
 simp(config:=cS)only[go_sem, *]
 refine ah (m1:=.mk) (m2:=.mk) [.nf [5,11,12,13] []] (vi (t.cues.take cue.toNat) (((t.cues.take cue.toNat).length:Nat):Int)) l0 ?_ ?_
 ·simp(config:=cS)only[go_sem, *]
 have k0:=h0
 clear h0 l0
 intro _ s0 _ h0 gb0
 obtain⟨n_1,v13_1⟩:=s0
 unfold fD at h0
 try dsimp only at h0
 exact run⟩
instance k306 {t:GSheet} {cue:Int}:Ctr (lx t cue) (fun (res:Int)=>ak prog 306 [.agg (GSheet.encS t),.lit (.int .i64 cue)] [] (.lit (.int .i64 res)) []):=⟨by
 intro res h0
 refine co (hi:=hi00) func306 rfl rfl ?_
 unfold lx at h0
 exact run⟩
instance k307 {t:GSheet} {i:Int} {k:Int}:Ctr (mG t i k) (fun (res:Bool)=>ak prog 307 [.agg (GSheet.encS t),.lit (.int .i64 i),.lit (.int .i64 k)] [] (.lit (.bool res)) []):=⟨by
 intro res h0
 refine co (hi:=hi00) func307 rfl rfl ?_
 unfold mG at h0
 exact run⟩
@[go_sem] def ej (i b:Int)(t_0:List GCue)(t_1:List Int)(t_2:Int)(v5_0:ByteArray)(v5_1:Int)(v5_2:Bool)(v5_3 v5_4 v5_5 v5_6:Int)(v5_7:Bool)(v5_8 v5_9 v5_10:Int):(Int × (List GTie))→St
 | (k,out)=>⟨[(1,.lit (.int .i64 i)),(2,.ptr 128 1 0 0),(5,.ptr 320 1 0 0),(7,.lit (.int .i64 b)),(8,.ref 2432 1 0 out.length),(9,.lit (.int .i64 k))],[(128,1,.var [.sl (ab GCue.enc t_0),.sl (ab eI t_1),.lit (.int .i64 t_2)]),(320,1,.var [.lit (.string v5_0),.lit (.int .i64 v5_1),.lit (.bool v5_2),.lit (.int .i64 v5_3),.lit (.int .i64 v5_4),.lit (.int .i64 v5_5),.lit (.int .i64 v5_6),.lit (.bool v5_7),.lit (.int .i64 v5_8),.lit (.int .i64 v5_9),.lit (.int .i64 v5_10)]),(2432,1,.row true (ab GTie.enc out))],2⟩
@[go_sem] def hi242_15:DT:=.r2 0 3 (.i2 4 (.i1 5 (.i1 6 (.i1 7 (.i1 8 (.i2 9 (.i1 10 (.i1 11 (.i0 3 [5,6,7,8,10,11] (.r2 12 4 .nil))))))))))
@[go_sem] def hi242_14:DT:=.r2 0 15 .nil
def DX:Hint where
 acts:=fun _=>[]
 draws:=fun
  | 14=>⟨hi242_14,[[],[0],[],[0,1,2],[0,1,2,3],.range 5,[],[6],.range 8,.range 9,.range 10,.range 10,.range 10,.range 13,.range 14],.range 15⟩
  | 15=>⟨hi242_15,[[],[],[],[1,2],[],[],[5],[],[7],[7,8],[5,6,7,8,9],[5,6,7,8,9,10],[1,2,3,4,5,6,7,8,9,10,11],[1,2,3,4,5,6,7,8,9,10,11,12],.range 14,.range 15],.range 16⟩
  | _=>⟨.nil,[],[]⟩
theorem UG (i:Nat):DX.acts i=[]:=rfl
theorem UH (i:Nat):DX.views i=none:=rfl
attribute[go_sem] UG UH ntmps242 results242
@[go_sem] theorem XX:(DX.draws 14).order=hi242_14:=rfl
@[go_sem] theorem XY:(DX.draws 15).order=hi242_15:=rfl
instance k242 {t:GSheet} {i:Int}:Ctr (fE t i) (fun (res:List GTie)=>ak prog 242 [.agg (GSheet.encS t),.lit (.int .i64 i)] [] (.ref 20000 1 0 res.length) [(20000,1,.row true (ab GTie.enc res))]):=⟨by
 intro res h0
 refine aB (ra:=[.home 4]) (md:=mdT) hT (hi:=DX) func242 rfl rfl (by decide +kernel) (by simp) ?_
 unfold fE at h0
 obtain⟨x01,_,_,_,h0⟩:=gtI h0
 obtain⟨_,h0⟩|⟨_,h0⟩:=itP h0
 ·obtain⟨r02,g0,h0⟩:=af h0
  simp(config:=cS)only[go_sem, *]
  have g0:=ctr g0
  refine aj g0 ?_
  obtain⟨_,h0⟩|⟨_,h0⟩:=itB h0
  ·obtain⟨r03,g0,h0⟩:=af h0
   simp(config:=cS)only[go_sem, *]
   have g0:=ctr g0
   refine aj g0 ?_
   obtain⟨r04,g0,h0⟩:=af h0
   simp(config:=cS)only[go_sem, *]
   have g0:=ctr g0
   refine aj g0 ?_
   obtain⟨_,h0⟩|⟨_,h0⟩:=itP h0
   ·obtain⟨q09,l0,h0⟩:=af h0
    simp(config:=cS)only[go_sem, *]
    refine ah (m1:=.mk) (m2:=.mk) [.nf [1,2,5,7,8,9] [128,320,2432]] (ej i r04 t.cues t.prep t.horizon x01.name x01.after x01.atEnd x01.low x01.high x01.min_ x01.max_ x01.free x01.if_ x01.watch x01.device) l0 ?_ ?_
    ·simp(config:=cS)only[go_sem, *]
    have k0:=h0
    clear h0 l0
    intro _ s0 _ h0 gb0
    obtain⟨k_1,out_1⟩:=s0
    unfold aN at h0
    try dsimp only at h0
    exact run
   obtain⟨q14,l0,h0⟩:=af h0
   simp(config:=cS)only[go_sem, *]
   refine ah (m1:=.mk) (m2:=.mk) [.nf [1,2,5,7,8,9] [128,320,2432]] (ej i r04 t.cues t.prep t.horizon x01.name x01.after x01.atEnd x01.low x01.high x01.min_ x01.max_ x01.free x01.if_ x01.watch x01.device) l0 ?_ ?_
   ·simp(config:=cS)only[go_sem, *]
   have k0:=h0
   clear h0 l0
   intro _ s0 _ h0 gb0
   obtain⟨k_2,out_2⟩:=s0
   unfold aN at h0
   try dsimp only at h0
   exact run
  obtain⟨r15,g0,h0⟩:=af h0
  simp(config:=cS)only[go_sem, *]
  have g0:=ctr g0
  refine aj g0 ?_
  obtain⟨_,h0⟩|⟨_,h0⟩:=itP h0
  ·obtain⟨q20,l0,h0⟩:=af h0
   simp(config:=cS)only[go_sem, *]
   refine ah (m1:=.mk) (m2:=.mk) [.nf [1,2,5,7,8,9] [128,320,2432]] (ej i r15 t.cues t.prep t.horizon x01.name x01.after x01.atEnd x01.low x01.high x01.min_ x01.max_ x01.free x01.if_ x01.watch x01.device) l0 ?_ ?_
   ·simp(config:=cS)only[go_sem, *]
   have k0:=h0
   clear h0 l0
   intro _ s0 _ h0 gb0
   obtain⟨k_3,out_3⟩:=s0
   unfold aN at h0
   try dsimp only at h0
   exact run
  obtain⟨q25,l0,h0⟩:=af h0
  simp(config:=cS)only[go_sem, *]
  refine ah (m1:=.mk) (m2:=.mk) [.nf [1,2,5,7,8,9] [128,320,2432]] (ej i r15 t.cues t.prep t.horizon x01.name x01.after x01.atEnd x01.low x01.high x01.min_ x01.max_ x01.free x01.if_ x01.watch x01.device) l0 ?_ ?_
  ·simp(config:=cS)only[go_sem, *]
  have k0:=h0
  clear h0 l0
  intro _ s0 _ h0 gb0
  obtain⟨k_4,out_4⟩:=s0
  unfold aN at h0
  try dsimp only at h0
  exact run
 obtain⟨r26,g0,h0⟩:=af h0
 simp(config:=cS)only[go_sem, *]
 have g0:=ctr g0
 refine aj g0 ?_
 obtain⟨_,h0⟩|⟨_,h0⟩:=itP h0
 ·obtain⟨q31,l0,h0⟩:=af h0
  simp(config:=cS)only[go_sem, *]
  refine ah (m1:=.mk) (m2:=.mk) [.nf [1,2,5,7,8,9] [128,320,2432]] (ej i r26 t.cues t.prep t.horizon x01.name x01.after x01.atEnd x01.low x01.high x01.min_ x01.max_ x01.free x01.if_ x01.watch x01.device) l0 ?_ ?_
  ·simp(config:=cS)only[go_sem, *]
  have k0:=h0
  clear h0 l0
  intro _ s0 _ h0 gb0
  obtain⟨k_5,out_5⟩:=s0
  unfold aN at h0
  try dsimp only at h0
  exact run
 obtain⟨q36,l0,h0⟩:=af h0
 simp(config:=cS)only[go_sem, *]
 refine ah (m1:=.mk) (m2:=.mk) [.nf [1,2,5,7,8,9] [128,320,2432]] (ej i r26 t.cues t.prep t.horizon x01.name x01.after x01.atEnd x01.low x01.high x01.min_ x01.max_ x01.free x01.if_ x01.watch x01.device) l0 ?_ ?_
 ·simp(config:=cS)only[go_sem, *]
 have k0:=h0
 clear h0 l0
 intro _ s0 _ h0 gb0
 obtain⟨k_6,out_6⟩:=s0
 unfold aN at h0
 try dsimp only at h0
 exact run⟩
instance k160 {n:Int}:Ctr (dr n) (fun (res:Int)=>ak prog 160 [.lit (.int .i64 n)] [] (.lit (.int .i64 res)) []):=⟨by
 intro res h0
 refine co (hi:=hi00) func160 rfl rfl ?_
 unfold dr at h0
 exact run⟩
@[go_sem] def wu (l:List Int)(v6 v7:Int):St:=⟨[(0,.sl (ab eI l)),(5,.sl (ab eI l)),(6,.lit (.int .i64 v6)),(7,.lit (.int .i64 v7))],[],2⟩
instance k332 {l:List Int}:Ctr (iJ l) (fun (res:Bool)=>ak prog 332 [.sl (ab eI l)] [] (.lit (.bool res)) []):=⟨by
 intro res h0
 refine co (hi:=hi00) func332 rfl rfl ?_
 unfold iJ at h0
 obtain⟨q06,l0,h0⟩:=af h0
 simp(config:=cS)only[go_sem, *]
 refine ah (m1:=.mk) (m2:=.mk) [.nf [0,5,6,7] []] (wu l (l.length:Int)) l0 ?_ ?_
 ·simp(config:=cS)only[go_sem, *]
 have k0:=h0
 clear h0 l0
 intro _ v7_1 _ h0 gb0
 unfold gP at h0
 try dsimp only at h0
 exact run⟩
instance k294 {n:GNode}:Ctr (nJ n) (fun (res:Bool)=>ak prog 294 [.agg (GNode.encS n)] [] (.lit (.bool res)) []):=⟨by
 intro res h0
 refine co (hi:=hi00) func294 rfl rfl ?_
 unfold nJ at h0
 exact run⟩
@[go_sem] def uG (name:ByteArray)(v8:List GNode)(v9 v10:Int):St:=⟨[(1,.lit (.string name)),(8,.sl (ab GNode.encS v8)),(9,.lit (.int .i64 v9)),(10,.lit (.int .i64 v10))],[],2⟩
instance k295 {s:GShow} {name:ByteArray}:Ctr (kM s name) (fun (res:Int)=>ak prog 295 [.agg (GShow.encS s),.lit (.string name)] [] (.lit (.int .i64 res)) []):=⟨by
 intro res h0
 refine co (hi:=hi00) func295 rfl rfl ?_
 unfold kM at h0
 obtain⟨q02,l0,h0⟩:=af h0
 simp(config:=cS)only[go_sem, *]
 refine ah (m1:=.mk) (m2:=.mk) [.nf [1,8,9,10] []] (uG name s.nodes (s.nodes.length:Int)) l0 ?_ ?_
 ·simp(config:=cS)only[go_sem, *]
 have k0:=h0
 clear h0 l0
 intro _ v10_1 _ h0 gb0
 unfold eR at h0
 try dsimp only at h0
 exact run⟩
@[go_sem] def tQ (p:Int)(v8:List GNode)(v9 v10:Int):St:=⟨[(1,.lit (.int .i64 p)),(8,.sl (ab GNode.encS v8)),(9,.lit (.int .i64 v9)),(10,.lit (.int .i64 v10))],[],2⟩
instance k159 {s:GShow} {p:Int}:Ctr (bj s p) (fun (res:Int)=>ak prog 159 [.agg (GShow.encS s),.lit (.int .i64 p)] [] (.lit (.int .i64 res)) []):=⟨by
 intro res h0
 refine co (hi:=hi00) func159 rfl rfl ?_
 unfold bj at h0
 obtain⟨q02,l0,h0⟩:=af h0
 simp(config:=cS)only[go_sem, *]
 refine ah (m1:=.mk) (m2:=.mk) [.nf [1,8,9,10] []] (tQ p s.nodes (s.nodes.length:Int)) l0 ?_ ?_
 ·simp(config:=cS)only[go_sem, *]
 have k0:=h0
 clear h0 l0
 intro _ v10_1 _ h0 gb0
 unfold em at h0
 try dsimp only at h0
 exact run⟩
@[go_sem] def xH (n:Int)(v7:List Int)(v8 v9:Int):St:=⟨[(1,.lit (.int .i64 n)),(7,.sl (ab eI v7)),(8,.lit (.int .i64 v8)),(9,.lit (.int .i64 v9))],[],2⟩
instance k296 {l:List Int} {n:Int}:Ctr (cK l n) (fun (res:Bool)=>ak prog 296 [.sl (ab eI l),.lit (.int .i64 n)] [] (.lit (.bool res)) []):=⟨by
 intro res h0
 refine co (hi:=hi00) func296 rfl rfl ?_
 unfold cK at h0
 obtain⟨q02,l0,h0⟩:=af h0
 simp(config:=cS)only[go_sem, *]
 refine ah (m1:=.mk) (m2:=.mk) [.nf [1,7,8,9] []] (xH n l (l.length:Int)) l0 ?_ ?_
 ·simp(config:=cS)only[go_sem, *]
 have k0:=h0
 clear h0 l0
 intro _ v9_1 _ h0 gb0
 unfold iK at h0
 try dsimp only at h0
 exact run⟩
@[go_sem] def sy (a v15:List Int)(v16 v17:Int):St:=⟨[(0,.sl (ab eI a)),(15,.sl (ab eI v15)),(16,.lit (.int .i64 v16)),(17,.lit (.int .i64 v17))],[],2⟩
instance k297 {a:List Int} {b:List Int}:Ctr (eU a b) (fun (res:Bool)=>ak prog 297 [.sl (ab eI a),.sl (ab eI b)] [] (.lit (.bool res)) []):=⟨by
 intro res h0
 refine co (hi:=hi00) func297 rfl rfl ?_
 unfold eU at h0
 obtain⟨r01,g0,h0⟩:=af h0
 simp(config:=cS)only[go_sem, *]
 have g0:=ctr g0
 refine aj g0 ?_
 obtain⟨_,h0⟩|⟨_,h0⟩:=itB h0
 ·obtain⟨r02,g0,h0⟩:=af h0
  simp(config:=cS)only[go_sem, *]
  have g0:=ctr g0
  refine aj g0 ?_
  obtain⟨_,h0⟩|⟨_,h0⟩:=itB h0
  ·obtain⟨q05,l0,h0⟩:=af h0
   simp(config:=cS)only[go_sem, *]
   refine ah (m1:=.mk) (m2:=.mk) [.nf [0,15,16,17] []] (sy a b (b.length:Int)) l0 ?_ ?_
   ·simp(config:=cS)only[go_sem, *]
   have k0:=h0
   clear h0 l0
   intro _ v17_1 _ h0 gb0
   unfold dt at h0
   try dsimp only at h0
   exact run
  exact run
 exact run⟩
@[go_sem] def vj (v33:List GNode)(v34:Int)(s_1:List GTie)(s_2 v35:Int):St:=⟨[(1,.ptr 64 1 0 0),(33,.sl (ab GNode.encS v33)),(34,.lit (.int .i64 v34)),(35,.lit (.int .i64 v35))],[(64,1,.var [.sl (ab GNode.encS v33),.sl (ab GTie.enc s_1),.lit (.int .i64 s_2)])],2⟩
@[go_sem] def vk (v66:List GNode)(v67 v68:Int)(v73:List Int)(v74:Int)(s_1:List GTie)(s_2:Int)(n_0:ByteArray)(n_2 v75:Int):St:=⟨[(1,.ptr 64 1 0 0),(6,.ptr 384 1 0 0),(66,.sl (ab GNode.encS v66)),(67,.lit (.int .i64 v67)),(68,.lit (.int .i64 v68)),(73,.sl (ab eI v73)),(74,.lit (.int .i64 v74)),(75,.lit (.int .i64 v75))],[(64,1,.var [.sl (ab GNode.encS v66),.sl (ab GTie.enc s_1),.lit (.int .i64 s_2)]),(384,1,.var [.lit (.string n_0),.sl (ab eI v73),.lit (.int .i64 n_2)])],2⟩
@[go_sem] def vl (v66:List GNode)(v67:Int)(s_1:List GTie)(s_2 v68:Int):St:=⟨[(1,.ptr 64 1 0 0),(66,.sl (ab GNode.encS v66)),(67,.lit (.int .i64 v67)),(68,.lit (.int .i64 v68))],[(64,1,.var [.sl (ab GNode.encS v66),.sl (ab GTie.enc s_1),.lit (.int .i64 s_2)])],2⟩
@[go_sem] def hi234_16:DT:=.r2 0 35 .nil
@[go_sem] def hi234_15:DT:=.i1 0 (.i2 1 (.i0 2 [0] (.i2 3 (.i2 4 .nil))))
def DY:Hint where
 acts:=fun _=>[]
 draws:=fun
  | 15=>⟨hi234_15,[[],[],[1],[0,1,2],[0,1,2,3]],.range 5⟩
  | 16=>⟨hi234_16,[[],[0],[0,1],[0,1,2],[0,1,2,3],[0,1,2],.range 6,.range 7,.range 8,[0,1,2],.range 10,.range 11,.range 12,.range 13,.range 14,.range 13,.range 16,.range 17,.range 18,.range 13,[0,1,2,3,4,5,6,7,8,9,10,11,12,19],.range 21,.range 22,.range 23,.range 24,.range 25,.range 24,[0,1,2,3,4,5,6,7,8,9,10,11,12,13,14,15,16,17,18,19,20,21,22,23,26],.range 24,[0,1,2,3,4,5,6,7,8,9,10,11,12,13,14,15,16,17,18,19,20,21,22,23,26,27,28],[0,1,2,3,4,5,6,7,8,9,10,11,12,13,14,15,16,17,18,19,20,21,22,23,26,27,28,29],[0,1,2,3,4,5,6,7,8,9,10,11,12,13,14,15,16,17,18,19,20,21,22,23,26,27,28,29,30],.range 32,.range 33,.range 34],.range 35⟩
  | _=>⟨.nil,[],[]⟩
theorem UI (i:Nat):DY.acts i=[]:=rfl
theorem UJ (i:Nat):DY.views i=none:=rfl
attribute[go_sem] UI UJ ntmps234 results234
@[go_sem] theorem XZ:(DY.draws 15).order=hi234_15:=rfl
@[go_sem] theorem Ya:(DY.draws 16).order=hi234_16:=rfl
instance k234 {s:GShow}:Ctr (lI s) (fun (res:Bool)=>ak prog 234 [.agg (GShow.encS s)] [] (.lit (.bool res)) []):=⟨by
 intro res h0
 refine co (hi:=DY) func234 rfl rfl ?_
 unfold lI at h0
 obtain⟨r01,g0,h0⟩:=af h0
 simp(config:=cS)only[go_sem, *]
 have g0:=ctr g0
 refine aj g0 ?_
 obtain⟨_,h0⟩|⟨_,h0⟩:=itB h0
 ·obtain⟨x02,g1,h0⟩:=af h0
  have:=fv (k:=0) g1
  obtain⟨_,h0⟩|⟨_,h0⟩:=itP h0
  ·exact run
  obtain⟨_,h0⟩|⟨_,h0⟩:=itP h0
  ·obtain⟨q17,l0,h0⟩:=af h0
   simp(config:=cS)only[go_sem, *]
   refine ah (m1:=.mk) (m2:=.mk) [.nf [1,33,34,35] [64]] (vj s.nodes (s.nodes.length:Int) s.ties s.horizon) l0 ?_ ?_
   ·simp(config:=cS)only[go_sem, *]
   have k0:=h0
   clear h0 l0
   intro _ v35_1 _ h0 gb0
   unfold fF at h0
   try dsimp only at h0
   obtain⟨_,h0⟩|⟨_,h0⟩:=itP h0
   ·exact run
   cases h0
   obtain rfl:=(aD gb0).symm
   clear gb0
   have h0:=k0
   clear k0
   try dsimp only at h0
   obtain⟨q16,l0,h0⟩:=af h0
   simp(config:=cS)only[go_sem, *]
   refine ah (m1:=.mk) (m2:=.mk) [.nf [1,66,67,68] [64]] (vl s.nodes (s.nodes.length:Int) s.ties s.horizon) l0 ?_ ?_
   ·simp(config:=cS)only[go_sem, *]
   have k0:=h0
   clear h0 l0
   intro _ v68_2 _ h0 gb0
   unfold fH at h0
   try dsimp only at h0
   obtain⟨_,h0⟩|⟨_,h0⟩:=itP h0
   ·obtain⟨x07,_,_,_,h0⟩:=gtI h0
    obtain⟨q15,l0,h0⟩:=af h0
    simp(config:=cS)only[go_sem, *]
    refine ah (m1:=.mk) (m2:=.mk) [.nf [1,6,66,67,68,73,74,75] [64,384]] (vk s.nodes (s.nodes.length:Int) v68_2 x07.label (x07.label.length:Int) s.ties s.horizon x07.name x07.watch) l0 ?_ ?_
    ·simp(config:=cS)only[go_sem, *]
    have k0:=h0
    clear h0 l0
    intro _ v75_3 _ h0 gb0
    unfold fG at h0
    try dsimp only at h0
    exact run
   exact run
  exact run
 exact run⟩
@[go_sem] def wv (b v12:List Int)(v13 v14:Int):St:=⟨[(1,.sl (ab eI b)),(12,.sl (ab eI v12)),(13,.lit (.int .i64 v13)),(14,.lit (.int .i64 v14))],[],2⟩
instance k298 {a:List Int} {b:List Int}:Ctr (mH a b) (fun (res:Bool)=>ak prog 298 [.sl (ab eI a),.sl (ab eI b)] [] (.lit (.bool res)) []):=⟨by
 intro res h0
 refine co (hi:=hi00) func298 rfl rfl ?_
 unfold mH at h0
 obtain⟨_,h0⟩|⟨_,h0⟩:=itP h0
 ·obtain⟨q03,l0,h0⟩:=af h0
  simp(config:=cS)only[go_sem, *]
  refine ah (m1:=.mk) (m2:=.mk) [.nf [1,12,13,14] []] (wv b a (a.length:Int)) l0 ?_ ?_
  ·simp(config:=cS)only[go_sem, *]
  have k0:=h0
  clear h0 l0
  intro _ v14_1 _ h0 gb0
  unfold gQ at h0
  try dsimp only at h0
  exact run
 exact run⟩
@[go_sem] def ww (node:Int)(v8:List GTie)(v9 v10:Int):St:=⟨[(1,.lit (.int .i64 node)),(8,.sl (ab GTie.enc v8)),(9,.lit (.int .i64 v9)),(10,.lit (.int .i64 v10))],[],2⟩
instance k236 {s:GShow} {node:Int}:Ctr (du s node) (fun (res:Int)=>ak prog 236 [.agg (GShow.encS s),.lit (.int .i64 node)] [] (.lit (.int .i64 res)) []):=⟨by
 intro res h0
 refine co (hi:=hi00) func236 rfl rfl ?_
 unfold du at h0
 obtain⟨q02,l0,h0⟩:=af h0
 simp(config:=cS)only[go_sem, *]
 refine ah (m1:=.mk) (m2:=.mk) [.nf [1,8,9,10] []] (ww node s.ties (s.ties.length:Int)) l0 ?_ ?_
 ·simp(config:=cS)only[go_sem, *]
 have k0:=h0
 clear h0 l0
 intro _ v10_1 _ h0 gb0
 unfold gR at h0
 try dsimp only at h0
 exact run⟩
@[go_sem] def hi235_5:DT:=.r2 0 43 (.i2 44 (.i2 43 (.r2 45 4 .nil)))
def HZ:Hint where
 acts:=fun _=>[]
 draws:=fun
  | 5=>⟨hi235_5,[[],[0],[0,1],[0,1,2],[0,1,2,3],.range 5,.range 6,.range 7,.range 8,.range 9,.range 10,.range 11,.range 12,.range 13,.range 14,.range 13,[0,1,2,3,4,5,6,7,8,9,10,11,12,15],.range 17,.range 18,.range 19,.range 20,.range 21,.range 22,.range 23,.range 24,.range 23,[0,1,2,3,4,5,6,7,8,9,10,11,12,13,14,15,16,17,18,19,20,21,22,25],.range 27,.range 28,.range 29,.range 23,[0,1,2,3,4,5,6,7,8,9,10,11,12,13,14,15,16,17,18,19,20,21,22,30],.range 23,[0,1,2,3,4,5,6,7,8,9,10,11,12,13,14,15,16,17,18,19,20,21,22,32],[0,1,2,3,4,5,6,7,8,9,10,11,12,13,14,15,16,17,18,19,20,21,22,30,31,32,33],[0,1,2,3,4,5,6,7,8,9,10,11,12,13,14,15,16,17,18,19,20,21,22,30,31,32,33,34],[0,1,2,3,4,5,6,7,8,9,10,11,12,13,14,15,16,17,18,19,20,21,22,30,31,32,33,34,35],.range 37,.range 38,.range 39,.range 40,.range 40,[0,1,2,3,4,5,6,7,8,9,10,11,12,13,14,15,16,17,18,19,20,21,22,23,24,25,26,27,28,29,30,31,32,33,34,35,36,37,38,39,41],.range 43,.range 40,.range 45,.range 46,.range 47,.range 48],.range 49⟩
  | _=>⟨.nil,[],[]⟩
theorem UK (i:Nat):HZ.acts i=[]:=rfl
theorem UL (i:Nat):HZ.views i=none:=rfl
attribute[go_sem] UK UL ntmps235 results235
@[go_sem] theorem Zf:(HZ.draws 5).order=hi235_5:=rfl
instance k235 {s:GShow} {i:Int}:Ctr (nK s i) (fun (res:Bool)=>ak prog 235 [.agg (GShow.encS s),.lit (.int .i64 i)] [] (.lit (.bool res)) []):=⟨by
 intro res h0
 refine co (hi:=HZ) func235 rfl rfl ?_
 unfold nK at h0
 exact run⟩
@[go_sem] def xI (v21:Int)(s_0:List GNode)(s_1:List GTie)(s_2 v22:Int):St:=⟨[(1,.ptr 64 1 0 0),(21,.lit (.int .i64 v21)),(22,.lit (.int .i64 v22))],[(64,1,.var [.sl (ab GNode.encS s_0),.sl (ab GTie.enc s_1),.lit (.int .i64 s_2)])],2⟩
instance k144 {s:GShow}:Ctr (cL s) (fun (res:Bool)=>ak prog 144 [.agg (GShow.encS s)] [] (.lit (.bool res)) []):=⟨by
 intro res h0
 refine co (hi:=hi00) func144 rfl rfl ?_
 unfold cL at h0
 obtain⟨r01,g0,h0⟩:=af h0
 simp(config:=cS)only[go_sem, *]
 have g0:=ctr g0
 refine aj g0 ?_
 obtain⟨_,h0⟩|⟨_,h0⟩:=itB h0
 ·obtain⟨_,h0⟩|⟨_,h0⟩:=itP h0
  ·exact run
  obtain⟨r02,g0,h0⟩:=af h0
  simp(config:=cS)only[go_sem, *]
  have g0:=ctr g0
  refine aj g0 ?_
  obtain⟨_,h0⟩|⟨_,h0⟩:=itB h0
  ·obtain⟨q04,l0,h0⟩:=af h0
   simp(config:=cS)only[go_sem, *]
   refine ah (m1:=.mk) (m2:=.mk) [.nf [1,21,22] [64]] (xI (s.ties.length:Int) s.nodes s.ties s.horizon) l0 ?_ ?_
   ·simp(config:=cS)only[go_sem, *]
   have k0:=h0
   clear h0 l0
   intro _ v22_1 _ h0 gb0
   unfold iL at h0
   try dsimp only at h0
   exact run
  exact run
 exact run⟩
@[go_sem] def sA (v18:List GCue)(v19:Int)(t_1:List Int)(t_2:Int):(Int × (List GNode) × (List GTie))→St
 | (v20,h832,h100016385)=>⟨[(1,.ptr 64 1 0 0),(2,.ptr 128 1 0 0),(4,.ptr 256 1 0 0),(18,.sl (ab GCue.enc v18)),(19,.lit (.int .i64 v19)),(20,.lit (.int .i64 v20))],[(64,1,.var [.sl (ab GCue.enc v18),.sl (ab eI t_1),.lit (.int .i64 t_2)]),(128,1,.var [.lit (.slice none 0 0),.lit (.slice none 0 0),.lit (.int .i64 0)]),(256,1,.var [.ref 832 1 0 h832.length,.ref 100016385 1 0 h100016385.length,.lit (.int .i64 t_2)]),(832,1,.row true (ab GNode.encO h832)),(100016385,1,.row true (ab GTie.enc h100016385))],2⟩
@[go_sem] def hi152_13:DT:=.i1 0 (.i1 1 (.i2 2 (.i2 3 (.i0 4 [0,1] (.r2 5 3 .nil)))))
@[go_sem] def hi152_10:DT:=.i1 0 (.i1 1 (.i1 2 (.i1 3 (.i2 5 (.i1 7 (.i1 8 (.i0 4 [0,1,2,3,7,8] (.i0 6 [0,1,2,3,7,8] (.i2 9 (.i0 10 [0,1] (.r2 11 3 .nil)))))))))))
def DZ:Hint where
 acts:=fun _=>[]
 draws:=fun
  | 10=>⟨hi152_10,[[],[0],[],[2],[],[],[4,5],[],[7],[2,3,4,5,6,7,8],[2,3,4,5,6,7,8,9],.range 11,.range 12,.range 13],.range 14⟩
  | 13=>⟨hi152_13,[[],[0],[],[],[2,3],.range 5,.range 6,.range 7],.range 8⟩
  | _=>⟨.nil,[],[]⟩
theorem UM (i:Nat):DZ.acts i=[]:=rfl
theorem UN (i:Nat):DZ.views i=none:=rfl
attribute[go_sem] UM UN ntmps152 results152
@[go_sem] theorem Yb:(DZ.draws 10).order=hi152_10:=rfl
@[go_sem] theorem Yc:(DZ.draws 13).order=hi152_13:=rfl
instance k152 {t:GSheet}:Ctr (ik t) (fun (res:GShow × Int)=>ak prog 152 [.agg (GSheet.encS t)] [] (.tup [.agg [.ref 20000 1 0 res.1.nodes.length,.ref 20001 1 0 res.1.ties.length,.lit (.int .i64 res.1.horizon)],.lit (.int .i64 res.2)]) [(20000,1,.row true (ab GNode.encO res.1.nodes)),(20001,1,.row true (ab GTie.enc res.1.ties))]):=⟨by
 intro res h0
 refine aB (ra:=[.homeCell 128 0,.homeCell 128 1]) (md:=mdT) hT (hi:=DZ) func152 rfl rfl (by decide +kernel) (by simp) ?_
 unfold ik at h0
 obtain⟨r01,g0,h0⟩:=af h0
 simp(config:=cS)only[go_sem, *]
 have g0:=ctr g0
 refine aj g0 ?_
 obtain⟨_,h0⟩|⟨_,h0⟩:=itB h0
 ·obtain⟨q08,l0,h0⟩:=af h0
  simp(config:=cS)only[go_sem, *]
  refine ah (m1:=.mk) (m2:=.mk) [.homeCell 256 1,.nf [1,2,4,18,19,20] [64,128,256,832,100016385]] (sA t.cues (t.cues.length:Int) t.prep t.horizon) l0 ?_ ?_
  ·simp(config:=cS)only[go_sem, *]
  have k0:=h0
  clear h0 l0
  intro _ s0 _ h0 gb0
  obtain⟨v20_1,h832_1,h100016385_1⟩:=s0
  unfold dv at h0
  try dsimp only at h0
  obtain⟨_,h0⟩|⟨_,h0⟩:=itP h0
  ·obtain⟨x02,_,_,_,h0⟩:=gtI h0
   obtain⟨_,h0⟩|⟨_,h0⟩:=itP h0
   ·obtain⟨_,h0⟩:=ckP h0
    obtain⟨_,h0⟩:=ckP h0
    obtain⟨_,h0⟩|⟨_,h0⟩:=itP h0
    ·exact run
    obtain⟨_,h0⟩:=ckP h0
    obtain⟨a1,h0⟩:=ckP h0
    try simp(config:=cS)only[go_sem]at a1
    obtain⟨a2,h0⟩:=ckP h0
    try simp(config:=cS)only[go_sem]at a2
    exact run
   obtain⟨_,h0⟩:=ckP h0
   obtain⟨_,h0⟩:=ckP h0
   obtain⟨_,h0⟩|⟨_,h0⟩:=itP h0
   ·exact run
   obtain⟨_,h0⟩:=ckP h0
   obtain⟨a3,h0⟩:=ckP h0
   try simp(config:=cS)only[go_sem]at a3
   obtain⟨a4,h0⟩:=ckP h0
   try simp(config:=cS)only[go_sem]at a4
   exact run
  exact run
 exact run⟩
@[go_sem] def wx (s_0:List GNode)(s_1:List GTie)(s_2:Int):(Int × Int × Int × Int)→St
 | (node,low,high,n)=>⟨[(1,.lit (.int .i64 node)),(2,.ptr 128 1 0 0),(8,.lit (.int .i64 low)),(9,.lit (.int .i64 high)),(10,.lit (.int .i64 n))],[(128,1,.var [.sl (ab GNode.encS s_0),.sl (ab GTie.enc s_1),.lit (.int .i64 s_2)])],2⟩
instance k358 {s:GShow} {node:Int}:Ctr (cj s node) (fun (res:Int × Int × Int × Bool)=>ak prog 358 [.agg (GShow.encS s),.lit (.int .i64 node)] [] (.tup [.lit (.int .i64 res.1),.lit (.int .i64 res.2.1),.lit (.int .i64 res.2.2.1),.lit (.bool res.2.2.2)]) []):=⟨by
 intro res h0
 refine co (hi:=hi00) func358 rfl rfl ?_
 unfold cj at h0
 obtain⟨q03,l0,h0⟩:=af h0
 simp(config:=cS)only[go_sem, *]
 refine ah (m1:=.mk) (m2:=.mk) [.nf [1,2,8,9,10] [128]] (wx s.nodes s.ties s.horizon) l0 ?_ ?_
 ·simp(config:=cS)only[go_sem, *]
 have k0:=h0
 clear h0 l0
 intro _ s0 _ h0 gb0
 obtain⟨node_1,low_1,high_1,n_1⟩:=s0
 unfold cf at h0
 try dsimp only at h0
 exact run⟩
@[go_sem] def vm (v10:List GNode)(v11:Int)(s_1:List GTie)(s_2 v12:Int):St:=⟨[(1,.ptr 64 1 0 0),(10,.sl (ab GNode.encS v10)),(11,.lit (.int .i64 v11)),(12,.lit (.int .i64 v12))],[(64,1,.var [.sl (ab GNode.encS v10),.sl (ab GTie.enc s_1),.lit (.int .i64 s_2)])],2⟩
instance k357 {s:GShow}:Ctr (lJ s) (fun (res:Bool)=>ak prog 357 [.agg (GShow.encS s)] [] (.lit (.bool res)) []):=⟨by
 intro res h0
 refine co (hi:=hi00) func357 rfl rfl ?_
 unfold lJ at h0
 obtain⟨q03,l0,h0⟩:=af h0
 simp(config:=cS)only[go_sem, *]
 refine ah (m1:=.mk) (m2:=.mk) [.nf [1,10,11,12] [64]] (vm s.nodes (s.nodes.length:Int) s.ties s.horizon) l0 ?_ ?_
 ·simp(config:=cS)only[go_sem, *]
 have k0:=h0
 clear h0 l0
 intro _ v12_1 _ h0 gb0
 unfold fI at h0
 try dsimp only at h0
 exact run⟩
@[go_sem] def vn (s_0:List GNode)(s_1:List GTie)(s_2:Int):(Int × Int × (List Int))→St
 | (node,n,out)=>⟨[(1,.lit (.int .i64 node)),(2,.ptr 128 1 0 0),(5,.ref 512 1 0 out.length),(6,.lit (.int .i64 n))],[(128,1,.var [.sl (ab GNode.encS s_0),.sl (ab GTie.enc s_1),.lit (.int .i64 s_2)]),(512,1,.row true (ab eI out))],2⟩
instance k371 {s:GShow} {node:Int}:Ctr (gu s node) (fun (res:List Int)=>ak prog 371 [.agg (GShow.encS s),.lit (.int .i64 node)] [] (.ref 20000 1 0 res.length) [(20000,1,.row true (ab eI res))]):=⟨by
 intro res h0
 refine aB (ra:=[.home 4]) (md:=mdT) hT (hi:=hi00) func371 rfl rfl (by decide +kernel) (by simp) ?_
 unfold gu at h0
 obtain⟨q03,l0,h0⟩:=af h0
 simp(config:=cS)only[go_sem, *]
 refine ah (m1:=.mk) (m2:=.mk) [.nf [1,2,5,6] [128,512]] (vn s.nodes s.ties s.horizon) l0 ?_ ?_
 ·simp(config:=cS)only[go_sem, *]
 have k0:=h0
 clear h0 l0
 intro _ s0 _ h0 gb0
 obtain⟨node_1,n_1,out_1⟩:=s0
 unfold fJ at h0
 try dsimp only at h0
 exact run⟩
@[go_sem] def xJ (v23:Int)(s_0:List GNode)(s_1:List GTie)(s_2:Int)(v22 b:List Int):(Int × Int × Int)→St
 | (low,high,v24)=>⟨[(3,.ptr 192 1 0 0),(8,.ref 1152 1 0 v22.length),(9,.ref 1344 1 0 b.length),(10,.lit (.int .i64 low)),(11,.lit (.int .i64 high)),(22,.ref 1152 1 0 v22.length),(23,.lit (.int .i64 v23)),(24,.lit (.int .i64 v24))],[(192,1,.var [.sl (ab GNode.encS s_0),.sl (ab GTie.enc s_1),.lit (.int .i64 s_2)]),(1152,1,.row true (ab eI v22)),(1344,1,.row true (ab eI b))],2⟩
@[go_sem] def xK (v50:Int)(s_0:List GNode)(s_1:List GTie)(s_2:Int)(a v49:List Int):(Int × Int × Int)→St
 | (low,high,v51)=>⟨[(3,.ptr 192 1 0 0),(8,.ref 1152 1 0 a.length),(10,.lit (.int .i64 low)),(11,.lit (.int .i64 high)),(49,.ref 1344 1 0 v49.length),(50,.lit (.int .i64 v50)),(51,.lit (.int .i64 v51))],[(192,1,.var [.sl (ab GNode.encS s_0),.sl (ab GTie.enc s_1),.lit (.int .i64 s_2)]),(1152,1,.row true (ab eI a)),(1344,1,.row true (ab eI v49))],2⟩
instance k359 {s:GShow} {from_:Int} {to:Int}:Ctr (nL s from_ to) (fun (res:Int × Int)=>ak prog 359 [.agg (GShow.encS s),.lit (.int .i64 from_),.lit (.int .i64 to)] [] (.tup [.lit (.int .i64 res.1),.lit (.int .i64 res.2)]) []):=⟨by
 intro res h0
 refine co (hi:=hi00) func359 rfl rfl ?_
 unfold nL at h0
 obtain⟨r01,g0,h0⟩:=af h0
 simp(config:=cS)only[go_sem, *]
 have g0:=ctr g0
 refine aj g0 ?_
 obtain⟨r02,g0,h0⟩:=af h0
 simp(config:=cS)only[go_sem, *]
 have g0:=ctr g0
 refine aj g0 ?_
 obtain⟨q10,l0,h0⟩:=af h0
 simp(config:=cS)only[go_sem, *]
 refine ah (m1:=.mk) (m2:=.mk) [.nf [3,8,9,10,11,22,23,24] [192,1152,1344]] (xJ (r01.length:Int) s.nodes s.ties s.horizon r01 r02) l0 ?_ ?_
 ·simp(config:=cS)only[go_sem, *]
 have k0:=h0
 clear h0 l0
 intro _ s0 _ h0 gb0
 obtain⟨low_1,high_1,v24_1⟩:=s0
 unfold iM at h0
 try dsimp only at h0
 obtain⟨_,h0⟩|⟨_,h0⟩:=itP h0
 ·exact run
 cases h0
 obtain rfl:=(aD gb0).symm
 clear gb0
 have h0:=k0
 clear k0
 try dsimp only at h0
 obtain⟨q09,l0,h0⟩:=af h0
 simp(config:=cS)only[go_sem, *]
 refine ah (m1:=.mk) (m2:=.mk) [.nf [3,8,10,11,49,50,51] [192,1152,1344]] (xK (r02.length:Int) s.nodes s.ties s.horizon r01 r02) l0 ?_ ?_
 ·simp(config:=cS)only[go_sem, *]
 have k0:=h0
 clear h0 l0
 intro _ s0 _ h0 gb0
 obtain⟨low_2,high_2,v51_2⟩:=s0
 unfold iN at h0
 try dsimp only at h0
 exact run⟩
instance k167 {i:am}:Ctr (gS i) (fun (res:Bool)=>ak prog 167 [.agg [.lit (.int .i64 i.low),.lit (.int .i64 i.high)]] [] (.lit (.bool res)) []):=⟨by
 intro res h0
 refine co (hi:=hi00) func167 rfl rfl ?_
 unfold gS at h0
 exact run⟩
@[go_sem] def vp (v16:List GLink)(v17 s_0 v18:Int):St:=⟨[(1,.ptr 64 1 0 0),(16,.sl (ab GLink.enc v16)),(17,.lit (.int .i64 v17)),(18,.lit (.int .i64 v18))],[(64,1,.var [.lit (.int .i64 s_0),.sl (ab GLink.enc v16)])],2⟩
instance k161 {s:GSimple}:Ctr (eO s) (fun (res:Bool)=>ak prog 161 [.agg [.lit (.int .i64 s.events),.sl (ab GLink.enc s.links)]] [] (.lit (.bool res)) []):=⟨by
 intro res h0
 refine co (hi:=hi00) func161 rfl rfl ?_
 unfold eO at h0
 obtain⟨r01,g0,h0⟩:=af h0
 simp(config:=cS)only[go_sem, *]
 have g0:=ctr g0
 refine aj g0 ?_
 obtain⟨_,h0⟩|⟨_,h0⟩:=itB h0
 ·obtain⟨_,h0⟩|⟨_,h0⟩:=itP h0
  ·exact run
  obtain⟨q06,l0,h0⟩:=af h0
  simp(config:=cS)only[go_sem, *]
  refine ah (m1:=.mk) (m2:=.mk) [.nf [1,16,17,18] [64]] (vp s.links (s.links.length:Int) s.events) l0 ?_ ?_
  ·simp(config:=cS)only[go_sem, *]
  have k0:=h0
  clear h0 l0
  intro _ v18_1 _ h0 gb0
  unfold fK at h0
  try dsimp only at h0
  exact run
 exact run⟩
@[go_sem] def rQ (v38:Int)(s_0:List GNode)(s_1:List GTie)(s_2:Int):(Int × (List GLink))→St
 | (v39,h100016385)=>⟨[(1,.ptr 64 1 0 0),(2,.ptr 128 1 0 0),(4,.ptr 256 1 0 0),(38,.lit (.int .i64 v38)),(39,.lit (.int .i64 v39))],[(64,1,.var [.sl (ab GNode.encS s_0),.sl (ab GTie.enc s_1),.lit (.int .i64 s_2)]),(128,1,.var [.lit (.int .i64 0),.lit (.slice none 0 0)]),(256,1,.var [.lit (.int .i64 v38),.ref 100016385 1 0 h100016385.length]),(100016385,1,.row true (ab GLink.enc h100016385))],2⟩
@[go_sem] def rR (v66:List GTie)(v67:Int)(s_0:List GNode)(s_2 out_0:Int):(Int × (List GLink))→St
 | (v68,h100016385)=>⟨[(1,.ptr 64 1 0 0),(2,.ptr 128 1 0 0),(4,.ptr 256 1 0 0),(66,.sl (ab GTie.enc v66)),(67,.lit (.int .i64 v67)),(68,.lit (.int .i64 v68))],[(64,1,.var [.sl (ab GNode.encS s_0),.sl (ab GTie.enc v66),.lit (.int .i64 s_2)]),(128,1,.var [.lit (.int .i64 0),.lit (.slice none 0 0)]),(256,1,.var [.lit (.int .i64 out_0),.ref 100016385 1 0 h100016385.length]),(100016385,1,.row true (ab GLink.enc h100016385))],2⟩
@[go_sem] def rS (v121:Int)(s_0:List GNode)(s_1:List GTie)(s_2:Int):(Int × (List GLink))→St
 | (v122,h100016385)=>⟨[(1,.ptr 64 1 0 0),(2,.ptr 128 1 0 0),(4,.ptr 256 1 0 0),(121,.lit (.int .i64 v121)),(122,.lit (.int .i64 v122))],[(64,1,.var [.sl (ab GNode.encS s_0),.sl (ab GTie.enc s_1),.lit (.int .i64 s_2)]),(128,1,.var [.lit (.int .i64 0),.lit (.slice none 0 0)]),(256,1,.var [.lit (.int .i64 v121),.ref 100016385 1 0 h100016385.length]),(100016385,1,.row true (ab GLink.enc h100016385))],2⟩
instance k333 {s:GShow}:Ctr (gv s) (fun (res:GSimple × Bool)=>ak prog 333 [.agg (GShow.encS s)] [] (.tup [.agg [.lit (.int .i64 res.1.events),.ref 20000 1 0 res.1.links.length],.lit (.bool res.2)]) [(20000,1,.row true (ab GLink.enc res.1.links))]):=⟨by
 intro res h0
 refine aB (ra:=[.homeCell 128 1]) (md:=mdT) hT (hi:=hi00) func333 rfl rfl (by decide +kernel) (by simp) ?_
 unfold gv at h0
 obtain⟨r01,g0,h0⟩:=af h0
 simp(config:=cS)only[go_sem, *]
 have g0:=ctr g0
 refine aj g0 ?_
 obtain⟨_,h0⟩|⟨_,h0⟩:=itB h0
 ·obtain⟨r02,g0,h0⟩:=af h0
  simp(config:=cS)only[go_sem, *]
  have g0:=ctr g0
  refine aj g0 ?_
  obtain⟨_,h0⟩|⟨_,h0⟩:=itB h0
  ·obtain⟨q12,l0,h0⟩:=af h0
   simp(config:=cS)only[go_sem, *]
   refine ah (m1:=.mk) (m2:=.mk) [.homeCell 256 1,.nf [1,2,4,38,39] [64,128,256,100016385]] (rQ (s.nodes.length:Int) s.nodes s.ties s.horizon) l0 ?_ ?_
   ·simp(config:=cS)only[go_sem, *]
   have k0:=h0
   clear h0 l0
   intro _ s0 _ h0 gb0
   obtain⟨v39_1,h100016385_1⟩:=s0
   unfold cV at h0
   try dsimp only at h0
   obtain⟨_,h0⟩|⟨_,h0⟩:=itP h0
   ·exact run
   cases h0
   obtain rfl:=(aD gb0).symm
   clear gb0
   have h0:=k0
   clear k0
   try dsimp only at h0
   obtain⟨q11,l0,h0⟩:=af h0
   simp(config:=cS)only[go_sem, *]
   refine ah (m1:=.mk) (m2:=.mk) [.nf [1,2,4,66,67,68] [64,128,256,100016385]] (rR s.ties (s.ties.length:Int) s.nodes s.horizon (s.nodes.length:Int)) l0 ?_ ?_
   ·simp(config:=cS)only[go_sem, *]
   have k0:=h0
   clear h0 l0
   intro _ s0 _ h0 gb0
   obtain⟨v68_2,h100016385_2⟩:=s0
   unfold cW at h0
   try dsimp only at h0
   obtain⟨_,h0⟩|⟨_,h0⟩:=itP h0
   ·exact run
   cases h0
   obtain rfl:=(aD gb0).symm
   clear gb0
   have h0:=k0
   clear k0
   try dsimp only at h0
   obtain⟨q10,l0,h0⟩:=af h0
   simp(config:=cS)only[go_sem, *]
   refine ah (m1:=.mk) (m2:=.mk) [.nf [1,2,4,121,122] [64,128,256,100016385]] (rS (s.nodes.length:Int) s.nodes s.ties s.horizon) l0 ?_ ?_
   ·simp(config:=cS)only[go_sem, *]
   have k0:=h0
   clear h0 l0
   intro _ s0 _ h0 gb0
   obtain⟨v122_3,h100016385_3⟩:=s0
   unfold cX at h0
   try dsimp only at h0
   exact run
  exact run
 exact run⟩
@[go_sem] def vq (v11:List GLink)(v12:Int):(Int × (List GEdge) × (List Int))→St
 | (v13,out,from_)=>⟨[(4,.ref 512 1 0 out.length),(5,.ref 576 1 0 from_.length),(11,.sl (ab GLink.enc v11)),(12,.lit (.int .i64 v12)),(13,.lit (.int .i64 v13))],[(512,1,.row true (ab GEdge.enc out)),(576,1,.row true (ab eI from_))],2⟩
instance k247 {s:GSimple}:Ctr (lK s) (fun (res:(List GEdge) × (List Int))=>ak prog 247 [.agg [.lit (.int .i64 s.events),.sl (ab GLink.enc s.links)]] [] (.tup [.ref 20000 1 0 res.1.length,.ref 20001 1 0 res.2.length]) [(20000,1,.row true (ab GEdge.enc res.1)),(20001,1,.row true (ab eI res.2))]):=⟨by
 intro res h0
 refine aB (ra:=[.home 2,.home 3]) (md:=mdT) hT (hi:=hi00) func247 rfl rfl (by decide +kernel) (by simp) ?_
 unfold lK at h0
 obtain⟨q02,l0,h0⟩:=af h0
 simp(config:=cS)only[go_sem, *]
 refine ah (m1:=.mk) (m2:=.mk) [.nf [4,5,11,12,13] [512,576]] (vq s.links (s.links.length:Int)) l0 ?_ ?_
 ·simp(config:=cS)only[go_sem, *]
 have k0:=h0
 clear h0 l0
 intro _ s0 _ h0 gb0
 obtain⟨v13_1,out_1,from__1⟩:=s0
 unfold fL at h0
 try dsimp only at h0
 obtain⟨_,h0⟩|⟨_,h0⟩:=itP h0
 ·obtain⟨x01,_,_,_,h0⟩:=gtI h0
  obtain⟨_,h0⟩|⟨_,h0⟩:=itP h0
  ·exact run
  obtain⟨_,h0⟩:=ckP h0
  obtain⟨_,h0⟩:=ckP h0
  obtain⟨_,h0⟩:=ckP h0
  obtain⟨_,h0⟩:=ckP h0
  obtain⟨_,h0⟩|⟨_,h0⟩:=itP h0
  ·exact run
  obtain⟨a1,h0⟩:=ckP h0
  try simp(config:=cS)only[go_sem]at a1
  obtain⟨a2,h0⟩:=ckP h0
  try simp(config:=cS)only[go_sem]at a2
  obtain⟨a3,h0⟩:=ckP h0
  try simp(config:=cS)only[go_sem]at a3
  obtain⟨a4,h0⟩:=ckP h0
  try simp(config:=cS)only[go_sem]at a4
  exact run
 exact run⟩
instance k163 {s:GSimple}:Ctr (kA s) (fun (res:GGraph)=>ak prog 163 [.agg [.lit (.int .i64 s.events),.sl (ab GLink.enc s.links)]] [] (.agg [.lit (.int .i64 res.nodes),.ref 20000 1 0 res.edges.length]) [(20000,1,.row true (ab GEdge.enc res.edges))]):=⟨by
 intro res h0
 refine aB (ra:=[.homeCell 128 1]) (md:=mdT) hT (hi:=hi00) func163 rfl rfl (by decide +kernel) (by simp) ?_
 unfold kA at h0
 exact run⟩
@[go_sem] def wy (v16:List GEdge)(v17 g_0 v18:Int):St:=⟨[(1,.ptr 64 1 0 0),(16,.sl (ab GEdge.enc v16)),(17,.lit (.int .i64 v17)),(18,.lit (.int .i64 v18))],[(64,1,.var [.lit (.int .i64 g_0),.sl (ab GEdge.enc v16)])],2⟩
instance k245 {g:GGraph}:Ctr (iO g) (fun (res:Bool)=>ak prog 245 [.agg [.lit (.int .i64 g.nodes),.sl (ab GEdge.enc g.edges)]] [] (.lit (.bool res)) []):=⟨by
 intro res h0
 refine co (hi:=hi00) func245 rfl rfl ?_
 unfold iO at h0
 obtain⟨r01,g0,h0⟩:=af h0
 simp(config:=cS)only[go_sem, *]
 have g0:=ctr g0
 refine aj g0 ?_
 obtain⟨_,h0⟩|⟨_,h0⟩:=itB h0
 ·obtain⟨_,h0⟩|⟨_,h0⟩:=itP h0
  ·exact run
  obtain⟨q06,l0,h0⟩:=af h0
  simp(config:=cS)only[go_sem, *]
  refine ah (m1:=.mk) (m2:=.mk) [.nf [1,16,17,18] [64]] (wy g.edges (g.edges.length:Int) g.nodes) l0 ?_ ?_
  ·simp(config:=cS)only[go_sem, *]
  have k0:=h0
  clear h0 l0
  intro _ v18_1 _ h0 gb0
  unfold gT at h0
  try dsimp only at h0
  exact run
 exact run⟩
@[go_sem] def vt (zb0 zb1 zb2:Bool)(v13:List GEdge)(v14:Int):(Int × Int × (List Int) × (List Int) × (List Bool))→St
 | (changed,v15,d,last,known)=>⟨[(1,.ref 10000 0 0 d.length),(2,.ref 10001 0 0 last.length),(3,.ref 10002 0 0 known.length),(9,.lit (.int .i64 changed)),(13,.sl (ab GEdge.enc v13)),(14,.lit (.int .i64 v14)),(15,.lit (.int .i64 v15))],[(10000,0,.row zb0 (ab eI d)),(10001,0,.row zb1 (ab eI last)),(10002,0,.row zb2 (ab eB known))],2⟩
@[go_sem] def hi246_6:DT:=.r2 0 13 .nil
@[go_sem] def hi246_5:DT:=.r2 0 29 .nil
def Ea:Hint where
 acts:=fun _=>[]
 draws:=fun
  | 5=>⟨hi246_5,[[],[],[1],[0,1,2],[0,1,2,3],.range 5,.range 6,.range 6,[0,1,2,3,4,5,7],.range 9,.range 10,.range 11,.range 12,.range 13,.range 13,[0,1,2,3,4,5,6,7,8,9,10,11,12,14],.range 16,.range 17,.range 13,[0,1,2,3,4,5,6,7,8,9,10,11,12,18],.range 20,.range 13,.range 13,[0,1,2,3,4,5,6,7,8,9,10,11,12,22],[0,1,2,3,4,5,6,7,8,9,10,11,12,21,22,23],[0,1,2,3,4,5,6,7,8,9,10,11,12,21,22,23,24],.range 26,.range 27,.range 28],.range 29⟩
  | 6=>⟨hi246_6,[[],[],[1],[],[],[4],[3,4,5],[3,4,5,6],[],[8],[3,4,5,6,7,8,9],.range 11,.range 12],.range 13⟩
  | _=>⟨.nil,[],[]⟩
theorem UO (i:Nat):Ea.acts i=[]:=rfl
theorem UP (i:Nat):Ea.views i=none:=rfl
attribute[go_sem] UO UP ntmps246 results246
@[go_sem] theorem Zg:(Ea.draws 5).order=hi246_5:=rfl
@[go_sem] theorem Zh:(Ea.draws 6).order=hi246_6:=rfl
theorem un {g:GGraph}{d last:List Int}{known:List Bool}{zb0 zb1 zb2:Bool}{res:Int × (List Int) × (List Int) × (List Bool)}(h0:jD g d last known=some res):ak prog 246 [.agg [.lit (.int .i64 g.nodes),.sl (ab GEdge.enc g.edges)],.ref 10000 0 0 d.length,.ref 10001 0 0 last.length,.ref 10002 0 0 known.length] [(10000,0,.row zb0 (ab eI d)),(10001,0,.row zb1 (ab eI last)),(10002,0,.row zb2 (ab eB known))] (.lit (.int .i64 res.1)) [(10000,0,.row zb0 (ab eI res.2.1)),(10001,0,.row zb1 (ab eI res.2.2.1)),(10002,0,.row zb2 (ab eB res.2.2.2))]:=by
 refine co (hi:=Ea) func246 rfl rfl ?_
 unfold jD at h0
 obtain⟨q10,l0,h0⟩:=af h0
 simp(config:=cS)only[go_sem, *]
 refine ah (m1:=.mk) (m2:=.mk) [.nf [1,2,3,9,13,14,15] [10000,10001,10002]] (vt zb0 zb1 zb2 g.edges (g.edges.length:Int)) l0 ?_ ?_
 ·simp(config:=cS)only[go_sem, *]
 have k0:=h0
 clear h0 l0
 intro _ s0 _ h0 gb0
 obtain⟨changed_1,v15_1,d_1,last_1,known_1⟩:=s0
 unfold jj at h0
 try dsimp only at h0
 exact run
@[go_sem] def rU (v31 g_0:Int)(g_1:List GEdge)(d:List Int):(Int × (List Int) × (List Bool))→St
 | (v32,last,known)=>⟨[(1,.ptr 64 1 0 0),(3,.ref 1472 1 0 d.length),(4,.ref 1664 1 0 last.length),(5,.ref 1856 1 0 known.length),(31,.lit (.int .i64 v31)),(32,.lit (.int .i64 v32))],[(64,1,.var [.lit (.int .i64 g_0),.sl (ab GEdge.enc g_1)]),(1472,1,.row true (ab eI d)),(1664,1,.row true (ab eI last)),(1856,1,.row true (ab eB known))],2⟩
@[go_sem] def rV (g_0:Int)(g_1:List GEdge):(Int × Int × (List Int) × (List Int) × (List Bool))→St
 | (changed,i,d,last,known)=>⟨[(1,.ptr 64 1 0 0),(3,.ref 1472 1 0 d.length),(4,.ref 1664 1 0 last.length),(5,.ref 1856 1 0 known.length),(7,.lit (.int .i64 changed)),(8,.lit (.int .i64 i))],[(64,1,.var [.lit (.int .i64 g_0),.sl (ab GEdge.enc g_1)]),(1472,1,.row true (ab eI d)),(1664,1,.row true (ab eI last)),(1856,1,.row true (ab eB known))],2⟩
@[go_sem] def rW (g_0:Int)(g_1:List GEdge)(last:List Int):(Int × Int)→St
 | (at_,i)=>⟨[(1,.ptr 64 1 0 0),(4,.ref 1664 1 0 last.length),(9,.lit (.int .i64 at_)),(10,.lit (.int .i64 i))],[(64,1,.var [.lit (.int .i64 g_0),.sl (ab GEdge.enc g_1)]),(1664,1,.row true (ab eI last))],2⟩
@[go_sem] def rX (at_ g_0:Int)(g_1:List GEdge)(last:List Int):(Int × (List Int))→St
 | (k,out)=>⟨[(1,.ptr 64 1 0 0),(4,.ref 1664 1 0 last.length),(9,.lit (.int .i64 at_)),(11,.ref 4864 1 0 out.length),(12,.lit (.int .i64 k))],[(64,1,.var [.lit (.int .i64 g_0),.sl (ab GEdge.enc g_1)]),(1664,1,.row true (ab eI last)),(4864,1,.row true (ab eI out))],2⟩
@[go_sem] def hi162_28:DT:=.r2 0 10 .nil
@[go_sem] def hi162_23:DT:=.r2 0 10 .nil
def Eb:Hint where
 acts:=fun _=>[]
 draws:=fun
  | 23=>⟨hi162_23,[[],[0],[],[],[2,3],[2,3,4],.range 6,.range 7,.range 8,.range 9],.range 10⟩
  | 28=>⟨hi162_28,[[],[0],[],[],[2,3],[2,3,4],.range 6,.range 7,.range 8,.range 9],.range 10⟩
  | _=>⟨.nil,[],[]⟩
theorem UQ (i:Nat):Eb.acts i=[]:=rfl
theorem UR (i:Nat):Eb.views i=none:=rfl
attribute[go_sem] UQ UR ntmps162 results162
@[go_sem] theorem Yd:(Eb.draws 23).order=hi162_23:=rfl
@[go_sem] theorem Ye:(Eb.draws 28).order=hi162_28:=rfl
instance k162 {g:GGraph}:Ctr (gw g) (fun (res:List Int)=>ak prog 162 [.agg [.lit (.int .i64 g.nodes),.sl (ab GEdge.enc g.edges)]] [] (.ref 20000 1 0 res.length) [(20000,1,.row true (ab eI res))]):=⟨by
 intro res h0
 refine aB (ra:=[.home 2]) (md:=mdT) hT (hi:=Eb) func162 rfl rfl (by decide +kernel) (by simp) ?_
 unfold gw at h0
 obtain⟨r01,g0,h0⟩:=af h0
 simp(config:=cS)only[go_sem, *]
 have g0:=ctr g0
 refine aj g0 ?_
 obtain⟨_,h0⟩|⟨_,h0⟩:=itB h0
 ·obtain⟨_,h0⟩|⟨_,h0⟩:=itP h0
  ·exact run
  obtain⟨_,h0⟩:=ckP h0
  obtain⟨_,h0⟩:=ckP h0
  obtain⟨_,h0⟩:=ckP h0
  obtain⟨_,h0⟩:=ckP h0
  obtain⟨q15,l0,h0⟩:=af h0
  simp(config:=cS)only[go_sem, *]
  refine ah (m1:=.mk) (m2:=.mk) [.nf [1,3,4,5,31,32] [64,1472,1664,1856]] (rU ((g.nodes.toNat:Nat):Int) g.nodes g.edges (List.replicate g.nodes.toNat 0)) l0 ?_ ?_
  ·simp(config:=cS)only[go_sem, *]
  have k0:=h0
  clear h0 l0
  intro _ s0 _ h0 gb0
  obtain⟨v32_1,last_1,known_1⟩:=s0
  unfold cY at h0
  try dsimp only at h0
  obtain⟨_,h0⟩|⟨_,h0⟩:=itP h0
  ·exact run
  cases h0
  obtain rfl:=(aD gb0).symm
  clear gb0
  have h0:=k0
  clear k0
  try dsimp only at h0
  obtain⟨q14,l0,h0⟩:=af h0
  simp(config:=cS)only[go_sem, *]
  refine ah (m1:=.mk) (m2:=.mk) [.nf [1,3,4,5,7,8] [64,1472,1664,1856]] (rV g.nodes g.edges) l0 ?_ ?_
  ·simp(config:=cS)only[go_sem, *]
  have k0:=h0
  clear h0 l0
  intro _ s0 _ h0 gb0
  obtain⟨changed_2,i_2,d_2,last_2,known_2⟩:=s0
  unfold cZ at h0
  try dsimp only at h0
  obtain⟨_,h0⟩|⟨_,h0⟩:=itP h0
  ·obtain⟨r04,g0,h0⟩:=af h0
   simp(config:=cS)only[go_sem, *]
   refine aj (un g0) ?_
   exact run
  cases h0
  obtain rfl:=(aD gb0).symm
  clear gb0
  have h0:=k0
  clear k0
  try dsimp only at h0
  obtain⟨_,h0⟩|⟨_,h0⟩:=itP h0
  ·exact run
  obtain⟨x05,_,_,_,h0⟩:=gtI h0
  obtain⟨q13,l0,h0⟩:=af h0
  simp(config:=cS)only[go_sem, *]
  refine ah (m1:=.mk) (m2:=.mk) [.nf [1,4,9,10] [64,1664]] (rW g.nodes g.edges last_2) l0 ?_ ?_
  ·simp(config:=cS)only[go_sem, *]
  have k0:=h0
  clear h0 l0
  intro _ s0 _ h0 gb0
  obtain⟨at__3,i_3⟩:=s0
  unfold da at h0
  try dsimp only at h0
  obtain⟨_,h0⟩|⟨_,h0⟩:=itP h0
  ·exact run
  cases h0
  obtain rfl:=(aD gb0).symm
  clear gb0
  have h0:=k0
  clear k0
  try dsimp only at h0
  obtain⟨q12,l0,h0⟩:=af h0
  simp(config:=cS)only[go_sem, *]
  refine ah (m1:=.mk) (m2:=.mk) [.nfp [1,4,9,11,12] [(64,64),(1664,1664),(5760,4864),(4864,4864)] []] (rX at__3 g.nodes g.edges last_2) l0 ?_ ?_
  ·simp(config:=cS)only[go_sem, *]
  have k0:=h0
  clear h0 l0
  intro _ s0 _ h0 gb0
  obtain⟨k_4,out_4⟩:=s0
  unfold db at h0
  try dsimp only at h0
  exact run
 exact run⟩
instance k61 {s:GSimple}:Ctr (eV s) (fun (res:Bool)=>ak prog 61 [.agg [.lit (.int .i64 s.events),.sl (ab GLink.enc s.links)]] [] (.lit (.bool res)) []):=⟨by
 intro res h0
 refine co (hi:=hi00) func61 rfl rfl ?_
 unfold eV at h0
 exact run⟩
@[go_sem] def sB (v47:Int)(known:List Bool):(Int × (List Int))→St
 | (v48,d)=>⟨[(6,.ref 1536 1 0 d.length),(8,.ref 1920 1 0 known.length),(47,.lit (.int .i64 v47)),(48,.lit (.int .i64 v48))],[(1536,1,.row true (ab eI d)),(1920,1,.row true (ab eB known))],2⟩
@[go_sem] def sC (g_0:Int)(g_1:List GEdge):(Int × (List Int) × (List Int) × (List Bool))→St
 | (i,d,last,known)=>⟨[(2,.ptr 128 1 0 0),(6,.ref 1536 1 0 d.length),(7,.ref 1728 1 0 last.length),(8,.ref 1920 1 0 known.length),(9,.lit (.int .i64 i))],[(128,1,.var [.lit (.int .i64 g_0),.sl (ab GEdge.enc g_1)]),(1536,1,.row true (ab eI d)),(1728,1,.row true (ab eI last)),(1920,1,.row true (ab eB known))],2⟩
instance k248 {g:GGraph} {source:Int}:Ctr (eW g source) (fun (res:(List Int) × Bool)=>ak prog 248 [.agg [.lit (.int .i64 g.nodes),.sl (ab GEdge.enc g.edges)],.lit (.int .i64 source)] [] (.tup [.ref 20000 1 0 res.1.length,.lit (.bool res.2)]) [(20000,1,.row true (ab eI res.1))]):=⟨by
 intro res h0
 refine aB (ra:=[.home 4]) (md:=mdT) hT (hi:=hi00) func248 rfl rfl (by decide +kernel) (by simp) ?_
 unfold eW at h0
 obtain⟨r01,g0,h0⟩:=af h0
 simp(config:=cS)only[go_sem, *]
 have g0:=ctr g0
 refine aj g0 ?_
 obtain⟨_,h0⟩|⟨_,h0⟩:=itB h0
 ·obtain⟨r02,g0,h0⟩:=af h0
  simp(config:=cS)only[go_sem, *]
  have g0:=ctr g0
  refine aj g0 ?_
  obtain⟨_,h0⟩|⟨_,h0⟩:=itB h0
  ·obtain⟨_,h0⟩:=ckP h0
   obtain⟨_,h0⟩:=ckP h0
   obtain⟨_,h0⟩:=ckP h0
   obtain⟨_,h0⟩:=ckP h0
   obtain⟨x03,_,_,_,h0⟩:=gtI h0
   obtain⟨q09,l0,h0⟩:=af h0
   simp(config:=cS)only[go_sem, *]
   refine ah (m1:=.mk) (m2:=.mk) [.nf [2,6,7,8,9] [128,1536,1728,1920]] (sC g.nodes g.edges) l0 ?_ ?_
   ·simp(config:=cS)only[go_sem, *]
   have k0:=h0
   clear h0 l0
   intro _ s0 _ h0 gb0
   obtain⟨i_1,d_1,last_1,known_1⟩:=s0
   unfold bR at h0
   try dsimp only at h0
   obtain⟨_,h0⟩|⟨_,h0⟩:=itP h0
   ·obtain⟨r04,g0,h0⟩:=af h0
    simp(config:=cS)only[go_sem, *]
    refine aj (un g0) ?_
    obtain⟨_,h0⟩:=ckL h0
    obtain⟨_,h0⟩:=ckL h0
    obtain⟨_,h0⟩:=ckL h0
    obtain⟨_,h0⟩|⟨_,h0⟩:=itP h0
    ·obtain⟨q08,l0,h0⟩:=af h0
     simp(config:=cS)only[go_sem, *]
     refine ah (m1:=.mk) (m2:=.mk) [.nf [6,8,47,48] [1536,1920]] (sB (r04.2.1.length:Int) r04.2.2.2) l0 ?_ ?_
     ·simp(config:=cS)only[go_sem, *]
     have k0:=h0
     clear h0 l0
     intro _ s0 _ h0 gb0
     obtain⟨v48_2,d_2⟩:=s0
     unfold dw at h0
     try dsimp only at h0
     exact run
    exact run
   exact run
  exact run
 exact run⟩
instance k249 {n:Int}:Ctr (eG n) (fun (res:Int)=>ak prog 249 [.lit (.int .i64 n)] [] (.lit (.int .i64 res)) []):=⟨by
 intro res h0
 refine co (hi:=hi00) func249 rfl rfl ?_
 unfold eG at h0
 exact run⟩
@[go_sem] def tR (i v33 g_0:Int)(g_1:List GEdge)(v32:List Int):(Int × (List Int))→St
 | (v34,h100016385)=>⟨[(1,.ptr 64 1 0 0),(2,.ptr 128 1 0 0),(4,.ptr 256 1 0 0),(5,.lit (.int .i64 i)),(32,.ref 1664 1 0 v32.length),(33,.lit (.int .i64 v33)),(34,.lit (.int .i64 v34))],[(64,1,.var [.lit (.int .i64 g_0),.sl (ab GEdge.enc g_1)]),(128,1,.var [.lit (.int .i64 0),.lit (.slice none 0 0)]),(256,1,.var [.lit (.int .i64 g_0),.ref 100016385 1 0 h100016385.length]),(100016385,1,.row true (ab eI h100016385)),(1664,1,.row true (ab eI v32))],2⟩
@[go_sem] def tS (g_0:Int)(g_1:List GEdge):(Int × (List Int))→St
 | (i,h100016385)=>⟨[(1,.ptr 64 1 0 0),(2,.ptr 128 1 0 0),(4,.ptr 256 1 0 0),(5,.lit (.int .i64 i))],[(64,1,.var [.lit (.int .i64 g_0),.sl (ab GEdge.enc g_1)]),(128,1,.var [.lit (.int .i64 0),.lit (.slice none 0 0)]),(256,1,.var [.lit (.int .i64 g_0),.ref 100016385 1 0 h100016385.length]),(100016385,1,.row true (ab eI h100016385))],2⟩
@[go_sem] def hi165_13:DT:=.i1 0 (.i1 1 (.i2 2 (.i0 3 [0,1] (.i0 4 [0,1] (.r2 5 3 .nil)))))
def Ia:Hint where
 acts:=fun _=>[]
 draws:=fun
  | 13=>⟨hi165_13,[[],[0],[],[2],[2,3],.range 5,.range 6,.range 7],.range 8⟩
  | _=>⟨.nil,[],[]⟩
theorem US (i:Nat):Ia.acts i=[]:=rfl
theorem UT (i:Nat):Ia.views i=none:=rfl
attribute[go_sem] US UT ntmps165 results165
@[go_sem] theorem Yf:(Ia.draws 13).order=hi165_13:=rfl
instance k165 {g:GGraph}:Ctr (eH g) (fun (res:aw × Bool)=>ak prog 165 [.agg [.lit (.int .i64 g.nodes),.sl (ab GEdge.enc g.edges)]] [] (.tup [.agg [.lit (.int .i64 res.1.size),.ref 20000 1 0 res.1.cells.length],.lit (.bool res.2)]) [(20000,1,.row true (ab eI res.1.cells))]):=⟨by
 intro res h0
 refine aB (ra:=[.homeCell 128 1]) (md:=mdT) hT (hi:=Ia) func165 rfl rfl (by decide +kernel) (by simp) ?_
 unfold eH at h0
 obtain⟨r01,g0,h0⟩:=af h0
 simp(config:=cS)only[go_sem, *]
 have g0:=ctr g0
 refine aj g0 ?_
 obtain⟨_,h0⟩|⟨_,h0⟩:=itB h0
 ·obtain⟨q06,l0,h0⟩:=af h0
  simp(config:=cS)only[go_sem, *]
  refine ah (m1:=.mk) (m2:=.mk) [.homeCell 256 1,.nf [1,2,4,5] [64,128,256,100016385]] (tS g.nodes g.edges) l0 ?_ ?_
  ·simp(config:=cS)only[go_sem, *]
  have k0:=h0
  clear h0 l0
  intro _ s0 _ h0 gb0
  obtain⟨i_1,h100016385_1⟩:=s0
  unfold di at h0
  try dsimp only at h0
  obtain⟨_,h0⟩|⟨_,h0⟩:=itP h0
  ·obtain⟨r02,g0,h0⟩:=af h0
   simp(config:=cS)only[go_sem, *]
   have g0:=ctr g0
   refine aj g0 ?_
   obtain⟨_,h0⟩|⟨_,h0⟩:=itB h0
   ·obtain⟨q05,l0,h0⟩:=af h0
    simp(config:=cS)only[go_sem, *]
    refine ah (m1:=.mk) (m2:=.mk) [.homeCell 256 1,.nf [1,2,4,5,32,33,34] [64,128,256,100016385,1664]] (tR i_1 (r02.1.length:Int) g.nodes g.edges r02.1) l0 ?_ ?_
    ·simp(config:=cS)only[go_sem, *]
    have k0:=h0
    clear h0 l0
    intro _ s0 _ h0 gb0
    obtain⟨v34_2,h100016385_2⟩:=s0
    unfold dh at h0
    try dsimp only at h0
    exact run
   exact run
  exact run
 exact run⟩
@[go_sem] def wz (v21:List Int)(v22 t_0 v23:Int):St:=⟨[(1,.ptr 64 1 0 0),(21,.sl (ab eI v21)),(22,.lit (.int .i64 v22)),(23,.lit (.int .i64 v23))],[(64,1,.var [.lit (.int .i64 t_0),.sl (ab eI v21)])],2⟩
instance k250 {t:aw}:Ctr (mI t) (fun (res:Bool)=>ak prog 250 [.agg [.lit (.int .i64 t.size),.sl (ab eI t.cells)]] [] (.lit (.bool res)) []):=⟨by
 intro res h0
 refine co (hi:=hi00) func250 rfl rfl ?_
 unfold mI at h0
 obtain⟨r01,g0,h0⟩:=af h0
 simp(config:=cS)only[go_sem, *]
 have g0:=ctr g0
 refine aj g0 ?_
 obtain⟨_,h0⟩|⟨_,h0⟩:=itB h0
 ·obtain⟨_,h0⟩|⟨_,h0⟩:=itP h0
  ·obtain⟨q04,l0,h0⟩:=af h0
   simp(config:=cS)only[go_sem, *]
   refine ah (m1:=.mk) (m2:=.mk) [.nf [1,21,22,23] [64]] (wz t.cells (t.cells.length:Int) t.size) l0 ?_ ?_
   ·simp(config:=cS)only[go_sem, *]
   have k0:=h0
   clear h0 l0
   intro _ v23_1 _ h0 gb0
   unfold gU at h0
   try dsimp only at h0
   exact run
  exact run
 exact run⟩
instance k251 {t:aw} {i:Int} {k:Int}:Ctr (oI t i k) (fun (res:Int)=>ak prog 251 [.agg [.lit (.int .i64 t.size),.sl (ab eI t.cells)],.lit (.int .i64 i),.lit (.int .i64 k)] [] (.lit (.int .i64 res)) []):=⟨by
 intro res h0
 refine co (hi:=hi00) func251 rfl rfl ?_
 unfold oI at h0
 exact run⟩
@[go_sem] def hi166_3:DT:=.i1 0 (.i2 1 (.i2 2 (.i1 5 (.i2 6 (.i2 7 (.fork (.i0 3 [5] (.i2 4 (.fork (.i2 8 (.i2 9 (.i0 10 [0,5] (.i2 11 .nil)))) (.i0 10 [0,5] (.i2 8 (.i2 9 (.i2 11 .nil))))))) (.i0 10 [0,5] (.i0 3 [5] (.i2 4 (.i2 8 (.i2 9 (.i2 11 .nil))))))))))))
def Ib:Hint where
 acts:=fun _=>[]
 draws:=fun
  | 3=>⟨hi166_3,[[],[],[],[0,1,2],[0,1,2,3],[],[],[],[0,1,2,3,5,6,7],.range 9,[],.range 11],.range 12⟩
  | _=>⟨.nil,[],[]⟩
theorem UU (i:Nat):Ib.acts i=[]:=rfl
theorem UV (i:Nat):Ib.views i=none:=rfl
attribute[go_sem] UU UV ntmps166 results166
@[go_sem] theorem Zi:(Ib.draws 3).order=hi166_3:=rfl
instance k166 {t:aw} {i:Int} {k:Int}:Ctr (ct t i k) (fun (res:am × Bool)=>ak prog 166 [.agg [.lit (.int .i64 t.size),.sl (ab eI t.cells)],.lit (.int .i64 i),.lit (.int .i64 k)] [] (.tup [.agg [.lit (.int .i64 res.1.low),.lit (.int .i64 res.1.high)],.lit (.bool res.2)]) []):=⟨by
 intro res h0
 refine co (hi:=Ib) func166 rfl rfl ?_
 unfold ct at h0
 obtain⟨r01,g0,h0⟩:=af h0
 simp(config:=cS)only[go_sem, *]
 have g0:=ctr g0
 refine aj g0 ?_
 obtain⟨_,h0⟩|⟨_,h0⟩:=itB h0
 ·obtain⟨r02,g0,h0⟩:=af h0
  simp(config:=cS)only[go_sem, *]
  have g0:=ctr g0
  refine aj g0 ?_
  obtain⟨_,h0⟩|⟨_,h0⟩:=itB h0
  ·obtain⟨r03,g0,h0⟩:=af h0
   simp(config:=cS)only[go_sem, *]
   have g0:=ctr g0
   refine aj g0 ?_
   obtain⟨_,h0⟩|⟨_,h0⟩:=itB h0
   ·try simp(config:=cS)only[go_sem, *]
    refine gp ?_ ?_
    ·obtain⟨r04,g0,h0⟩:=af h0
     simp(config:=cS)only[go_sem, *]
     have g0:=ctr g0
     refine aj g0 ?_
     try simp(config:=cS)only[go_sem, *]
     refine gp ?_ ?_
     ·exact run
     exact run
    exact run
   exact run
  exact run
 exact run⟩
instance k63 {s:GSimple} {event:Int}:Ctr (eP s event) (fun (res:am × Bool)=>ak prog 63 [.agg [.lit (.int .i64 s.events),.sl (ab GLink.enc s.links)],.lit (.int .i64 event)] [] (.tup [.agg [.lit (.int .i64 res.1.low),.lit (.int .i64 res.1.high)],.lit (.bool res.2)]) []):=⟨by
 intro res h0
 refine co (hi:=hi00) func63 rfl rfl ?_
 unfold eP at h0
 exact run⟩
@[go_sem] def rY (s_0:Int)(s_1:List GLink):(Int × (List Int))→St
 | (i,out)=>⟨[(1,.ptr 64 1 0 0),(4,.ref 512 1 0 out.length),(5,.lit (.int .i64 i))],[(64,1,.var [.lit (.int .i64 s_0),.sl (ab GLink.enc s_1)]),(512,1,.row true (ab eI out))],2⟩
instance k334 {s:GSimple}:Ctr (gx s) (fun (res:(List Int) × Bool)=>ak prog 334 [.agg [.lit (.int .i64 s.events),.sl (ab GLink.enc s.links)]] [] (.tup [.ref 20000 1 0 res.1.length,.lit (.bool res.2)]) [(20000,1,.row true (ab eI res.1))]):=⟨by
 intro res h0
 refine aB (ra:=[.home 2]) (md:=mdT) hT (hi:=hi00) func334 rfl rfl (by decide +kernel) (by simp) ?_
 unfold gx at h0
 obtain⟨q02,l0,h0⟩:=af h0
 simp(config:=cS)only[go_sem, *]
 refine ah (m1:=.mk) (m2:=.mk) [.nf [1,4,5] [64,512]] (rY s.events s.links) l0 ?_ ?_
 ·simp(config:=cS)only[go_sem, *]
 have k0:=h0
 clear h0 l0
 intro _ s0 _ h0 gb0
 obtain⟨i_1,out_1⟩:=s0
 unfold bf at h0
 try dsimp only at h0
 exact run⟩
@[go_sem] def tj (v24:Int)(s_0:List GNode)(s_1:List GTie)(s_2:Int):(Int × (List Int))→St
 | (v25,t)=>⟨[(1,.ptr 64 1 0 0),(6,.ref 1152 1 0 t.length),(24,.lit (.int .i64 v24)),(25,.lit (.int .i64 v25))],[(64,1,.var [.sl (ab GNode.encS s_0),.sl (ab GTie.enc s_1),.lit (.int .i64 s_2)]),(1152,1,.row true (ab eI t))],2⟩
instance k299 {s:GShow}:Ctr (jk s) (fun (res:(List Int) × Bool)=>ak prog 299 [.agg (GShow.encS s)] [] (.tup [.ref 20000 1 0 res.1.length,.lit (.bool res.2)]) [(20000,1,.row true (ab eI res.1))]):=⟨by
 intro res h0
 refine aB (ra:=[.home 2]) (md:=mdT) hT (hi:=hi00) func299 rfl rfl (by decide +kernel) (by simp) ?_
 unfold jk at h0
 obtain⟨r01,g0,h0⟩:=af h0
 simp(config:=cS)only[go_sem, *]
 have g0:=ctr g0
 refine aj g0 ?_
 obtain⟨_,h0⟩|⟨_,h0⟩:=itB h0
 ·obtain⟨r02,g0,h0⟩:=af h0
  simp(config:=cS)only[go_sem, *]
  have g0:=ctr g0
  refine aj g0 ?_
  obtain⟨_,h0⟩|⟨_,h0⟩:=itB h0
  ·obtain⟨q05,l0,h0⟩:=af h0
   simp(config:=cS)only[go_sem, *]
   refine ah (m1:=.mk) (m2:=.mk) [.nf [1,6,24,25] [64,1152]] (tj (r02.1.length:Int) s.nodes s.ties s.horizon) l0 ?_ ?_
   ·simp(config:=cS)only[go_sem, *]
   have k0:=h0
   clear h0 l0
   intro _ s0 _ h0 gb0
   obtain⟨v25_1,t_1⟩:=s0
   unfold ca at h0
   try dsimp only at h0
   exact run
  exact run
 exact run⟩
instance k237 {s:GShow}:Ctr (lL s) (fun (res:Bool)=>ak prog 237 [.agg (GShow.encS s)] [] (.lit (.bool res)) []):=⟨by
 intro res h0
 refine co (hi:=hi00) func237 rfl rfl ?_
 unfold lL at h0
 exact run⟩
@[go_sem] def tT (v14:Int)(h640:List Int):(Int × (List Int))→St
 | (v15,h100012289)=>⟨[(2,.ptr 128 1 0 0),(3,.ptr 192 1 0 0),(14,.lit (.int .i64 v14)),(15,.lit (.int .i64 v15))],[(128,1,.var [.lit (.int .i64 0),.lit (.slice none 0 0),.lit (.slice none 0 0)]),(192,1,.var [.lit (.int .i64 0),.ref 100012289 1 0 h100012289.length,.ref 640 1 0 h640.length]),(100012289,1,.row true (ab eI h100012289)),(640,1,.row true (ab eI h640))],2⟩
instance k301 {s:GShow}:Ctr (jN s) (fun (res:GState)=>ak prog 301 [.agg (GShow.encS s)] [] (.agg [.lit (.int .i64 res.now),.ref 20000 1 0 res.times.length,.ref 20001 1 0 res.values.length]) [(20000,1,.row true (ab eI res.times)),(20001,1,.row true (ab eI res.values))]):=⟨by
 intro res h0
 refine aB (ra:=[.homeCell 128 1,.homeCell 128 2]) (md:=mdT) hT (hi:=hi00) func301 rfl rfl (by decide +kernel) (by simp) ?_
 unfold jN at h0
 obtain⟨r01,g0,h0⟩:=af h0
 simp(config:=cS)only[go_sem, *]
 have g0:=ctr g0
 refine aj g0 ?_
 obtain⟨_,h0⟩|⟨_,h0⟩:=itB h0
 ·obtain⟨q02,l0,h0⟩:=af h0
  simp(config:=cS)only[go_sem, *]
  refine ah (m1:=.mk) (m2:=.mk) [.homeCell 192 1,.nf [2,3,14,15] [128,192,100012289,640]] (tT (s.nodes.length:Int) (List.replicate 3 0)) l0 ?_ ?_
  ·simp(config:=cS)only[go_sem, *]
  have k0:=h0
  clear h0 l0
  intro _ s0 _ h0 gb0
  obtain⟨v15_1,h100012289_1⟩:=s0
  unfold eo at h0
  try dsimp only at h0
  exact run
 exact run⟩
@[go_sem] def vu (v v9:List Int)(v10:Int):(Int × Int)→St
 | (out,v11)=>⟨[(1,.sl (ab eI v)),(5,.lit (.int .i64 out)),(9,.sl (ab eI v9)),(10,.lit (.int .i64 v10)),(11,.lit (.int .i64 v11))],[],2⟩
instance k157 {l:List Int} {v:List Int}:Ctr (bW l v) (fun (res:Int)=>ak prog 157 [.sl (ab eI l),.sl (ab eI v)] [] (.lit (.int .i64 res)) []):=⟨by
 intro res h0
 refine co (hi:=hi00) func157 rfl rfl ?_
 unfold bW at h0
 obtain⟨q04,l0,h0⟩:=af h0
 simp(config:=cS)only[go_sem, *]
 refine ah (m1:=.mk) (m2:=.mk) [.nf [1,5,9,10,11] []] (vu v l (l.length:Int)) l0 ?_ ?_
 ·simp(config:=cS)only[go_sem, *]
 have k0:=h0
 clear h0 l0
 intro _ s0 _ h0 gb0
 obtain⟨out_1,v11_1⟩:=s0
 unfold jl at h0
 try dsimp only at h0
 exact run⟩
@[go_sem] def hi360_10:DT:=.r2 0 21 .nil
@[go_sem] def hi360_8:DT:=.r2 0 21 .nil
def Ec:Hint where
 acts:=fun _=>[]
 draws:=fun
  | 8=>⟨hi360_8,[[],[0],[],[2],[0,1,2,3],.range 5,.range 6,[],[7],.range 9,.range 10,.range 11,.range 12,.range 13,.range 12,.range 15,.range 12,[0,1,2,3,4,5,6,7,8,9,10,11,16],.range 18,.range 19,.range 20],.range 21⟩
  | 10=>⟨hi360_10,[[],[0],[],[2],[0,1,2,3],.range 5,.range 6,[],[7],.range 9,.range 10,.range 11,.range 12,.range 12,[0,1,2,3,4,5,6,7,8,9,10,11,13],.range 15,.range 12,[0,1,2,3,4,5,6,7,8,9,10,11,16],.range 18,.range 19,.range 20],.range 21⟩
  | _=>⟨.nil,[],[]⟩
theorem UW (i:Nat):Ec.acts i=[]:=rfl
theorem UX (i:Nat):Ec.views i=none:=rfl
attribute[go_sem] UW UX ntmps360 results360
@[go_sem] theorem Zj:(Ec.draws 8).order=hi360_8:=rfl
@[go_sem] theorem Yg:(Ec.draws 10).order=hi360_10:=rfl
instance k360 {s:GShow} {v1:GState} {t:GTie}:Ctr (mJ s v1 t) (fun (res:Bool)=>ak prog 360 [.agg (GShow.encS s),.agg (GState.encS v1),.agg (GTie.enc t)] [] (.lit (.bool res)) []):=⟨by
 intro res h0
 refine co (hi:=Ec) func360 rfl rfl ?_
 unfold mJ at h0
 exact run⟩
@[go_sem] def uH (v10:List GTie)(v11:Int)(s_0:List GNode)(s_2 v3_0:Int)(v3_1 v3_2:List Int)(v12:Int):St:=⟨[(2,.ptr 128 1 0 0),(3,.ptr 192 1 0 0),(10,.sl (ab GTie.enc v10)),(11,.lit (.int .i64 v11)),(12,.lit (.int .i64 v12))],[(128,1,.var [.sl (ab GNode.encS s_0),.sl (ab GTie.enc v10),.lit (.int .i64 s_2)]),(192,1,.var [.lit (.int .i64 v3_0),.sl (ab eI v3_1),.sl (ab eI v3_2)])],2⟩
@[go_sem] def uI (v22:List GNode)(v23:Int)(s_1:List GTie)(s_2 v3_0:Int)(v3_1 v3_2:List Int)(v24:Int):St:=⟨[(2,.ptr 128 1 0 0),(3,.ptr 192 1 0 0),(22,.sl (ab GNode.encS v22)),(23,.lit (.int .i64 v23)),(24,.lit (.int .i64 v24))],[(128,1,.var [.sl (ab GNode.encS v22),.sl (ab GTie.enc s_1),.lit (.int .i64 s_2)]),(192,1,.var [.lit (.int .i64 v3_0),.sl (ab eI v3_1),.sl (ab eI v3_2)])],2⟩
instance k335 {s:GShow} {v1:GState}:Ctr (kN s v1) (fun (res:Bool)=>ak prog 335 [.agg (GShow.encS s),.agg (GState.encS v1)] [] (.lit (.bool res)) []):=⟨by
 intro res h0
 refine co (hi:=hi00) func335 rfl rfl ?_
 unfold kN at h0
 obtain⟨q07,l0,h0⟩:=af h0
 simp(config:=cS)only[go_sem, *]
 refine ah (m1:=.mk) (m2:=.mk) [.nf [2,3,10,11,12] [128,192]] (uH s.ties (s.ties.length:Int) s.nodes s.horizon v1.now v1.times v1.values) l0 ?_ ?_
 ·simp(config:=cS)only[go_sem, *]
 have k0:=h0
 clear h0 l0
 intro _ v12_1 _ h0 gb0
 unfold eX at h0
 try dsimp only at h0
 obtain⟨_,h0⟩|⟨_,h0⟩:=itP h0
 ·exact run
 cases h0
 obtain rfl:=(aD gb0).symm
 clear gb0
 have h0:=k0
 clear k0
 try dsimp only at h0
 obtain⟨q06,l0,h0⟩:=af h0
 simp(config:=cS)only[go_sem, *]
 refine ah (m1:=.mk) (m2:=.mk) [.nf [2,3,22,23,24] [128,192]] (uI s.nodes (s.nodes.length:Int) s.ties s.horizon v1.now v1.times v1.values) l0 ?_ ?_
 ·simp(config:=cS)only[go_sem, *]
 have k0:=h0
 clear h0 l0
 intro _ v24_2 _ h0 gb0
 unfold bY at h0
 try dsimp only at h0
 exact run⟩
@[go_sem] def wA (v8:List GNode)(v9 v3_0:Int)(v3_1 v3_2:List Int)(v10:Int):St:=⟨[(3,.ptr 192 1 0 0),(8,.sl (ab GNode.encS v8)),(9,.lit (.int .i64 v9)),(10,.lit (.int .i64 v10))],[(192,1,.var [.lit (.int .i64 v3_0),.sl (ab eI v3_1),.sl (ab eI v3_2)])],2⟩
instance k336 {s:GShow} {v1:GState}:Ctr (mK s v1) (fun (res:Bool)=>ak prog 336 [.agg (GShow.encS s),.agg (GState.encS v1)] [] (.lit (.bool res)) []):=⟨by
 intro res h0
 refine co (hi:=hi00) func336 rfl rfl ?_
 unfold mK at h0
 obtain⟨q04,l0,h0⟩:=af h0
 simp(config:=cS)only[go_sem, *]
 refine ah (m1:=.mk) (m2:=.mk) [.nf [3,8,9,10] [192]] (wA s.nodes (s.nodes.length:Int) v1.now v1.times v1.values) l0 ?_ ?_
 ·simp(config:=cS)only[go_sem, *]
 have k0:=h0
 clear h0 l0
 intro _ v10_1 _ h0 gb0
 unfold gV at h0
 try dsimp only at h0
 exact run⟩
@[go_sem] def uJ (v17:List GNode)(v18:Int)(s_1:List GTie)(s_2 v3_0:Int)(v3_1 v3_2:List Int):(Int × (List Int) × (List Int) × (List Bool))→St
 | (v19,low,high,sure)=>⟨[(2,.ptr 128 1 0 0),(3,.ptr 192 1 0 0),(7,.ref 832 1 0 low.length),(8,.ref 896 1 0 high.length),(9,.ref 960 1 0 sure.length),(17,.sl (ab GNode.encS v17)),(18,.lit (.int .i64 v18)),(19,.lit (.int .i64 v19))],[(128,1,.var [.sl (ab GNode.encS v17),.sl (ab GTie.enc s_1),.lit (.int .i64 s_2)]),(192,1,.var [.lit (.int .i64 v3_0),.sl (ab eI v3_1),.sl (ab eI v3_2)]),(832,1,.row true (ab eI low)),(896,1,.row true (ab eI high)),(960,1,.row true (ab eB sure))],2⟩
instance k361 {s:GShow} {v1:GState}:Ctr (kO s v1) (fun (res:(List Int) × (List Int) × (List Bool))=>ak prog 361 [.agg (GShow.encS s),.agg (GState.encS v1)] [] (.tup [.ref 20000 1 0 res.1.length,.ref 20001 1 0 res.2.1.length,.ref 20002 1 0 res.2.2.length]) [(20000,1,.row true (ab eI res.1)),(20001,1,.row true (ab eI res.2.1)),(20002,1,.row true (ab eB res.2.2))]):=⟨by
 intro res h0
 refine aB (ra:=[.home 4,.home 5,.home 6]) (md:=mdT) hT (hi:=hi00) func361 rfl rfl (by decide +kernel) (by simp) ?_
 unfold kO at h0
 obtain⟨q04,l0,h0⟩:=af h0
 simp(config:=cS)only[go_sem, *]
 refine ah (m1:=.mk) (m2:=.mk) [.nf [2,3,7,8,9,17,18,19] [128,192,832,896,960]] (uJ s.nodes (s.nodes.length:Int) s.ties s.horizon v1.now v1.times v1.values) l0 ?_ ?_
 ·simp(config:=cS)only[go_sem, *]
 have k0:=h0
 clear h0 l0
 intro _ s0 _ h0 gb0
 obtain⟨v19_1,low_1,high_1,sure_1⟩:=s0
 unfold il at h0
 try dsimp only at h0
 exact run⟩
@[go_sem] def tk (round:Int)(v27:List GTie)(v28:Int)(s_0:List GNode)(s_2:Int)(sure:List Bool):(Int × (List Int) × (List Int))→St
 | (v29,low,high)=>⟨[(2,.ptr 128 1 0 0),(5,.ref 960 1 0 low.length),(6,.ref 961 1 0 high.length),(7,.ref 962 1 0 sure.length),(8,.lit (.int .i64 round)),(27,.sl (ab GTie.enc v27)),(28,.lit (.int .i64 v28)),(29,.lit (.int .i64 v29))],[(128,1,.var [.sl (ab GNode.encS s_0),.sl (ab GTie.enc v27),.lit (.int .i64 s_2)]),(960,1,.row true (ab eI low)),(961,1,.row true (ab eI high)),(962,1,.row true (ab eB sure))],2⟩
@[go_sem] def tn (s_0:List GNode)(s_1:List GTie)(s_2:Int)(sure:List Bool):(Int × (List Int) × (List Int))→St
 | (round,low,high)=>⟨[(2,.ptr 128 1 0 0),(5,.ref 960 1 0 low.length),(6,.ref 961 1 0 high.length),(7,.ref 962 1 0 sure.length),(8,.lit (.int .i64 round))],[(128,1,.var [.sl (ab GNode.encS s_0),.sl (ab GTie.enc s_1),.lit (.int .i64 s_2)]),(960,1,.row true (ab eI low)),(961,1,.row true (ab eI high)),(962,1,.row true (ab eB sure))],2⟩
@[go_sem] def tp (v121:Int)(low high:List Int)(sure:List Bool)(v122:Int):St:=⟨[(5,.ref 960 1 0 low.length),(6,.ref 961 1 0 high.length),(7,.ref 962 1 0 sure.length),(121,.lit (.int .i64 v121)),(122,.lit (.int .i64 v122))],[(960,1,.row true (ab eI low)),(961,1,.row true (ab eI high)),(962,1,.row true (ab eB sure))],2⟩
@[go_sem] def hi337_17:DT:=.r2 0 15 .nil
@[go_sem] def hi337_12:DT:=.r2 0 19 .nil
@[go_sem] def hi337_11:DT:=.r2 0 19 .nil
@[go_sem] def hi337_10:DT:=.r2 0 19 .nil
@[go_sem] def hi337_9:DT:=.r2 0 19 .nil
def uo:Hint where
 acts:=fun _=>[]
 draws:=fun
  | 9=>⟨hi337_9,[[],[],[1],[],[],[4],[3,4,5],[3,4,5,6],[],[],[9],[8,9,10],[8,9,10,11],[],[13],[8,9,10,11,12,13,14],[3,4,5,6,7,8,9,10,11,12,13,14,15],.range 17,.range 18],.range 19⟩
  | 10=>⟨hi337_10,[[],[],[1],[],[],[4],[3,4,5],[3,4,5,6],[],[],[9],[8,9,10],[8,9,10,11],[],[13],[8,9,10,11,12,13,14],[3,4,5,6,7,8,9,10,11,12,13,14,15],.range 17,.range 18],.range 19⟩
  | 11=>⟨hi337_11,[[],[],[1],[],[],[4],[3,4,5],[3,4,5,6],[],[],[9],[8,9,10],[8,9,10,11],[],[13],[8,9,10,11,12,13,14],[3,4,5,6,7,8,9,10,11,12,13,14,15],.range 17,.range 18],.range 19⟩
  | 12=>⟨hi337_12,[[],[],[1],[],[],[4],[3,4,5],[3,4,5,6],[],[],[9],[8,9,10],[8,9,10,11],[],[13],[8,9,10,11,12,13,14],[3,4,5,6,7,8,9,10,11,12,13,14,15],.range 17,.range 18],.range 19⟩
  | 17=>⟨hi337_17,[[],[],[0,1],[0,1,2],[0,1,2,3],.range 5,.range 5,.range 7,.range 8,.range 5,.range 5,[0,1,2,3,4,9,10],[0,1,2,3,4,9,10,11],.range 13,.range 14],.range 15⟩
  | _=>⟨.nil,[],[]⟩
theorem UY (i:Nat):uo.acts i=[]:=rfl
theorem UZ (i:Nat):uo.views i=none:=rfl
attribute[go_sem] UY UZ ntmps337 results337
@[go_sem] theorem Zk:(uo.draws 9).order=hi337_9:=rfl
@[go_sem] theorem Yh:(uo.draws 10).order=hi337_10:=rfl
@[go_sem] theorem Yi:(uo.draws 11).order=hi337_11:=rfl
@[go_sem] theorem Yj:(uo.draws 12).order=hi337_12:=rfl
@[go_sem] theorem Yk:(uo.draws 17).order=hi337_17:=rfl
instance k337 {s:GShow} {v1:GState}:Ctr (jm s v1) (fun (res:Bool)=>ak prog 337 [.agg (GShow.encS s),.agg (GState.encS v1)] [] (.lit (.bool res)) []):=⟨by
 intro res h0
 refine co (hi:=uo) func337 rfl rfl ?_
 unfold jm at h0
 obtain⟨r01,g0,h0⟩:=af h0
 simp(config:=cS)only[go_sem, *]
 have g0:=ctr g0
 refine aj g0 ?_
 obtain⟨q18,l0,h0⟩:=af h0
 simp(config:=cS)only[go_sem, *]
 refine ah (m1:=.mk) (m2:=.mk) [.nf [2,5,6,7,8] [128,960,961,962]] (tn s.nodes s.ties s.horizon r01.2.2) l0 ?_ ?_
 ·simp(config:=cS)only[go_sem, *]
 have k0:=h0
 clear h0 l0
 intro _ s0 _ h0 gb0
 obtain⟨round_1,low_1,high_1⟩:=s0
 unfold fN at h0
 try dsimp only at h0
 obtain⟨_,h0⟩|⟨_,h0⟩:=itP h0
 ·obtain⟨q13,l0,h0⟩:=af h0
  simp(config:=cS)only[go_sem, *]
  refine ah (m1:=.mk) (m2:=.mk) [.nf [2,5,6,7,8,27,28,29] [128,960,961,962]] (tk round_1 s.ties (s.ties.length:Int) s.nodes s.horizon r01.2.2) l0 ?_ ?_
  ·simp(config:=cS)only[go_sem, *]
  have k0:=h0
  clear h0 l0
  intro _ s0 _ h0 gb0
  obtain⟨v29_2,low_2,high_2⟩:=s0
  unfold fM at h0
  try dsimp only at h0
  exact run
 cases h0
 obtain rfl:=(aD gb0).symm
 clear gb0
 have h0:=k0
 clear k0
 try dsimp only at h0
 obtain⟨q17,l0,h0⟩:=af h0
 simp(config:=cS)only[go_sem, *]
 refine ah (m1:=.mk) (m2:=.mk) [.nf [5,6,7,121,122] [960,961,962]] (tp (low_1.length:Int) low_1 high_1 r01.2.2) l0 ?_ ?_
 ·simp(config:=cS)only[go_sem, *]
 have k0:=h0
 clear h0 l0
 intro _ v122_3 _ h0 gb0
 unfold fO at h0
 try dsimp only at h0
 exact run⟩
@[go_sem] def uK (v10:List GTie)(v11 v3_0:Int)(v3_1 v3_2:List Int):(Int × (List Int))→St
 | (v12,out)=>⟨[(3,.ptr 192 1 0 0),(5,.ref 512 1 0 out.length),(10,.sl (ab GTie.enc v10)),(11,.lit (.int .i64 v11)),(12,.lit (.int .i64 v12))],[(192,1,.var [.lit (.int .i64 v3_0),.sl (ab eI v3_1),.sl (ab eI v3_2)]),(512,1,.row true (ab eI out))],2⟩
instance k362 {s:GShow} {v1:GState}:Ctr (kP s v1) (fun (res:List Int)=>ak prog 362 [.agg (GShow.encS s),.agg (GState.encS v1)] [] (.ref 20000 1 0 res.length) [(20000,1,.row true (ab eI res))]):=⟨by
 intro res h0
 refine aB (ra:=[.home 4]) (md:=mdT) hT (hi:=hi00) func362 rfl rfl (by decide +kernel) (by simp) ?_
 unfold kP at h0
 obtain⟨q04,l0,h0⟩:=af h0
 simp(config:=cS)only[go_sem, *]
 refine ah (m1:=.mk) (m2:=.mk) [.nf [3,5,10,11,12] [192,512]] (uK s.ties (s.ties.length:Int) v1.now v1.times v1.values) l0 ?_ ?_
 ·simp(config:=cS)only[go_sem, *]
 have k0:=h0
 clear h0 l0
 intro _ s0 _ h0 gb0
 obtain⟨v12_1,out_1⟩:=s0
 unfold im at h0
 try dsimp only at h0
 exact run⟩
@[go_sem] def tU (v16:Int)(s_0:List GNode)(s_1:List GTie)(s_2 v3_0:Int)(v3_1 v3_2 v15:List Int):(Int × (List Int) × (List Int))→St
 | (v17,must,may)=>⟨[(2,.ptr 128 1 0 0),(3,.ptr 192 1 0 0),(6,.ref 704 1 0 must.length),(7,.ref 768 1 0 may.length),(15,.ref 960 1 0 v15.length),(16,.lit (.int .i64 v16)),(17,.lit (.int .i64 v17))],[(128,1,.var [.sl (ab GNode.encS s_0),.sl (ab GTie.enc s_1),.lit (.int .i64 s_2)]),(192,1,.var [.lit (.int .i64 v3_0),.sl (ab eI v3_1),.sl (ab eI v3_2)]),(704,1,.row true (ab eI must)),(768,1,.row true (ab eI may)),(960,1,.row true (ab eI v15))],2⟩
@[go_sem] def hi338_6:DT:=.r2 0 14 .nil
def Ic:Hint where
 acts:=fun _=>[]
 draws:=fun
  | 6=>⟨hi338_6,[[],[0],[],[2],[],[4],[],[4,5,6],[4,5,6,7],[4,5,6,7,8],[2,3,4,5,6,7,8,9],[2,3,4,5,6,7,8,9,10],.range 12,.range 13],.range 14⟩
  | _=>⟨.nil,[],[]⟩
theorem Va (i:Nat):Ic.acts i=[]:=rfl
theorem Vb (i:Nat):Ic.views i=none:=rfl
attribute[go_sem] Va Vb ntmps338 results338
@[go_sem] theorem Zl:(Ic.draws 6).order=hi338_6:=rfl
instance k338 {s:GShow} {v1:GState}:Ctr (jO s v1) (fun (res:(List Int) × (List Int))=>ak prog 338 [.agg (GShow.encS s),.agg (GState.encS v1)] [] (.tup [.ref 20000 1 0 res.1.length,.ref 20001 1 0 res.2.length]) [(20000,1,.row true (ab eI res.1)),(20001,1,.row true (ab eI res.2))]):=⟨by
 intro res h0
 refine aB (ra:=[.home 4,.home 5]) (md:=mdT) hT (hi:=Ic) func338 rfl rfl (by decide +kernel) (by simp) ?_
 unfold jO at h0
 obtain⟨r01,g0,h0⟩:=af h0
 simp(config:=cS)only[go_sem, *]
 have g0:=ctr g0
 refine aj g0 ?_
 obtain⟨q05,l0,h0⟩:=af h0
 simp(config:=cS)only[go_sem, *]
 refine ah (m1:=.mk) (m2:=.mk) [.nf [2,3,6,7,15,16,17] [128,192,704,768,960]] (tU (r01.length:Int) s.nodes s.ties s.horizon v1.now v1.times v1.values r01) l0 ?_ ?_
 ·simp(config:=cS)only[go_sem, *]
 have k0:=h0
 clear h0 l0
 intro _ s0 _ h0 gb0
 obtain⟨v17_1,must_1,may_1⟩:=s0
 unfold gy at h0
 try dsimp only at h0
 exact run⟩
@[go_sem] def wB (n:Int)(v9:List Int)(v10:Int):(Int × (List Int))→St
 | (v11,out)=>⟨[(1,.lit (.int .i64 n)),(5,.ref 512 1 0 out.length),(9,.sl (ab eI v9)),(10,.lit (.int .i64 v10)),(11,.lit (.int .i64 v11))],[(512,1,.row true (ab eI out))],2⟩
instance k342 {l:List Int} {n:Int}:Ctr (kB l n) (fun (res:List Int)=>ak prog 342 [.sl (ab eI l),.lit (.int .i64 n)] [] (.ref 20000 1 0 res.length) [(20000,1,.row true (ab eI res))]):=⟨by
 intro res h0
 refine aB (ra:=[.home 4]) (md:=mdT) hT (hi:=hi00) func342 rfl rfl (by decide +kernel) (by simp) ?_
 unfold kB at h0
 obtain⟨q02,l0,h0⟩:=af h0
 simp(config:=cS)only[go_sem, *]
 refine ah (m1:=.mk) (m2:=.mk) [.nf [1,5,9,10,11] [512]] (wB n l (l.length:Int)) l0 ?_ ?_
 ·simp(config:=cS)only[go_sem, *]
 have k0:=h0
 clear h0 l0
 intro _ s0 _ h0 gb0
 obtain⟨v11_1,out_1⟩:=s0
 unfold jP at h0
 try dsimp only at h0
 exact run⟩
@[go_sem] def vw (a b:List Int):(Int × Int × (List Int))→St
 | (i,k,out)=>⟨[(0,.sl (ab eI a)),(1,.sl (ab eI b)),(5,.ref 512 1 0 out.length),(6,.lit (.int .i64 i)),(7,.lit (.int .i64 k))],[(512,1,.row true (ab eI out))],2⟩
@[go_sem] def hi341_5:DT:=.r2 0 21 .nil
def Ie:Hint where
 acts:=fun _=>[]
 draws:=fun
  | 5=>⟨hi341_5,[[],[],[1],[0,1,2],[0,1,2,3],.range 5,.range 5,[0,1,2,3,4,6],.range 8,.range 9,.range 10,.range 10,.range 12,.range 13,.range 10,.range 10,[0,1,2,3,4,5,6,7,8,9,14,15],[0,1,2,3,4,5,6,7,8,9,14,15,16],.range 18,.range 19,.range 20],.range 21⟩
  | _=>⟨.nil,[],[]⟩
theorem Vc (i:Nat):Ie.acts i=[]:=rfl
theorem Vd (i:Nat):Ie.views i=none:=rfl
attribute[go_sem] Vc Vd ntmps341 results341
@[go_sem] theorem Zm:(Ie.draws 5).order=hi341_5:=rfl
instance k341 {a:List Int} {b:List Int}:Ctr (jE a b) (fun (res:List Int)=>ak prog 341 [.sl (ab eI a),.sl (ab eI b)] [] (.ref 20000 1 0 res.length) [(20000,1,.row true (ab eI res))]):=⟨by
 intro res h0
 refine aB (ra:=[.home 4]) (md:=mdT) hT (hi:=Ie) func341 rfl rfl (by decide +kernel) (by simp) ?_
 unfold jE at h0
 obtain⟨q06,l0,h0⟩:=af h0
 simp(config:=cS)only[go_sem, *]
 refine ah (m1:=.mk) (m2:=.mk) [.nf [0,1,5,6,7] [512]] (vw a b) l0 ?_ ?_
 ·simp(config:=cS)only[go_sem, *]
 have k0:=h0
 clear h0 l0
 intro _ s0 _ h0 gb0
 obtain⟨i_1,k_1,out_1⟩:=s0
 unfold jn at h0
 try dsimp only at h0
 exact run⟩
@[go_sem] def hi365_1:DT:=.i1 0 (.i1 1 (.i1 3 (.i1 4 (.i1 7 (.i1 8 (.fork (.i0 2 [0,1,3,4,7,8] (.fork (.i0 5 [0,1,7,8] (.i0 6 [0,1,3,4,7,8] (.i0 9 [0,1] (.i2 10 (.i2 11 .nil))))) (.i0 6 [0,1,3,4,7,8] (.i0 5 [0,1,7,8] (.i0 9 [0,1] (.i2 10 (.i2 11 .nil))))))) (.i0 6 [0,1,3,4,7,8] (.i0 2 [0,1,3,4,7,8] (.i0 5 [0,1,7,8] (.i0 9 [0,1] (.i2 10 (.i2 11 .nil))))))))))))
def If:Hint where
 acts:=fun _=>[]
 draws:=fun
  | 1=>⟨hi365_1,[[],[0],[],[],[3],[2,3,4],[],[],[7],[2,3,4,5,6,7,8],.range 10,.range 11],.range 12⟩
  | _=>⟨.nil,[],[]⟩
theorem Ve (i:Nat):If.acts i=[]:=rfl
theorem Vf (i:Nat):If.views i=none:=rfl
attribute[go_sem] Ve Vf ntmps365 results365
@[go_sem] theorem Zn:(If.draws 1).order=hi365_1:=rfl
instance k365 {v0:GState}:Ctr (iP v0) (fun (res:GState)=>ak prog 365 [.agg (GState.encS v0)] [] (.agg [.lit (.int .i64 res.now),.ref 20000 1 0 res.times.length,.ref 20001 1 0 res.values.length]) [(20000,1,.row true (ab eI res.times)),(20001,1,.row true (ab eI res.values))]):=⟨by
 intro res h0
 refine aB (ra:=[.homeCell 128 1,.homeCell 128 2]) (md:=mdT) hT (hi:=If) func365 rfl rfl (by decide +kernel) (by simp) ?_
 unfold iP at h0
 obtain⟨_,h0⟩:=ckP h0
 obtain⟨_,h0⟩:=ckP h0
 obtain⟨_,h0⟩:=ckP h0
 obtain⟨_,h0⟩:=ckP h0
 try simp(config:=cS)only[go_sem, *]
 refine gp ?_ ?_
 ·try simp(config:=cS)only[go_sem, *]
  refine gp ?_ ?_
  ·exact run
  exact run
 exact run⟩
@[go_sem] def xL (v12:List Int)(v13:Int)(s_0:List GNode)(s_1:List GTie)(s_2 v4_0:Int)(v4_1 v4_2:List Int)(out_0:Int)(h705:List Int):(Int × (List Int))→St
 | (v14,h704)=>⟨[(3,.ptr 192 1 0 0),(4,.ptr 256 1 0 0),(6,.ptr 384 1 0 0),(7,.ptr 448 1 0 0),(12,.sl (ab eI v12)),(13,.lit (.int .i64 v13)),(14,.lit (.int .i64 v14))],[(192,1,.var [.sl (ab GNode.encS s_0),.sl (ab GTie.enc s_1),.lit (.int .i64 s_2)]),(256,1,.var [.lit (.int .i64 v4_0),.sl (ab eI v4_1),.sl (ab eI v4_2)]),(384,1,.var [.lit (.int .i64 0),.lit (.slice none 0 0),.lit (.slice none 0 0)]),(448,1,.var [.lit (.int .i64 out_0),.ref 704 1 0 h704.length,.ref 705 1 0 h705.length]),(704,1,.row true (ab eI h704)),(705,1,.row true (ab eI h705))],2⟩
@[go_sem] def hi340_5:DT:=.r2 0 12 .nil
def Ig:Hint where
 acts:=fun _=>[]
 draws:=fun
  | 5=>⟨hi340_5,[[],[0],[],[2],[],[2,3,4],[2,3,4,5],[2,3,4,5,6],[],[8],.range 10,.range 11],.range 12⟩
  | _=>⟨.nil,[],[]⟩
theorem Vg (i:Nat):Ig.acts i=[]:=rfl
theorem Vh (i:Nat):Ig.views i=none:=rfl
attribute[go_sem] Vg Vh ntmps340 results340
@[go_sem] theorem Zo:(Ig.draws 5).order=hi340_5:=rfl
instance k340 {s:GShow} {v1:GState} {ties:List Int}:Ctr (nM s v1 ties) (fun (res:GState)=>ak prog 340 [.agg (GShow.encS s),.agg (GState.encS v1),.sl (ab eI ties)] [] (.agg [.lit (.int .i64 res.now),.ref 20000 1 0 res.times.length,.ref 20001 1 0 res.values.length]) [(20000,1,.row true (ab eI res.times)),(20001,1,.row true (ab eI res.values))]):=⟨by
 intro res h0
 refine aB (ra:=[.homeCell 384 1,.homeCell 384 2]) (md:=mdT) hT (hi:=Ig) func340 rfl rfl (by decide +kernel) (by simp) ?_
 unfold nM at h0
 obtain⟨r01,g0,h0⟩:=af h0
 simp(config:=cS)only[go_sem, *]
 have g0:=ctr g0
 refine aj g0 ?_
 obtain⟨q05,l0,h0⟩:=af h0
 simp(config:=cS)only[go_sem, *]
 refine ah (m1:=.mk) (m2:=.mk) [.nf [3,4,6,7,12,13,14] [192,256,384,448,704,705]] (xL ties (ties.length:Int) s.nodes s.ties s.horizon v1.now v1.times v1.values r01.now r01.values) l0 ?_ ?_
 ·simp(config:=cS)only[go_sem, *]
 have k0:=h0
 clear h0 l0
 intro _ s0 _ h0 gb0
 obtain⟨v14_1,h704_1⟩:=s0
 unfold kQ at h0
 try dsimp only at h0
 exact run⟩
@[go_sem] def tV (v10:List GNode)(v11:Int)(s_1:List GTie)(s_2 v3_0:Int)(v3_1 v3_2:List Int):(Int × (List Int))→St
 | (v12,out)=>⟨[(2,.ptr 128 1 0 0),(3,.ptr 192 1 0 0),(5,.ref 512 1 0 out.length),(10,.sl (ab GNode.encS v10)),(11,.lit (.int .i64 v11)),(12,.lit (.int .i64 v12))],[(128,1,.var [.sl (ab GNode.encS v10),.sl (ab GTie.enc s_1),.lit (.int .i64 s_2)]),(192,1,.var [.lit (.int .i64 v3_0),.sl (ab eI v3_1),.sl (ab eI v3_2)]),(512,1,.row true (ab eI out))],2⟩
instance k363 {s:GShow} {v1:GState}:Ctr (jQ s v1) (fun (res:List Int)=>ak prog 363 [.agg (GShow.encS s),.agg (GState.encS v1)] [] (.ref 20000 1 0 res.length) [(20000,1,.row true (ab eI res))]):=⟨by
 intro res h0
 refine aB (ra:=[.home 4]) (md:=mdT) hT (hi:=hi00) func363 rfl rfl (by decide +kernel) (by simp) ?_
 unfold jQ at h0
 obtain⟨q05,l0,h0⟩:=af h0
 simp(config:=cS)only[go_sem, *]
 refine ah (m1:=.mk) (m2:=.mk) [.nf [2,3,5,10,11,12] [128,192,512]] (tV s.nodes (s.nodes.length:Int) s.ties s.horizon v1.now v1.times v1.values) l0 ?_ ?_
 ·simp(config:=cS)only[go_sem, *]
 have k0:=h0
 clear h0 l0
 intro _ s0 _ h0 gb0
 obtain⟨v12_1,out_1⟩:=s0
 unfold gz at h0
 try dsimp only at h0
 exact run⟩
@[go_sem] def uL (nodes:List Int)(v16:Int)(s_0:List GNode)(s_1:List GTie)(s_2 v4_0:Int)(v4_1 v4_2:List Int)(out_0:Int)(h897:List Int):(Int × (List Int))→St
 | (v17,h896)=>⟨[(2,.sl (ab eI nodes)),(3,.ptr 192 1 0 0),(4,.ptr 256 1 0 0),(6,.ptr 384 1 0 0),(8,.ptr 512 1 0 0),(15,.sl (ab eI nodes)),(16,.lit (.int .i64 v16)),(17,.lit (.int .i64 v17))],[(192,1,.var [.sl (ab GNode.encS s_0),.sl (ab GTie.enc s_1),.lit (.int .i64 s_2)]),(256,1,.var [.lit (.int .i64 v4_0),.sl (ab eI v4_1),.sl (ab eI v4_2)]),(384,1,.var [.lit (.int .i64 0),.lit (.slice none 0 0),.lit (.slice none 0 0)]),(512,1,.var [.lit (.int .i64 out_0),.ref 896 1 0 h896.length,.ref 897 1 0 h897.length]),(896,1,.row true (ab eI h896)),(897,1,.row true (ab eI h897))],2⟩
@[go_sem] def uM (nodes:List Int)(s_0:List GNode)(s_1:List GTie)(s_2 out_0:Int)(h896 h897:List Int):(Int × (List Int))→St
 | (p,props)=>⟨[(2,.sl (ab eI nodes)),(3,.ptr 192 1 0 0),(6,.ptr 384 1 0 0),(8,.ptr 512 1 0 0),(11,.ref 1792 1 0 props.length),(12,.lit (.int .i64 p))],[(192,1,.var [.sl (ab GNode.encS s_0),.sl (ab GTie.enc s_1),.lit (.int .i64 s_2)]),(384,1,.var [.lit (.int .i64 0),.lit (.slice none 0 0),.lit (.slice none 0 0)]),(512,1,.var [.lit (.int .i64 out_0),.ref 896 1 0 h896.length,.ref 897 1 0 h897.length]),(896,1,.row true (ab eI h896)),(897,1,.row true (ab eI h897)),(1792,1,.row true (ab eI props))],2⟩
instance k372 {s:GShow} {v1:GState} {nodes:List Int}:Ctr (kR s v1 nodes) (fun (res:GState × (List Int))=>ak prog 372 [.agg (GShow.encS s),.agg (GState.encS v1),.sl (ab eI nodes)] [] (.tup [.agg [.lit (.int .i64 res.1.now),.ref 20000 1 0 res.1.times.length,.ref 20001 1 0 res.1.values.length],.ref 20002 1 0 res.2.length]) [(20000,1,.row true (ab eI res.1.times)),(20001,1,.row true (ab eI res.1.values)),(20002,1,.row true (ab eI res.2))]):=⟨by
 intro res h0
 refine aB (ra:=[.homeCell 384 1,.homeCell 384 2,.home 7]) (md:=mdT) hT (hi:=hi00) func372 rfl rfl (by decide +kernel) (by simp) ?_
 unfold kR at h0
 obtain⟨r01,g0,h0⟩:=af h0
 simp(config:=cS)only[go_sem, *]
 have g0:=ctr g0
 refine aj g0 ?_
 obtain⟨q07,l0,h0⟩:=af h0
 simp(config:=cS)only[go_sem, *]
 refine ah (m1:=.mk) (m2:=.mk) [.nf [2,3,4,6,8,15,16,17] [192,256,384,512,896,897]] (uL nodes (nodes.length:Int) s.nodes s.ties s.horizon v1.now v1.times v1.values r01.now r01.values) l0 ?_ ?_
 ·simp(config:=cS)only[go_sem, *]
 have k0:=h0
 clear h0 l0
 intro _ s0 _ h0 gb0
 obtain⟨v17_1,h896_1⟩:=s0
 unfold io at h0
 try dsimp only at h0
 obtain⟨_,h0⟩|⟨_,h0⟩:=itP h0
 ·exact run
 cases h0
 obtain rfl:=(aD gb0).symm
 clear gb0
 have h0:=k0
 clear k0
 try dsimp only at h0
 obtain⟨q06,l0,h0⟩:=af h0
 simp(config:=cS)only[go_sem, *]
 refine ah (m1:=.mk) (m2:=.mk) [.nf [2,3,6,8,11,12] [192,384,512,896,897,1792]] (uM nodes s.nodes s.ties s.horizon r01.now h896_1 r01.values) l0 ?_ ?_
 ·simp(config:=cS)only[go_sem, *]
 have k0:=h0
 clear h0 l0
 intro _ s0 _ h0 gb0
 obtain⟨p_2,props_2⟩:=s0
 unfold ip at h0
 try dsimp only at h0
 exact run⟩
@[go_sem] def ry (props:List Int)(v10 v11:Int):St:=⟨[(0,.sl (ab eI props)),(9,.sl (ab eI props)),(10,.lit (.int .i64 v10)),(11,.lit (.int .i64 v11))],[],2⟩
@[go_sem] def rz (props:List Int)(n v44:Int)(out:List (List Int)):(Int × (List Int))→St
 | (v45,l)=>⟨[(0,.sl (ab eI props)),(5,.ref 2112 1 0 out.length),(6,.lit (.int .i64 n)),(7,.ref 2688 1 0 l.length),(44,.lit (.int .i64 v44)),(45,.lit (.int .i64 v45))],[(2112,1,.row true (ab (eLO eI) out)),(2688,1,.row true (ab eI l))],2⟩
@[go_sem] def rB (props:List Int):(Int × (List (List Int)))→St
 | (n,out)=>⟨[(0,.sl (ab eI props)),(5,.ref 2112 1 0 out.length),(6,.lit (.int .i64 n))],[(2112,1,.row true (ab (eLO eI) out))],2⟩
instance k373 {props:List Int}:Ctr (fP props) (fun (res:List (List Int))=>ak prog 373 [.sl (ab eI props)] [] (.ref 20000 1 0 res.length) [(20000,1,.row true (ab (eLO eI) res))]):=⟨by
 intro res h0
 refine aB (ra:=[.home 2]) (md:=mdT) hT (hi:=hi00) func373 rfl rfl (by decide +kernel) (by simp) ?_
 unfold fP at h0
 obtain⟨q06,l0,h0⟩:=af h0
 simp(config:=cS)only[go_sem, *]
 refine ah (m1:=.mk) (m2:=.mk) [.nf [0,9,10,11] []] (ry props (props.length:Int)) l0 ?_ ?_
 ·simp(config:=cS)only[go_sem, *]
 have k0:=h0
 clear h0 l0
 intro _ v11_1 _ h0 gb0
 unfold dP at h0
 try dsimp only at h0
 obtain⟨_,h0⟩|⟨_,h0⟩:=itP h0
 ·exact run
 cases h0
 obtain rfl:=(aD gb0).symm
 clear gb0
 have h0:=k0
 clear k0
 try dsimp only at h0
 obtain⟨q05,l0,h0⟩:=af h0
 simp(config:=cS)only[go_sem, *]
 refine ah (m1:=.mk) (m2:=.mk) [.nf [0,5,6] [2112]] (rB props) l0 ?_ ?_
 ·simp(config:=cS)only[go_sem, *]
 have k0:=h0
 clear h0 l0
 intro _ s0 _ h0 gb0
 obtain⟨n_2,out_2⟩:=s0
 unfold dR at h0
 try dsimp only at h0
 obtain⟨_,h0⟩:=ckN h0
 obtain⟨_,h0⟩|⟨_,h0⟩:=itP h0
 ·obtain⟨q04,l0,h0⟩:=af h0
  simp(config:=cS)only[go_sem, *]
  refine ah (m1:=.mk) (m2:=.mk) [.nf [0,5,6,7,44,45] [2112,2688]] (rz props n_2 (props.length:Int) out_2) l0 ?_ ?_
  ·simp(config:=cS)only[go_sem, *]
  have k0:=h0
  clear h0 l0
  intro _ s0 _ h0 gb0
  obtain⟨v45_3,l_3⟩:=s0
  unfold dQ at h0
  try dsimp only at h0
  exact run
 exact run⟩
@[go_sem] def uN (values v12:List Int)(v13 out_0:Int)(h704:List Int):(Int × (List Int))→St
 | (v14,h705)=>⟨[(2,.sl (ab eI values)),(6,.ptr 384 1 0 0),(7,.ptr 448 1 0 0),(12,.sl (ab eI v12)),(13,.lit (.int .i64 v13)),(14,.lit (.int .i64 v14))],[(384,1,.var [.lit (.int .i64 0),.lit (.slice none 0 0),.lit (.slice none 0 0)]),(448,1,.var [.lit (.int .i64 out_0),.ref 704 1 0 h704.length,.ref 705 1 0 h705.length]),(704,1,.row true (ab eI h704)),(705,1,.row true (ab eI h705))],2⟩
@[go_sem] def hi374_5:DT:=.r2 0 10 .nil
def Ih:Hint where
 acts:=fun _=>[]
 draws:=fun
  | 5=>⟨hi374_5,[[],[0],[],[2],[],[],[4,5],[4,5,6],.range 8,.range 9],.range 10⟩
  | _=>⟨.nil,[],[]⟩
theorem Vi (i:Nat):Ih.acts i=[]:=rfl
theorem Vj (i:Nat):Ih.views i=none:=rfl
attribute[go_sem] Vi Vj ntmps374 results374
@[go_sem] theorem Zp:(Ih.draws 5).order=hi374_5:=rfl
instance k374 {v0:GState} {props:List Int} {values:List Int}:Ctr (kS v0 props values) (fun (res:GState)=>ak prog 374 [.agg (GState.encS v0),.sl (ab eI props),.sl (ab eI values)] [] (.agg [.lit (.int .i64 res.now),.ref 20000 1 0 res.times.length,.ref 20001 1 0 res.values.length]) [(20000,1,.row true (ab eI res.times)),(20001,1,.row true (ab eI res.values))]):=⟨by
 intro res h0
 refine aB (ra:=[.homeCell 384 1,.homeCell 384 2]) (md:=mdT) hT (hi:=Ih) func374 rfl rfl (by decide +kernel) (by simp) ?_
 unfold kS at h0
 obtain⟨r01,g0,h0⟩:=af h0
 simp(config:=cS)only[go_sem, *]
 have g0:=ctr g0
 refine aj g0 ?_
 obtain⟨q05,l0,h0⟩:=af h0
 simp(config:=cS)only[go_sem, *]
 refine ah (m1:=.mk) (m2:=.mk) [.nf [2,6,7,12,13,14] [384,448,704,705]] (uN values props (props.length:Int) r01.now r01.times) l0 ?_ ?_
 ·simp(config:=cS)only[go_sem, *]
 have k0:=h0
 clear h0 l0
 intro _ s0 _ h0 gb0
 obtain⟨v14_1,h705_1⟩:=s0
 unfold iq at h0
 try dsimp only at h0
 exact run⟩
@[go_sem] def wC (v20:Int)(s_0:List GNode)(s_1:List GTie)(s_2 y_0:Int)(h960 h961 props:List Int)(v19:List (List Int))(v21:Int):St:=⟨[(3,.ptr 192 1 0 0),(7,.ptr 448 1 0 0),(8,.ref 962 1 0 props.length),(19,.ref 1216 1 0 v19.length),(20,.lit (.int .i64 v20)),(21,.lit (.int .i64 v21))],[(192,1,.var [.sl (ab GNode.encS s_0),.sl (ab GTie.enc s_1),.lit (.int .i64 s_2)]),(448,1,.var [.lit (.int .i64 y_0),.ref 960 1 0 h960.length,.ref 961 1 0 h961.length]),(960,1,.row true (ab eI h960)),(961,1,.row true (ab eI h961)),(962,1,.row true (ab eI props)),(1216,1,.tree (ab (eLS eI) v19))],2⟩
@[go_sem] def hi364_5:DT:=.i1 0 (.r2 1 3 (.i0 4 [0] (.i2 5 (.i2 6 .nil))))
def Ii:Hint where
 acts:=fun _=>[]
 draws:=fun
  | 5=>⟨hi364_5,[[],[],[],[],[1,2,3],.range 5,.range 6],.range 7⟩
  | _=>⟨.nil,[],[]⟩
@[go_sem] theorem aas (i:Nat):Ii.acts i=[]:=rfl
theorem Vk (i:Nat):Ii.views i=none:=rfl
attribute[go_sem] Vk ntmps364 results364
@[go_sem] theorem Zq:(Ii.draws 5).order=hi364_5:=rfl
theorem Ce {rec:GShow→GState→Option Bool}(hrec:∀ {s:GShow} {v1:GState} {res:Bool},rec s v1=some res→ak prog 300 [.agg (GShow.encS s),.agg (GState.encS v1)] [] (.lit (.bool res)) []){s:GShow}{v1:GState}{nodes:List Int}{res:Bool}(h:kT rec s v1 nodes=some res):ak prog 364 [.agg (GShow.encS s),.agg (GState.encS v1),.sl (ab eI nodes)] [] (.lit (.bool res)) []:=by
 refine co (hi:=Ii) func364 rfl rfl ?_
 unfold kT at h
 obtain⟨r01,g1,h⟩:=af h
 simp(config:=cS)only[go_sem]
 have g1:=ctr g1
 refine aj g1 ?_
 obtain⟨r02,g2,h⟩:=af h
 simp(config:=cS)only[go_sem]
 have g2:=ctr g2
 refine aj g2 ?_
 obtain⟨q06,l3,h⟩:=af h
 simp(config:=cS)only[go_sem]
 refine ah (m1:=.mk) (m2:=.mk) [.freeze [1216],.nf [3,7,8,19,20,21] [192,448,960,961,962,1216]] (wC (r02.length:Int) s.nodes s.ties s.horizon r01.1.now r01.1.times r01.1.values r01.2 r02) l3 ?_ ?_
 ·simp(config:=cS)only[go_sem]
 intro nb4 v21_1 bb4 b4 gb4
 unfold jR at b4
 try dsimp only at b4
 obtain⟨h5,b4⟩|⟨h5,b4⟩:=aP b4
 ·obtain⟨x03,g6,b4⟩:=af b4
  obtain⟨h7,h8,h9⟩:=dO g6
  obtain⟨r04,g10,b4⟩:=af b4
  simp(config:=cS)only[go_sem,eqT h5,h7,h8,h9]
  have g10:=ctr g10
  refine aj g10 ?_
  obtain⟨r05,g11,b4⟩:=af b4
  simp(config:=cS)only[go_sem,eqT h5,h7,h8,h9]
  refine aj (hrec g11) ?_
  obtain⟨h12,b4⟩|⟨h12,b4⟩:=aP b4
  ·cases b4
   simp(config:=cS)only[go_sem,eqT h5,h7,h8,h9,eZt h12]
   refine fA gb4 ?_
   simp(config:=cS)only[go_sem,eqT h5,h7,h8,h9,eZt h12]
  cases b4
  obtain rfl:=(aD gb4).symm
  try dsimp only at h
  cases h
  simp(config:=cS)only[go_sem,eqT h5,h7,h8,h9,eZf h12]
 cases b4
 obtain rfl:=(aD gb4).symm
 try dsimp only at h
 cases h
 simp(config:=cS)only[go_sem,eqF h5]
@[go_sem] def xM (s_0:List GNode)(s_1:List GTie)(s_2 v3_0:Int)(v3_1 v3_2 l:List Int)(n:Int):St:=⟨[(2,.ptr 128 1 0 0),(3,.ptr 192 1 0 0),(5,.ref 576 1 0 l.length),(6,.lit (.int .i64 n))],[(128,1,.var [.sl (ab GNode.encS s_0),.sl (ab GTie.enc s_1),.lit (.int .i64 s_2)]),(192,1,.var [.lit (.int .i64 v3_0),.sl (ab eI v3_1),.sl (ab eI v3_2)]),(576,1,.row true (ab eI l))],2⟩
@[go_sem] def hi339_5:DT:=.i1 0 (.i1 1 (.i2 2 (.i2 3 (.i0 4 [0,1] (.i2 5 .nil)))))
def Ij:Hint where
 acts:=fun _=>[]
 draws:=fun
  | 5=>⟨hi339_5,[[],[],[],[],[2,3],.range 5],.range 6⟩
  | _=>⟨.nil,[],[]⟩
theorem Vl (i:Nat):Ij.acts i=[]:=rfl
theorem Vm (i:Nat):Ij.views i=none:=rfl
attribute[go_sem] Vl Vm ntmps339 results339
@[go_sem] theorem Zr:(Ij.draws 5).order=hi339_5:=rfl
theorem Ed {rec:GShow→GState→Option Bool}(hrec:∀ {s:GShow} {v1:GState} {res:Bool},rec s v1=some res→ak prog 300 [.agg (GShow.encS s),.agg (GState.encS v1)] [] (.lit (.bool res)) []){s:GShow}{v1:GState}{res:Bool}(h:lM rec s v1=some res):ak prog 339 [.agg (GShow.encS s),.agg (GState.encS v1)] [] (.lit (.bool res)) []:=by
 refine co (hi:=Ij) func339 rfl rfl ?_
 unfold lM at h
 obtain⟨r01,g1,h⟩:=af h
 simp(config:=cS)only[go_sem]
 have g1:=ctr g1
 refine aj g1 ?_
 obtain⟨h2,h⟩:=fq h
 obtain⟨q04,l3,h⟩:=af h
 simp(config:=cS)only[go_sem,eqF h2]
 refine ah (m1:=.mk) (m2:=.mk) [.nf [2,3,5,6] [128,192,576]] (xM s.nodes s.ties s.horizon v1.now v1.times v1.values r01) l3 ?_ ?_
 ·simp(config:=cS)only[go_sem,eqF h2]
 intro nb4 n_1 bb4 b4 gb4
 unfold iQ at b4
 try dsimp only at b4
 obtain⟨h5,b4⟩|⟨h5,b4⟩:=aP b4
 ·obtain⟨r02,g6,b4⟩:=af b4
  simp(config:=cS)only[go_sem,eqF h2,eqT h5]
  have g6:=ctr g6
  refine aj g6 ?_
  obtain⟨r03,g7,b4⟩:=af b4
  simp(config:=cS)only[go_sem,eqF h2,eqT h5]
  refine aj (Ce @hrec g7) ?_
  obtain⟨h8,b4⟩|⟨h8,b4⟩:=aP b4
  ·cases b4
   obtain rfl:=(aD gb4).symm
   try dsimp only at h
   cases h
   simp(config:=cS)only[go_sem,eqF h2,eqT h5,eZt h8]
  cases b4
  simp(config:=cS)only[go_sem,eqF h2,eqT h5,eZf h8]
  refine fA gb4 ?_
  simp(config:=cS)only[go_sem,eqF h2,eqT h5,eZf h8]
 cases b4
 obtain rfl:=(aD gb4).symm
 try dsimp only at h
 cases h
 simp(config:=cS)only[go_sem,eqF h2,eqF h5]
@[go_sem] def xN (s_0:List GNode)(s_1:List GTie)(s_2 v3_0:Int)(v3_1 v3_2 must may:List Int)(n:Int):St:=⟨[(2,.ptr 128 1 0 0),(3,.ptr 192 1 0 0),(5,.ref 1280 1 0 must.length),(6,.ref 1281 1 0 may.length),(7,.lit (.int .i64 n))],[(128,1,.var [.sl (ab GNode.encS s_0),.sl (ab GTie.enc s_1),.lit (.int .i64 s_2)]),(192,1,.var [.lit (.int .i64 v3_0),.sl (ab eI v3_1),.sl (ab eI v3_2)]),(1280,1,.row true (ab eI must)),(1281,1,.row true (ab eI may))],2⟩
@[go_sem] def hi300_11:DT:=.i1 0 (.i1 1 (.i1 2 (.r2 3 3 (.i0 6 [0,1,2] (.i0 7 [0,1,2] (.i0 8 [0] (.i2 9 (.i2 10 .nil))))))))
def Ik:Hint where
 acts:=fun _=>[]
 draws:=fun
  | 11=>⟨hi300_11,[[],[],[],[],[],[],[4,5],[3,4,5,6],[1,2,3,4,5,6,7],.range 9,.range 10],.range 11⟩
  | _=>⟨.nil,[],[]⟩
theorem Vn (i:Nat):Ik.acts i=[]:=rfl
theorem Vo (i:Nat):Ik.views i=none:=rfl
attribute[go_sem] Vn Vo ntmps300 results300
@[go_sem] theorem Yl:(Ik.draws 11).order=hi300_11:=rfl
theorem Ee {rec:GShow→GState→Option Bool}(hrec:∀ {s:GShow} {v1:GState} {res:Bool},rec s v1=some res→ak prog 300 [.agg (GShow.encS s),.agg (GState.encS v1)] [] (.lit (.bool res)) []){s:GShow}{v1:GState}{res:Bool}(h:lN rec s v1=some res):ak prog 300 [.agg (GShow.encS s),.agg (GState.encS v1)] [] (.lit (.bool res)) []:=by
 refine co (hi:=Ik) func300 rfl rfl ?_
 unfold lN at h
 obtain⟨r01,g1,h⟩:=af h
 simp(config:=cS)only[go_sem]
 have g1:=ctr g1
 refine aj g1 ?_
 obtain⟨h2,h⟩|⟨h2,h⟩:=aP h
 ·cases h
  simp(config:=cS)only[go_sem,eZt h2]
 obtain⟨r02,g3,h⟩:=af h
 simp(config:=cS)only[go_sem,eZf h2]
 have g3:=ctr g3
 refine aj g3 ?_
 obtain⟨h4,h⟩|⟨h4,h⟩:=aP h
 ·cases h
  simp(config:=cS)only[go_sem,eZf h2,eZt h4]
 obtain⟨r03,g5,h⟩:=af h
 simp(config:=cS)only[go_sem,eZf h2,eZf h4]
 have g5:=ctr g5
 refine aj g5 ?_
 obtain⟨h6,h⟩|⟨h6,h⟩:=aP h
 ·cases h
  simp(config:=cS)only[go_sem,eZf h2,eZf h4,eZt h6]
 obtain⟨r04,g7,h⟩:=af h
 simp(config:=cS)only[go_sem,eZf h2,eZf h4,eZf h6]
 have g7:=ctr g7
 refine aj g7 ?_
 obtain⟨q09,l8,h⟩:=af h
 simp(config:=cS)only[go_sem,eZf h2,eZf h4,eZf h6]
 refine ah (m1:=.mk) (m2:=.mk) [.nf [2,3,5,6,7] [128,192,1280,1281]] (xN s.nodes s.ties s.horizon v1.now v1.times v1.values r04.1 r04.2) l8 ?_ ?_
 ·simp(config:=cS)only[go_sem,eZf h2,eZf h4,eZf h6]
 intro nb9 n_1 bb9 b9 gb9
 unfold iR at b9
 try dsimp only at b9
 obtain⟨h10,b9⟩:=fq b9
 obtain⟨h11,b9⟩|⟨h11,b9⟩:=aP b9
 ·obtain⟨r05,g12,b9⟩:=af b9
  simp(config:=cS)only[go_sem,eZf h2,eZf h4,eZf h6,eqF h10,eqT h11]
  have g12:=ctr g12
  refine aj g12 ?_
  obtain⟨r06,g13,b9⟩:=af b9
  simp(config:=cS)only[go_sem,eZf h2,eZf h4,eZf h6,eqF h10,eqT h11]
  have g13:=ctr g13
  refine aj g13 ?_
  obtain⟨r07,g14,b9⟩:=af b9
  simp(config:=cS)only[go_sem,eZf h2,eZf h4,eZf h6,eqF h10,eqT h11]
  have g14:=ctr g14
  refine aj g14 ?_
  obtain⟨r08,g15,b9⟩:=af b9
  simp(config:=cS)only[go_sem,eZf h2,eZf h4,eZf h6,eqF h10,eqT h11]
  refine aj (Ed @hrec g15) ?_
  obtain⟨h16,b9⟩|⟨h16,b9⟩:=aP b9
  ·cases b9
   simp(config:=cS)only[go_sem,eZf h2,eZf h4,eZf h6,eqF h10,eqT h11,eZt h16]
   refine fA gb9 ?_
   simp(config:=cS)only[go_sem,eZf h2,eZf h4,eZf h6,eqF h10,eqT h11,eZt h16]
  cases b9
  obtain rfl:=(aD gb9).symm
  try dsimp only at h
  cases h
  simp(config:=cS)only[go_sem,eZf h2,eZf h4,eZf h6,eqF h10,eqT h11,eZf h16]
 cases b9
 obtain rfl:=(aD gb9).symm
 try dsimp only at h
 cases h
 simp(config:=cS)only[go_sem,eZf h2,eZf h4,eZf h6,eqF h10,eqF h11]
theorem yH (fu:Nat):∀ {s:GShow} {v1:GState} {res:Bool},lO fu s v1=some res→ak prog 300 [.agg (GShow.encS s),.agg (GState.encS v1)] [] (.lit (.bool res)) []:=by
 induction fu with
 | zero=>intro _ _ _ h;cases h
 | succ fu ih=>intro _ _ _ h;exact Ee (@ih) h
theorem Hg {s:GShow}{v1:GState}{res:Bool}(h:m_spec_l15Win s v1=some res):ak prog 300 [.agg (GShow.encS s),.agg (GState.encS v1)] [] (.lit (.bool res)) []:=yH 40 h
@[go_sem] def hi238_1:DT:=.r2 0 3 (.i1 3 (.i2 4 (.i0 5 [3] (.r2 6 3 .nil))))
def Il:Hint where
 acts:=fun _=>[]
 draws:=fun
  | 1=>⟨hi238_1,[[],[0],[0,1],[0,1,2],[0,1,2],[0,1,2,4],.range 6,.range 7,.range 8],.range 9⟩
  | _=>⟨.nil,[],[]⟩
theorem Vp (i:Nat):Il.acts i=[]:=rfl
theorem Vq (i:Nat):Il.views i=none:=rfl
attribute[go_sem] Vp Vq ntmps238 results238
@[go_sem] theorem Zs:(Il.draws 1).order=hi238_1:=rfl
instance k238 {s:GShow}:Ctr (kU s) (fun (res:Bool)=>ak prog 238 [.agg (GShow.encS s)] [] (.lit (.bool res)) []):=⟨by
 intro res h0
 refine co (hi:=Il) func238 rfl rfl ?_
 unfold kU at h0
 obtain⟨r01,g0,h0⟩:=af h0
 simp(config:=cS)only[go_sem, *]
 have g0:=ctr g0
 refine aj g0 ?_
 obtain⟨_,h0⟩|⟨_,h0⟩:=itB h0
 ·obtain⟨r02,g0,h0⟩:=af h0
  simp(config:=cS)only[go_sem, *]
  have g0:=ctr g0
  refine aj g0 ?_
  obtain⟨r03,g0,h0⟩:=af h0
  simp(config:=cS)only[go_sem, *]
  refine aj (Hg g0) ?_
  exact run
 exact run⟩
@[go_sem] def wD (v8:List GTie)(v9:Int):(Int × (List Int))→St
 | (v10,out)=>⟨[(3,.ref 384 1 0 out.length),(8,.sl (ab GTie.enc v8)),(9,.lit (.int .i64 v9)),(10,.lit (.int .i64 v10))],[(384,1,.row true (ab eI out))],2⟩
instance k201 {s:GShow}:Ctr (fQ s) (fun (res:List Int)=>ak prog 201 [.agg (GShow.encS s)] [] (.ref 20000 1 0 res.length) [(20000,1,.row true (ab eI res))]):=⟨by
 intro res h0
 refine aB (ra:=[.home 2]) (md:=mdT) hT (hi:=hi00) func201 rfl rfl (by decide +kernel) (by simp) ?_
 unfold fQ at h0
 obtain⟨q02,l0,h0⟩:=af h0
 simp(config:=cS)only[go_sem, *]
 refine ah (m1:=.mk) (m2:=.mk) [.nf [3,8,9,10] [384]] (wD s.ties (s.ties.length:Int)) l0 ?_ ?_
 ·simp(config:=cS)only[go_sem, *]
 have k0:=h0
 clear h0 l0
 intro _ s0 _ h0 gb0
 obtain⟨v10_1,out_1⟩:=s0
 unfold jS at h0
 try dsimp only at h0
 exact run⟩
@[go_sem] def sD (v12:Int)(s_0:List GNode)(s_1:List GTie)(s_2:Int)(v11:List Int):(Int × Int)→St
 | (n,v13)=>⟨[(1,.ptr 64 1 0 0),(3,.lit (.int .i64 n)),(11,.ref 704 1 0 v11.length),(12,.lit (.int .i64 v12)),(13,.lit (.int .i64 v13))],[(64,1,.var [.sl (ab GNode.encS s_0),.sl (ab GTie.enc s_1),.lit (.int .i64 s_2)]),(704,1,.row true (ab eI v11))],2⟩
@[go_sem] def sE (s_0:List GNode)(s_1:List GTie)(s_2:Int):(Int × Int)→St
 | (n,p)=>⟨[(1,.ptr 64 1 0 0),(3,.lit (.int .i64 n)),(6,.lit (.int .i64 p))],[(64,1,.var [.sl (ab GNode.encS s_0),.sl (ab GTie.enc s_1),.lit (.int .i64 s_2)])],2⟩
@[go_sem] def hi100_7:DT:=.r2 0 17 .nil
def Im:Hint where
 acts:=fun _=>[]
 draws:=fun
  | 7=>⟨hi100_7,[[],[],[1],[],[1,2,3],[1,2,3,4],[1,2,3,4,5],[],[7],[],[7,8,9],[7,8,9,10],[7,8,9,10,11],[1,2,3,4,5,6,7,8,9,10,11,12],[1,2,3,4,5,6,7,8,9,10,11,12,13],.range 15,.range 16],.range 17⟩
  | _=>⟨.nil,[],[]⟩
theorem Vr (i:Nat):Im.acts i=[]:=rfl
theorem Vs (i:Nat):Im.views i=none:=rfl
attribute[go_sem] Vr Vs ntmps100 results100
@[go_sem] theorem Zt:(Im.draws 7).order=hi100_7:=rfl
instance k100 {s:GShow}:Ctr (bF s) (fun (res:Int)=>ak prog 100 [.agg (GShow.encS s)] [] (.lit (.int .i64 res)) []):=⟨by
 intro res h0
 refine co (hi:=Im) func100 rfl rfl ?_
 unfold bF at h0
 obtain⟨r01,g0,h0⟩:=af h0
 simp(config:=cS)only[go_sem, *]
 have g0:=ctr g0
 refine aj g0 ?_
 obtain⟨_,h0⟩|⟨_,h0⟩:=itB h0
 ·obtain⟨r02,g0,h0⟩:=af h0
  simp(config:=cS)only[go_sem, *]
  have g0:=ctr g0
  refine aj g0 ?_
  obtain⟨q07,l0,h0⟩:=af h0
  simp(config:=cS)only[go_sem, *]
  refine ah (m1:=.mk) (m2:=.mk) [.nf [1,3,11,12,13] [64,704]] (sD (r02.length:Int) s.nodes s.ties s.horizon r02) l0 ?_ ?_
  ·simp(config:=cS)only[go_sem, *]
  have k0:=h0
  clear h0 l0
  intro _ s0 _ h0 gb0
  obtain⟨n_1,v13_1⟩:=s0
  unfold bS at h0
  try dsimp only at h0
  obtain⟨_,h0⟩|⟨_,h0⟩:=itP h0
  ·exact run
  cases h0
  obtain rfl:=(aD gb0).symm
  clear gb0
  have h0:=k0
  clear k0
  try dsimp only at h0
  obtain⟨q06,l0,h0⟩:=af h0
  simp(config:=cS)only[go_sem, *]
  refine ah (m1:=.mk) (m2:=.mk) [.nf [1,3,6] [64]] (sE s.nodes s.ties s.horizon) l0 ?_ ?_
  ·simp(config:=cS)only[go_sem, *]
  have k0:=h0
  clear h0 l0
  intro _ s0 _ h0 gb0
  obtain⟨n_2,p_2⟩:=s0
  unfold cy at h0
  try dsimp only at h0
  exact run
 exact run⟩
@[go_sem] def vx (v22:Int)(s_0:List GNode)(s_1:List GTie)(s_2:Int)(v21:List Int):(Int × Int × (List Int))→St
 | (n,v23,h100024576)=>⟨[(1,.lit (.int .i64 n)),(2,.ptr 128 1 0 0),(4,.ptr 256 1 0 0),(6,.ptr 384 1 0 0),(21,.ref 1344 1 0 v21.length),(22,.lit (.int .i64 v22)),(23,.lit (.int .i64 v23))],[(128,1,.var [.sl (ab GNode.encS s_0),.sl (ab GTie.enc s_1),.lit (.int .i64 s_2)]),(256,1,.var [.lit (.slice none 0 0),.lit (.slice none 0 0)]),(384,1,.var [.ref 100024576 1 0 h100024576.length,.lit (.slice none 0 0)]),(100024576,1,.row true (ab eI h100024576)),(1344,1,.row true (ab eI v21))],2⟩
@[go_sem] def vy (s_0:List GNode)(s_1:List GTie)(s_2:Int)(h100024576:List Int):(Int × Int × (List Int))→St
 | (n,p,h100024577)=>⟨[(1,.lit (.int .i64 n)),(2,.ptr 128 1 0 0),(4,.ptr 256 1 0 0),(6,.ptr 384 1 0 0),(10,.lit (.int .i64 p))],[(128,1,.var [.sl (ab GNode.encS s_0),.sl (ab GTie.enc s_1),.lit (.int .i64 s_2)]),(256,1,.var [.lit (.slice none 0 0),.lit (.slice none 0 0)]),(384,1,.var [.ref 100024576 1 0 h100024576.length,.ref 100024577 1 0 h100024577.length]),(100024576,1,.row true (ab eI h100024576)),(100024577,1,.row true (ab eI h100024577))],2⟩
@[go_sem] def hi99_8:DT:=.i1 0 (.i1 1 (.r2 2 10 (.i0 12 [0,1] (.r2 13 3 .nil))))
@[go_sem] def hi99_7:DT:=.r2 0 15 .nil
def hi99:Hint where
 acts:=fun _=>[]
 draws:=fun
  | 7=>⟨hi99_7,[[],[0],[],[0,1,2],[0,1,2,3],.range 5,[],[6],[],[6,7,8],[6,7,8,9],[6,7,8,9,10],.range 12,.range 13,.range 14],.range 15⟩
  | 8=>⟨hi99_8,[[],[0],[],[2],[],[2,3,4],[2,3,4,5],[2,3,4,5,6],[],[],[8,9],[2,3,4,5,6,7,8,9,10],[2,3,4,5,6,7,8,9,10,11],.range 13,.range 14,.range 15],.range 16⟩
  | _=>⟨.nil,[],[]⟩
theorem Xp (i:Nat):hi99.acts i=[]:=rfl
theorem Xq (i:Nat):hi99.views i=none:=rfl
attribute[go_sem] Xp Xq ntmps99 results99
@[go_sem] theorem aat:(hi99.draws 7).order=hi99_7:=rfl
@[go_sem] theorem aau:(hi99.draws 8).order=hi99_8:=rfl
instance k99 {s:GShow} {n:Int}:Ctr (cP s n) (fun (res:GChoice × Bool)=>ak prog 99 [.agg (GShow.encS s),.lit (.int .i64 n)] [] (.tup [.agg [.ref 20000 1 0 res.1.lengths.length,.ref 20001 1 0 res.1.values.length],.lit (.bool res.2)]) [(20000,1,.row true (ab eI res.1.lengths)),(20001,1,.row true (ab eI res.1.values))]):=⟨by
 intro res h0
 refine aB (ra:=[.homeCell 256 0,.homeCell 256 1]) (md:=mdT) hT (hi:=hi99) func99 rfl rfl (by decide +kernel) (by simp) ?_
 unfold cP at h0
 obtain⟨r01,g0,h0⟩:=af h0
 simp(config:=cS)only[go_sem, *]
 have g0:=ctr g0
 refine aj g0 ?_
 obtain⟨r02,g0,h0⟩:=af h0
 simp(config:=cS)only[go_sem, *]
 have g0:=ctr g0
 refine aj g0 ?_
 obtain⟨_,h0⟩|⟨_,h0⟩:=itB h0
 ·obtain⟨r03,g0,h0⟩:=af h0
  simp(config:=cS)only[go_sem, *]
  have g0:=ctr g0
  refine aj g0 ?_
  obtain⟨q08,l0,h0⟩:=af h0
  simp(config:=cS)only[go_sem, *]
  refine ah (m1:=.mk) (m2:=.mk) [.homeCell 384 0,.nf [1,2,4,6,21,22,23] [128,256,384,100024576,1344]] (vx (r03.length:Int) s.nodes s.ties s.horizon r03) l0 ?_ ?_
  ·simp(config:=cS)only[go_sem, *]
  have k0:=h0
  clear h0 l0
  intro _ s0 _ h0 gb0
  obtain⟨n_1,v23_1,h100024576_1⟩:=s0
  unfold dS at h0
  try dsimp only at h0
  obtain⟨_,h0⟩|⟨_,h0⟩:=itP h0
  ·exact run
  cases h0
  obtain rfl:=(aD gb0).symm
  clear gb0
  have h0:=k0
  clear k0
  try dsimp only at h0
  obtain⟨q07,l0,h0⟩:=af h0
  simp(config:=cS)only[go_sem, *]
  refine ah (m1:=.mk) (m2:=.mk) [.homeCell 384 1,.nf [1,2,4,6,10] [128,256,384,100024576,100024577]] (vy s.nodes s.ties s.horizon h100024576_1) l0 ?_ ?_
  ·simp(config:=cS)only[go_sem, *]
  have k0:=h0
  clear h0 l0
  intro _ s0 _ h0 gb0
  obtain⟨n_2,p_2,h100024577_2⟩:=s0
  unfold cR at h0
  try dsimp only at h0
  exact run
 exact run⟩
@[go_sem] def vz (v28:Int)(s_0:List GNode)(s_1:List GTie)(s_2:Int)(v3_0 v3_1 v27:List Int)(v29:Int):St:=⟨[(2,.ptr 128 1 0 0),(3,.ptr 192 1 0 0),(27,.ref 896 1 0 v27.length),(28,.lit (.int .i64 v28)),(29,.lit (.int .i64 v29))],[(128,1,.var [.sl (ab GNode.encS s_0),.sl (ab GTie.enc s_1),.lit (.int .i64 s_2)]),(192,1,.var [.sl (ab eI v3_0),.sl (ab eI v3_1)]),(896,1,.row true (ab eI v27))],2⟩
@[go_sem] def vA (v55:List Int)(v56:Int)(s_0:List GNode)(s_1:List GTie)(s_2 v57:Int):St:=⟨[(2,.ptr 128 1 0 0),(55,.sl (ab eI v55)),(56,.lit (.int .i64 v56)),(57,.lit (.int .i64 v57))],[(128,1,.var [.sl (ab GNode.encS s_0),.sl (ab GTie.enc s_1),.lit (.int .i64 s_2)])],2⟩
@[go_sem] def hi156_9:DT:=.r2 0 19 .nil
def In:Hint where
 acts:=fun _=>[]
 draws:=fun
  | 9=>⟨hi156_9,[[],[0],[],[0,1,2],[0,1,2,3],[],[5],[],[5,6,7],[5,6,7,8],[5,6,7,8,9],[],[11],[],[11,12,13],[11,12,13,14],[11,12,13,14,15],.range 17,.range 18],.range 19⟩
  | _=>⟨.nil,[],[]⟩
theorem Vt (i:Nat):In.acts i=[]:=rfl
theorem Vu (i:Nat):In.views i=none:=rfl
attribute[go_sem] Vt Vu ntmps156 results156
@[go_sem] theorem Zu:(In.draws 9).order=hi156_9:=rfl
instance k156 {s:GShow} {v1:GChoice}:Ctr (gA s v1) (fun (res:Bool)=>ak prog 156 [.agg (GShow.encS s),.agg [.sl (ab eI v1.lengths),.sl (ab eI v1.values)]] [] (.lit (.bool res)) []):=⟨by
 intro res h0
 refine co (hi:=In) func156 rfl rfl ?_
 unfold gA at h0
 obtain⟨r01,g0,h0⟩:=af h0
 simp(config:=cS)only[go_sem, *]
 have g0:=ctr g0
 refine aj g0 ?_
 obtain⟨_,h0⟩|⟨_,h0⟩:=itB h0
 ·obtain⟨r02,g0,h0⟩:=af h0
  simp(config:=cS)only[go_sem, *]
  have g0:=ctr g0
  refine aj g0 ?_
  obtain⟨_,h0⟩|⟨_,h0⟩:=itP h0
  ·obtain⟨_,h0⟩|⟨_,h0⟩:=itP h0
   ·obtain⟨q11,l0,h0⟩:=af h0
    simp(config:=cS)only[go_sem, *]
    refine ah (m1:=.mk) (m2:=.mk) [.nf [2,3,27,28,29] [128,192,896]] (vz (r02.length:Int) s.nodes s.ties s.horizon v1.lengths v1.values r02) l0 ?_ ?_
    ·simp(config:=cS)only[go_sem, *]
    have k0:=h0
    clear h0 l0
    intro _ v29_1 _ h0 gb0
    unfold fR at h0
    try dsimp only at h0
    obtain⟨_,h0⟩|⟨_,h0⟩:=itP h0
    ·exact run
    cases h0
    obtain rfl:=(aD gb0).symm
    clear gb0
    have h0:=k0
    clear k0
    try dsimp only at h0
    obtain⟨q10,l0,h0⟩:=af h0
    simp(config:=cS)only[go_sem, *]
    refine ah (m1:=.mk) (m2:=.mk) [.nf [2,55,56,57] [128]] (vA v1.values (v1.values.length:Int) s.nodes s.ties s.horizon) l0 ?_ ?_
    ·simp(config:=cS)only[go_sem, *]
    have k0:=h0
    clear h0 l0
    intro _ v57_2 _ h0 gb0
    unfold fS at h0
    try dsimp only at h0
    exact run
   exact run
  exact run
 exact run⟩
@[go_sem] def uO (tie v11:Int)(v4_0 v4_1 v10:List Int)(v12:Int):St:=⟨[(2,.lit (.int .i64 tie)),(4,.ptr 256 1 0 0),(10,.ref 640 1 0 v10.length),(11,.lit (.int .i64 v11)),(12,.lit (.int .i64 v12))],[(256,1,.var [.sl (ab eI v4_0),.sl (ab eI v4_1)]),(640,1,.row true (ab eI v10))],2⟩
instance k158 {s:GShow} {v1:GChoice} {tie:Int}:Ctr (kV s v1 tie) (fun (res:Int)=>ak prog 158 [.agg (GShow.encS s),.agg [.sl (ab eI v1.lengths),.sl (ab eI v1.values)],.lit (.int .i64 tie)] [] (.lit (.int .i64 res)) []):=⟨by
 intro res h0
 refine co (hi:=hi00) func158 rfl rfl ?_
 unfold kV at h0
 obtain⟨r01,g0,h0⟩:=af h0
 simp(config:=cS)only[go_sem, *]
 have g0:=ctr g0
 refine aj g0 ?_
 obtain⟨q04,l0,h0⟩:=af h0
 simp(config:=cS)only[go_sem, *]
 refine ah (m1:=.mk) (m2:=.mk) [.nf [2,4,10,11,12] [256,640]] (uO tie (r01.length:Int) v1.lengths v1.values r01) l0 ?_ ?_
 ·simp(config:=cS)only[go_sem, *]
 have k0:=h0
 clear h0 l0
 intro _ v12_1 _ h0 gb0
 unfold eY at h0
 try dsimp only at h0
 exact run⟩
@[go_sem] def tq (v29:List GNode)(v30:Int)(s_1:List GTie)(s_2:Int)(v3_0 v3_1:List Int):(Int × (List Bool) × (List GLink))→St
 | (v31,happens,h100024577)=>⟨[(2,.ptr 128 1 0 0),(3,.ptr 192 1 0 0),(4,.ptr 256 1 0 0),(6,.ptr 384 1 0 0),(7,.ref 1728 1 0 happens.length),(29,.sl (ab GNode.encS v29)),(30,.lit (.int .i64 v30)),(31,.lit (.int .i64 v31))],[(128,1,.var [.sl (ab GNode.encS v29),.sl (ab GTie.enc s_1),.lit (.int .i64 s_2)]),(192,1,.var [.sl (ab eI v3_0),.sl (ab eI v3_1)]),(256,1,.var [.lit (.int .i64 0),.lit (.slice none 0 0)]),(384,1,.var [.lit (.int .i64 v30),.ref 100024577 1 0 h100024577.length]),(100024577,1,.row true (ab GLink.enc h100024577)),(1728,1,.row true (ab eB happens))],2⟩
@[go_sem] def tu (v61:List GTie)(v62:Int)(s_0:List GNode)(s_2:Int)(v3_0 v3_1:List Int)(out_0:Int)(happens:List Bool):(Int × (List GLink))→St
 | (v63,h100024577)=>⟨[(2,.ptr 128 1 0 0),(3,.ptr 192 1 0 0),(4,.ptr 256 1 0 0),(6,.ptr 384 1 0 0),(7,.ref 1728 1 0 happens.length),(61,.sl (ab GTie.enc v61)),(62,.lit (.int .i64 v62)),(63,.lit (.int .i64 v63))],[(128,1,.var [.sl (ab GNode.encS s_0),.sl (ab GTie.enc v61),.lit (.int .i64 s_2)]),(192,1,.var [.sl (ab eI v3_0),.sl (ab eI v3_1)]),(256,1,.var [.lit (.int .i64 0),.lit (.slice none 0 0)]),(384,1,.var [.lit (.int .i64 out_0),.ref 100024577 1 0 h100024577.length]),(100024577,1,.row true (ab GLink.enc h100024577)),(1728,1,.row true (ab eB happens))],2⟩
@[go_sem] def tv (v114:Int)(s_0:List GNode)(s_1:List GTie)(s_2:Int)(happens:List Bool):(Int × (List GLink))→St
 | (v115,h100024577)=>⟨[(2,.ptr 128 1 0 0),(4,.ptr 256 1 0 0),(6,.ptr 384 1 0 0),(7,.ref 1728 1 0 happens.length),(114,.lit (.int .i64 v114)),(115,.lit (.int .i64 v115))],[(128,1,.var [.sl (ab GNode.encS s_0),.sl (ab GTie.enc s_1),.lit (.int .i64 s_2)]),(256,1,.var [.lit (.int .i64 0),.lit (.slice none 0 0)]),(384,1,.var [.lit (.int .i64 v114),.ref 100024577 1 0 h100024577.length]),(100024577,1,.row true (ab GLink.enc h100024577)),(1728,1,.row true (ab eB happens))],2⟩
@[go_sem] def tw (i:Int)(v132:List GNode)(v133:Int)(v140:List Int)(v141:Int)(s_1:List GTie)(s_2:Int)(happens:List Bool):(Int × (List GLink))→St
 | (v142,h100024577)=>⟨[(2,.ptr 128 1 0 0),(4,.ptr 256 1 0 0),(6,.ptr 384 1 0 0),(7,.ref 1728 1 0 happens.length),(14,.lit (.int .i64 i)),(132,.sl (ab GNode.encS v132)),(133,.lit (.int .i64 v133)),(134,.lit (.int .i64 i)),(140,.sl (ab eI v140)),(141,.lit (.int .i64 v141)),(142,.lit (.int .i64 v142))],[(128,1,.var [.sl (ab GNode.encS v132),.sl (ab GTie.enc s_1),.lit (.int .i64 s_2)]),(256,1,.var [.lit (.int .i64 0),.lit (.slice none 0 0)]),(384,1,.var [.lit (.int .i64 v133),.ref 100024577 1 0 h100024577.length]),(100024577,1,.row true (ab GLink.enc h100024577)),(1728,1,.row true (ab eB happens))],2⟩
@[go_sem] def tx (v132:List GNode)(v133:Int)(s_1:List GTie)(s_2:Int)(happens:List Bool):(Int × (List GLink))→St
 | (v134,h100024577)=>⟨[(2,.ptr 128 1 0 0),(4,.ptr 256 1 0 0),(6,.ptr 384 1 0 0),(7,.ref 1728 1 0 happens.length),(132,.sl (ab GNode.encS v132)),(133,.lit (.int .i64 v133)),(134,.lit (.int .i64 v134))],[(128,1,.var [.sl (ab GNode.encS v132),.sl (ab GTie.enc s_1),.lit (.int .i64 s_2)]),(256,1,.var [.lit (.int .i64 0),.lit (.slice none 0 0)]),(384,1,.var [.lit (.int .i64 v133),.ref 100024577 1 0 h100024577.length]),(100024577,1,.row true (ab GLink.enc h100024577)),(1728,1,.row true (ab eB happens))],2⟩
@[go_sem] def hi60_35:DT:=.i1 0 (.i1 1 (.i1 2 (.i2 3 (.i2 6 (.i2 7 (.i0 4 [0,1,2] (.i0 5 [0,1] (.i2 8 (.i0 9 [0,1] (.r2 10 3 .nil))))))))))
def hi60:Hint where
 acts:=fun _=>[]
 draws:=fun
  | 35=>⟨hi60_35,[[],[0],[],[],[3],[2,3,4],[],[],[2,3,4,5,6,7],[2,3,4,5,6,7,8],.range 10,.range 11,.range 12],.range 13⟩
  | _=>⟨.nil,[],[]⟩
theorem Xr (i:Nat):hi60.acts i=[]:=rfl
theorem Xs (i:Nat):hi60.views i=none:=rfl
attribute[go_sem] Xr Xs ntmps60 results60
@[go_sem] theorem Zv:(hi60.draws 35).order=hi60_35:=rfl
instance k60 {s:GShow} {v1:GChoice}:Ctr (jo s v1) (fun (res:GSimple × Bool)=>ak prog 60 [.agg (GShow.encS s),.agg [.sl (ab eI v1.lengths),.sl (ab eI v1.values)]] [] (.tup [.agg [.lit (.int .i64 res.1.events),.ref 20000 1 0 res.1.links.length],.lit (.bool res.2)]) [(20000,1,.row true (ab GLink.enc res.1.links))]):=⟨by
 intro res h0
 refine aB (ra:=[.homeCell 256 1]) (md:=mdT) hT (hi:=hi60) func60 rfl rfl (by decide +kernel) (by simp) ?_
 unfold jo at h0
 obtain⟨r01,g0,h0⟩:=af h0
 simp(config:=cS)only[go_sem, *]
 have g0:=ctr g0
 refine aj g0 ?_
 obtain⟨_,h0⟩|⟨_,h0⟩:=itB h0
 ·obtain⟨q20,l0,h0⟩:=af h0
  simp(config:=cS)only[go_sem, *]
  refine ah (m1:=.mk) (m2:=.mk) [.homeCell 384 1,.nf [2,3,4,6,7,29,30,31] [128,192,256,384,100024577,1728]] (tq s.nodes (s.nodes.length:Int) s.ties s.horizon v1.lengths v1.values) l0 ?_ ?_
  ·simp(config:=cS)only[go_sem, *]
  have k0:=h0
  clear h0 l0
  intro _ s0 _ h0 gb0
  obtain⟨v31_1,happens_1,h100024577_1⟩:=s0
  unfold dE at h0
  try dsimp only at h0
  obtain⟨_,h0⟩|⟨_,h0⟩:=itP h0
  ·obtain⟨x02,_,_,_,h0⟩:=gtI h0
   obtain⟨r03,g0,h0⟩:=af h0
   simp(config:=cS)only[go_sem, *]
   have g0:=ctr g0
   refine aj g0 ?_
   obtain⟨_,h0⟩:=ckP h0
   obtain⟨_,h0⟩:=ckP h0
   obtain⟨x04,a1,a2,a3,h0⟩:=gtI h0
   try simp only[List.length_append,List.length_cons,List.length_nil,Nat.zero_add,Nat.reduceAdd]at a1
   try simp only[List.length_append,List.length_cons,List.length_nil,Nat.zero_add,Nat.reduceAdd]at a2
   try simp only[List.length_append,List.length_cons,List.length_nil,Nat.zero_add,Nat.reduceAdd]at a3
   exact run
  cases h0
  obtain rfl:=(aD gb0).symm
  clear gb0
  have h0:=k0
  clear k0
  try dsimp only at h0
  obtain⟨q19,l0,h0⟩:=af h0
  simp(config:=cS)only[go_sem, *]
  refine ah (m1:=.mk) (m2:=.mk) [.nf [2,3,4,6,7,61,62,63] [128,192,256,384,100024577,1728]] (tu s.ties (s.ties.length:Int) s.nodes s.horizon v1.lengths v1.values (s.nodes.length:Int) happens_1) l0 ?_ ?_
  ·simp(config:=cS)only[go_sem, *]
  have k0:=h0
  clear h0 l0
  intro _ s0 _ h0 gb0
  obtain⟨v63_2,h100024577_2⟩:=s0
  unfold dF at h0
  try dsimp only at h0
  obtain⟨_,h0⟩|⟨_,h0⟩:=itP h0
  ·exact run
  cases h0
  obtain rfl:=(aD gb0).symm
  clear gb0
  have h0:=k0
  clear k0
  try dsimp only at h0
  obtain⟨q18,l0,h0⟩:=af h0
  simp(config:=cS)only[go_sem, *]
  refine ah (m1:=.mk) (m2:=.mk) [.nf [2,4,6,7,114,115] [128,256,384,100024577,1728]] (tv (s.nodes.length:Int) s.nodes s.ties s.horizon happens_1) l0 ?_ ?_
  ·simp(config:=cS)only[go_sem, *]
  have k0:=h0
  clear h0 l0
  intro _ s0 _ h0 gb0
  obtain⟨v115_3,h100024577_3⟩:=s0
  unfold dG at h0
  try dsimp only at h0
  obtain⟨_,h0⟩|⟨_,h0⟩:=itP h0
  ·exact run
  cases h0
  obtain rfl:=(aD gb0).symm
  clear gb0
  have h0:=k0
  clear k0
  try dsimp only at h0
  obtain⟨q17,l0,h0⟩:=af h0
  simp(config:=cS)only[go_sem, *]
  refine ah (m1:=.mk) (m2:=.mk) [.nf [2,4,6,7,132,133,134] [128,256,384,100024577,1728]] (tx s.nodes (s.nodes.length:Int) s.ties s.horizon happens_1) l0 ?_ ?_
  ·simp(config:=cS)only[go_sem, *]
  have k0:=h0
  clear h0 l0
  intro _ s0 _ h0 gb0
  obtain⟨v134_4,h100024577_4⟩:=s0
  unfold dI at h0
  try dsimp only at h0
  obtain⟨_,h0⟩|⟨_,h0⟩:=itP h0
  ·obtain⟨x10,_,_,_,h0⟩:=gtI h0
   obtain⟨q15,l0,h0⟩:=af h0
   simp(config:=cS)only[go_sem, *]
   refine ah (m1:=.mk) (m2:=.mk) [.nf [2,4,6,7,14,132,133,134,140,141,142] [128,256,384,100024577,1728]] (tw v134_4 s.nodes (s.nodes.length:Int) x10.label (x10.label.length:Int) s.ties s.horizon happens_1) l0 ?_ ?_
   ·simp(config:=cS)only[go_sem, *]
   have k0:=h0
   clear h0 l0
   intro _ s0 _ h0 gb0
   obtain⟨v142_5,h100024577_5⟩:=s0
   unfold dH at h0
   try dsimp only at h0
   exact run
  exact run
 exact run⟩
instance k343 {s:GShow} {v1:GChoice}:Ctr (kW s v1) (fun (res:Bool)=>ak prog 343 [.agg (GShow.encS s),.agg [.sl (ab eI v1.lengths),.sl (ab eI v1.values)]] [] (.lit (.bool res)) []):=⟨by
 intro res h0
 refine co (hi:=hi00) func343 rfl rfl ?_
 unfold kW at h0
 exact run⟩
@[go_sem] def tz (s_0:List GNode)(s_1:List GTie)(s_2 n:Int):St:=⟨[(1,.ptr 64 1 0 0),(3,.lit (.int .i64 n))],[(64,1,.var [.sl (ab GNode.encS s_0),.sl (ab GTie.enc s_1),.lit (.int .i64 s_2)])],2⟩
instance k302 {s:GShow}:Ctr (jp s) (fun (res:Int)=>ak prog 302 [.agg (GShow.encS s)] [] (.lit (.int .i64 res)) []):=⟨by
 intro res h0
 refine co (hi:=hi00) func302 rfl rfl ?_
 unfold jp at h0
 obtain⟨q04,l0,h0⟩:=af h0
 simp(config:=cS)only[go_sem, *]
 refine ah (m1:=.mk) (m2:=.mk) [.nf [1,3] [64]] (tz s.nodes s.ties s.horizon) l0 ?_ ?_
 ·simp(config:=cS)only[go_sem, *]
 have k0:=h0
 clear h0 l0
 intro _ n_1 _ h0 gb0
 unfold dJ at h0
 try dsimp only at h0
 exact run⟩
instance k239 {s:GShow}:Ctr (nN s) (fun (res:Bool)=>ak prog 239 [.agg (GShow.encS s)] [] (.lit (.bool res)) []):=⟨by
 intro res h0
 refine co (hi:=hi00) func239 rfl rfl ?_
 unfold nN at h0
 exact run⟩
instance k149 {s:GShow}:Ctr (mL s) (fun (res:Int)=>ak prog 149 [.agg (GShow.encS s)] [] (.lit (.int .i64 res)) []):=⟨by
 intro res h0
 refine co (hi:=hi00) func149 rfl rfl ?_
 unfold mL at h0
 exact run⟩
instance k54 {t:GSheet}:Ctr (ir t) (fun (res:Int)=>ak prog 54 [.agg (GSheet.encS t)] [] (.lit (.int .i64 res)) []):=⟨by
 intro res h0
 refine co (hi:=hi00) func54 rfl rfl ?_
 unfold ir at h0
 exact run⟩
@[go_sem] def xO (s:ByteArray)(i:Int):St:=⟨[(0,.lit (.string s)),(3,.lit (.int .i64 i))],[],2⟩
@[go_sem] def hi220_4:DT:=.r2 0 22 .nil
def Io:Hint where
 acts:=fun _=>[]
 draws:=fun
  | 4=>⟨hi220_4,[[],[],[0,1],[0,1,2],[0,1,2,3],.range 5,.range 5,.range 7,.range 8,.range 9,[],[],[10,11],[10,11,12],[0,1,2,3,4,10,11,12,13],[0,1,2,3,4,10,11,12,13,14],[0,1,2,3,4,10,11,12,13,14],[0,1,2,3,4,10,11,12,13,14,15,16],[0,1,2,3,4,10,11,12,13,14,15,16,17],[0,1,2,3,4,10,11,12,13,14,15,16,17,18],.range 15,.range 21],[0,1,2,3,4,5,6,7,8,9,10,11,12,13,14,16,17,18,19,20,15,21]⟩
  | _=>⟨.nil,[],[]⟩
theorem Vv (i:Nat):Io.acts i=[]:=rfl
theorem Vw (i:Nat):Io.views i=none:=rfl
attribute[go_sem] Vv Vw ntmps220 results220
@[go_sem] theorem Zw:(Io.draws 4).order=hi220_4:=rfl
instance k220 {s:ByteArray}:Ctr (ly s) (fun (res:Bool)=>ak prog 220 [.lit (.string s)] [] (.lit (.bool res)) []):=⟨by
 intro res h0
 refine co (hi:=Io) func220 rfl rfl ?_
 unfold ly at h0
 obtain⟨q02,l0,h0⟩:=af h0
 simp(config:=cS)only[go_sem, *]
 refine ah (m1:=.mk) (m2:=.mk) [.nf [0,3] []] (xO s) l0 ?_ ?_
 ·simp(config:=cS)only[go_sem, *]
 have k0:=h0
 clear h0 l0
 intro _ i_1 _ h0 gb0
 unfold iS at h0
 try dsimp only at h0
 exact run⟩
instance k126 {n:Int} {most:Int}:Ctr (ck n most) (fun (res:Bool)=>ak prog 126 [.lit (.int .i64 n),.lit (.int .i64 most)] [] (.lit (.bool res)) []):=⟨by
 intro res h0
 refine co (hi:=hi00) func126 rfl rfl ?_
 unfold ck at h0
 exact run⟩
instance k122 {v0:GCue} {index:Int}:Ctr (oJ v0 index) (fun (res:Bool)=>ak prog 122 [.agg (GCue.enc v0),.lit (.int .i64 index)] [] (.lit (.bool res)) []):=⟨by
 intro res h0
 refine co (hi:=hi00) func122 rfl rfl ?_
 unfold oJ at h0
 exact run⟩
@[go_sem] def qS (v0:List GCue)(f_v1:Nat)(k_v1:List AV)(v7 v8:Int):St:=⟨[(0,.sl (ab GCue.enc v0)),(1,.fn f_v1 k_v1),(7,.lit (.int .i64 v7)),(8,.lit (.int .i64 v8))],[],2⟩
theorem uP {v0:List GCue}{v1:GCue→Option Bool}{f_v1:Nat}{k_v1:List AV}(hp_v1:∀ y0 r,v1 y0=some r→ak prog f_v1 ([.agg (GCue.enc y0)]++k_v1) [] (.lit (.bool r)) [])(hc_v1:KC k_v1)(hm_v1:∀ a,mdT f_v1 a=⟨[],false⟩)(hk_v1:spf f_v1=false){res:Int}(h:fa v0 v1=some res):ak prog 221 [.sl (ab GCue.enc v0),.fn f_v1 k_v1] [] (.lit (.int .i64 res)) []:=by
 refine co (hi:=hi00) func221 rfl rfl ?_
 unfold fa at h
 obtain⟨q03,l1,h⟩:=af h
 simp(config:=cS)only[go_sem,hc_v1.1,hc_v1.2,hm_v1,hk_v1]
 refine ah (m1:=.mk) (m2:=.mk) [.nf [0,1,7,8] []] (qS v0 f_v1 k_v1 (v0.length:Int)) l1 ?_ ?_
 ·simp(config:=cS)only[go_sem,hc_v1.1,hc_v1.2,hm_v1,hk_v1]
 intro nb2 v8_1 bb2 b2 gb2
 unfold cC at b2
 try dsimp only at b2
 obtain⟨h3,b2⟩|⟨h3,b2⟩:=aP b2
 ·obtain⟨x01,g4,b2⟩:=af b2
  obtain⟨h5,h6,h7⟩:=dO g4
  obtain⟨r02,g8,b2⟩:=af b2
  simp(config:=cS)only[go_sem,hc_v1.1,hc_v1.2,hm_v1,hk_v1,eqT h3,h5,h6,h7]
  refine aj (hp_v1 _ _ g8) ?_
  obtain⟨h9,b2⟩|⟨h9,b2⟩:=aP b2
  ·cases b2
   obtain rfl:=(aD gb2).symm
   try dsimp only at h
   cases h
   simp(config:=cS)only[go_sem,hc_v1.1,hc_v1.2,hm_v1,hk_v1,eqT h3,h5,h6,h7,eZt h9]
  cases b2
  simp(config:=cS)only[go_sem,hc_v1.1,hc_v1.2,hm_v1,hk_v1,eqT h3,h5,h6,h7,eZf h9]
  refine fA gb2 ?_
  simp(config:=cS)only[go_sem,hc_v1.1,hc_v1.2,hm_v1,hk_v1,eqT h3,h5,h6,h7,eZf h9]
 cases b2
 obtain rfl:=(aD gb2).symm
 try dsimp only at h
 cases h
 simp(config:=cS)only[go_sem,hc_v1.1,hc_v1.2,hm_v1,hk_v1,eqF h3]
instance k222 {v0:GCue} {name:ByteArray}:Ctr (lP v0 name) (fun (res:Bool)=>ak prog 222 [.agg (GCue.enc v0),.loc [.lit (.string name)]] [] (.lit (.bool res)) []):=⟨by
 intro res h0
 refine co (hi:=hi00) func222 rfl rfl ?_
 unfold lP at h0
 exact run⟩
instance k123 {t:GSheet} {name:ByteArray}:Ctr (lQ t name) (fun (res:Int)=>ak prog 123 [.agg (GSheet.encS t),.lit (.string name)] [] (.lit (.int .i64 res)) []):=⟨by
 intro res h0
 refine co (hi:=hi00) func123 rfl rfl ?_
 unfold lQ at h0
 obtain⟨r01,g0,h0⟩:=af h0
 simp(config:=cS)only[go_sem, *]
 refine aj (uP (by exact fun _ _ hr=>by have q:=ctr hr;exact q) (by refine⟨fun _=>?_,fun _=>?_⟩ <;> simp only[go_sem]) (fun _=>rfl) rfl g0) ?_
 exact run⟩
@[go_sem] def qT (v0:List Int)(f_v1:Nat)(k_v1:List AV)(v7 v8:Int):St:=⟨[(0,.sl (ab eI v0)),(1,.fn f_v1 k_v1),(7,.lit (.int .i64 v7)),(8,.lit (.int .i64 v8))],[],2⟩
theorem pq {v0:List Int}{v1:Int→Option Bool}{f_v1:Nat}{k_v1:List AV}(hp_v1:∀ y0 r,v1 y0=some r→ak prog f_v1 ([.lit (.int .i64 y0)]++k_v1) [] (.lit (.bool r)) [])(hc_v1:KC k_v1)(hm_v1:∀ a,mdT f_v1 a=⟨[],false⟩)(hk_v1:spf f_v1=false){res:Int}(h:dx v0 v1=some res):ak prog 223 [.sl (ab eI v0),.fn f_v1 k_v1] [] (.lit (.int .i64 res)) []:=by
 refine co (hi:=hi00) func223 rfl rfl ?_
 unfold dx at h
 obtain⟨q03,l1,h⟩:=af h
 simp(config:=cS)only[go_sem,hc_v1.1,hc_v1.2,hm_v1,hk_v1]
 refine ah (m1:=.mk) (m2:=.mk) [.nf [0,1,7,8] []] (qT v0 f_v1 k_v1 (v0.length:Int)) l1 ?_ ?_
 ·simp(config:=cS)only[go_sem,hc_v1.1,hc_v1.2,hm_v1,hk_v1]
 intro nb2 v8_1 bb2 b2 gb2
 unfold cD at b2
 try dsimp only at b2
 obtain⟨h3,b2⟩|⟨h3,b2⟩:=aP b2
 ·obtain⟨x01,g4,b2⟩:=af b2
  obtain⟨h5,h6,h7⟩:=dO g4
  obtain⟨r02,g8,b2⟩:=af b2
  simp(config:=cS)only[go_sem,hc_v1.1,hc_v1.2,hm_v1,hk_v1,eqT h3,h5,h6,h7]
  refine aj (hp_v1 _ _ g8) ?_
  obtain⟨h9,b2⟩|⟨h9,b2⟩:=aP b2
  ·cases b2
   obtain rfl:=(aD gb2).symm
   try dsimp only at h
   cases h
   simp(config:=cS)only[go_sem,hc_v1.1,hc_v1.2,hm_v1,hk_v1,eqT h3,h5,h6,h7,eZt h9]
  cases b2
  simp(config:=cS)only[go_sem,hc_v1.1,hc_v1.2,hm_v1,hk_v1,eqT h3,h5,h6,h7,eZf h9]
  refine fA gb2 ?_
  simp(config:=cS)only[go_sem,hc_v1.1,hc_v1.2,hm_v1,hk_v1,eqT h3,h5,h6,h7,eZf h9]
 cases b2
 obtain rfl:=(aD gb2).symm
 try dsimp only at h
 cases h
 simp(config:=cS)only[go_sem,hc_v1.1,hc_v1.2,hm_v1,hk_v1,eqF h3]
theorem gi {v0:List Int}{v1:Int→Option Bool}{f_v1:Nat}{k_v1:List AV}(hp_v1:∀ y0 r,v1 y0=some r→ak prog f_v1 ([.lit (.int .i64 y0)]++k_v1) [] (.lit (.bool r)) [])(hc_v1:KC k_v1)(hm_v1:∀ a,mdT f_v1 a=⟨[],false⟩)(hk_v1:spf f_v1=false){res:Bool}(h:bn v0 v1=some res):ak prog 124 [.sl (ab eI v0),.fn f_v1 k_v1] [] (.lit (.bool res)) []:=by
 refine co (hi:=hi00) func124 rfl rfl ?_
 unfold bn at h
 obtain⟨r01,g1,h⟩:=af h
 simp(config:=cS)only[go_sem,hc_v1.1,hc_v1.2,hm_v1,hk_v1]
 refine aj (pq hp_v1 hc_v1 hm_v1 hk_v1 g1) ?_
 cases h
 simp(config:=cS)only[go_sem,hc_v1.1,hc_v1.2,hm_v1,hk_v1]
instance k125 {n:Int}:Ctr (mv n) (fun (res:Bool)=>ak prog 125 [.lit (.int .i64 n)] [] (.lit (.bool res)) []):=⟨by
 intro res h0
 refine co (hi:=hi00) func125 rfl rfl ?_
 unfold mv at h0
 exact run⟩
@[go_sem] def wE (v6:List GCue)(v7:Int)(t_1:List Int)(t_2 v8:Int):St:=⟨[(1,.ptr 64 1 0 0),(6,.sl (ab GCue.enc v6)),(7,.lit (.int .i64 v7)),(8,.lit (.int .i64 v8))],[(64,1,.var [.sl (ab GCue.enc v6),.sl (ab eI t_1),.lit (.int .i64 t_2)])],2⟩
instance k44 {t:GSheet}:Ctr (mM t) (fun (res:Bool)=>ak prog 44 [.agg (GSheet.encS t)] [] (.lit (.bool res)) []):=⟨by
 intro res h0
 refine co (hi:=hi00) func44 rfl rfl ?_
 unfold mM at h0
 obtain⟨q05,l0,h0⟩:=af h0
 simp(config:=cS)only[go_sem, *]
 refine ah (m1:=.mk) (m2:=.mk) [.nf [1,6,7,8] [64]] (wE t.cues (t.cues.length:Int) t.prep t.horizon) l0 ?_ ?_
 ·simp(config:=cS)only[go_sem, *]
 have k0:=h0
 clear h0 l0
 intro _ v8_1 _ h0 gb0
 unfold gW at h0
 try dsimp only at h0
 obtain⟨_,h0⟩|⟨_,h0⟩:=itP h0
 ·exact run
 cases h0
 obtain rfl:=(aD gb0).symm
 clear gb0
 have h0:=k0
 clear k0
 try dsimp only at h0
 obtain⟨_,h0⟩|⟨_,h0⟩:=itP h0
 ·exact run
 obtain⟨_,h0⟩|⟨_,h0⟩:=itP h0
 ·obtain⟨_,h0⟩|⟨_,h0⟩:=itP h0
  ·exact run
  obtain⟨_,h0⟩|⟨_,h0⟩:=itP h0
  ·exact run
  obtain⟨r04,g0,h0⟩:=af h0
  simp(config:=cS)only[go_sem, *]
  refine aj (gi (by exact fun _ _ hr=>by have q:=ctr hr;exact q) (by refine⟨fun _=>?_,fun _=>?_⟩ <;> simp only[go_sem]) (fun _=>rfl) rfl g0) ?_
  exact run
 exact run⟩
@[go_sem] def xP (v11:List GCue)(v12:Int):(Int × Int × (List Int) × (List Int))→St
 | (n,v13,begins,ends)=>⟨[(5,.ref 383 1 0 begins.length),(6,.ref 447 1 0 ends.length),(7,.lit (.int .i64 n)),(11,.sl (ab GCue.enc v11)),(12,.lit (.int .i64 v12)),(13,.lit (.int .i64 v13))],[(383,1,.row true (ab eI begins)),(447,1,.row true (ab eI ends))],2⟩
instance k118 {t:GSheet}:Ctr (nO t) (fun (res:(List Int) × (List Int) × Int)=>ak prog 118 [.agg (GSheet.encS t)] [] (.tup [.ref 20000 1 0 res.1.length,.ref 20001 1 0 res.2.1.length,.lit (.int .i64 res.2.2)]) [(20000,1,.row true (ab eI res.1)),(20001,1,.row true (ab eI res.2.1))]):=⟨by
 intro res h0
 refine aB (ra:=[.home 2,.home 3]) (md:=mdT) hT (hi:=hi00) func118 rfl rfl (by decide +kernel) (by simp) ?_
 unfold nO at h0
 obtain⟨q03,l0,h0⟩:=af h0
 simp(config:=cS)only[go_sem, *]
 refine ah (m1:=.mk) (m2:=.mk) [.home 5,.home 6,.nf [5,6,7,11,12,13] [383,447]] (xP t.cues (t.cues.length:Int)) l0 ?_ ?_
 ·simp(config:=cS)only[go_sem, *]
 have k0:=h0
 clear h0 l0
 intro _ s0 _ h0 gb0
 obtain⟨n_1,v13_1,begins_1,ends_1⟩:=s0
 unfold kX at h0
 try dsimp only at h0
 obtain⟨_,h0⟩|⟨_,h0⟩:=itP h0
 ·obtain⟨x01,_,_,_,h0⟩:=gtI h0
  obtain⟨_,h0⟩:=ckP h0
  obtain⟨_,h0⟩:=ckP h0
  obtain⟨_,h0⟩:=ckP h0
  obtain⟨_,h0⟩:=ckP h0
  obtain⟨_,h0⟩|⟨_,h0⟩:=itP h0
  ·exact run
  obtain⟨x02,a1,a2,a3,h0⟩:=gtI h0
  try simp only[List.length_append,List.length_cons,List.length_nil,Nat.zero_add,Nat.reduceAdd]at a1
  try simp only[List.length_append,List.length_cons,List.length_nil,Nat.zero_add,Nat.reduceAdd]at a2
  try simp only[List.length_append,List.length_cons,List.length_nil,Nat.zero_add,Nat.reduceAdd]at a3
  exact run
 exact run⟩
instance k119 {v0:Int}:Ctr (fT v0) (fun (res:List Int)=>ak prog 119 [.lit (.int .i64 v0)] [] (.ref 20000 1 0 res.length) [(20000,1,.row true (ab eI res))]):=⟨by
 intro res h0
 refine aB (ra:=[.home 2]) (md:=mdT) hT (hi:=hi00) func119 rfl rfl (by decide +kernel) (by simp) ?_
 unfold fT at h0
 exact run⟩
instance k120 {begins:List Int} {ends:List Int} {cue:Int}:Ctr (ob begins ends cue) (fun (res:Int)=>ak prog 120 [.sl (ab eI begins),.sl (ab eI ends),.lit (.int .i64 cue)] [] (.lit (.int .i64 res)) []):=⟨by
 intro res h0
 refine co (hi:=hi00) func120 rfl rfl ?_
 unfold ob at h0
 exact run⟩
instance k107 {n:Int} {node:Int}:Ctr (bG n node) (fun (res:Bool)=>ak prog 107 [.lit (.int .i64 n),.lit (.int .i64 node)] [] (.lit (.bool res)) []):=⟨by
 intro res h0
 refine co (hi:=hi00) func107 rfl rfl ?_
 unfold bG at h0
 exact run⟩
@[go_sem] def hi121_3:DT:=.r2 0 14 .nil
def Ip:Hint where
 acts:=fun _=>[]
 draws:=fun
  | 3=>⟨hi121_3,[[],[0],[],[0,1,2],[0,1,2,3],.range 5,[],[6],[],[6,7,8],[6,7,8,9],[6,7,8,9,10],.range 6,.range 13],[0,1,2,3,4,5,7,8,9,10,11,12,6,13]⟩
  | _=>⟨.nil,[],[]⟩
theorem Vx (i:Nat):Ip.acts i=[]:=rfl
theorem Vy (i:Nat):Ip.views i=none:=rfl
attribute[go_sem] Vx Vy ntmps121 results121
@[go_sem] theorem Zx:(Ip.draws 3).order=hi121_3:=rfl
instance k121 {t:GSheet} {i:Int} {k:Int}:Ctr (mN t i k) (fun (res:Bool)=>ak prog 121 [.agg (GSheet.encS t),.lit (.int .i64 i),.lit (.int .i64 k)] [] (.lit (.bool res)) []):=⟨by
 intro res h0
 refine co (hi:=Ip) func121 rfl rfl ?_
 unfold mN at h0
 exact run⟩
instance k215 {l:Int}:Ctr (fj l) (fun (res:Int)=>ak prog 215 [.lit (.int .i64 l)] [] (.lit (.int .i64 res)) []):=⟨by
 intro res h0
 refine co (hi:=hi00) func215 rfl rfl ?_
 unfold fj at h0
 exact run⟩
@[go_sem] def wF (l:List Int)(v6 v7:Int):St:=⟨[(0,.sl (ab eI l)),(5,.sl (ab eI l)),(6,.lit (.int .i64 v6)),(7,.lit (.int .i64 v7))],[],2⟩
instance k214 {l:List Int}:Ctr (fU l) (fun (res:Bool)=>ak prog 214 [.sl (ab eI l)] [] (.lit (.bool res)) []):=⟨by
 intro res h0
 refine co (hi:=hi00) func214 rfl rfl ?_
 unfold fU at h0
 obtain⟨q05,l0,h0⟩:=af h0
 simp(config:=cS)only[go_sem, *]
 refine ah (m1:=.mk) (m2:=.mk) [.nf [0,5,6,7] []] (wF l (l.length:Int)) l0 ?_ ?_
 ·simp(config:=cS)only[go_sem, *]
 have k0:=h0
 clear h0 l0
 intro _ v7_1 _ h0 gb0
 unfold gX at h0
 try dsimp only at h0
 exact run⟩
end Go.Proofs.Qk
