/- Functions. -/
import Derived.Test.YtpodkllkinpfmaaGreatDoorXmX
import Derived.Test.YtpodkllkinpfmaaGreatDoorXm37
set_option linter.all false
set_option maxRecDepth 100000
set_option maxHeartbeats 4000000
namespace Go.Proofs.Qm
open Go Tryz
theorem co {hi:Hint}{f:FuncId}{fn:Func}{c:Code}{args:List AV}{h0 h':Hp}{r:AV}(hf:Tryz.prog.funcs[f]?=some fn)(hn:(fn.name == "runtime.NumGoroutine")=false) (hb:fn.body=some c) (h:cQ prog mdT T fn.ntmps hi c ⟨qn 0 args,h0,1⟩ (retK T [] fn.results.toList (h0.map (·.1)) (fun r1 h1=>r1=r∧h1=h'))) (hc:lx hi c=true:=by decide +kernel) (hlen:args.length≤fn.ntmps:=by simp):aj prog f args h0 r h':=aE (ra:=[]) (md:=mdT) hT hf hn hb hc hlen h
@[go_sem] def xk (code:List Int):(Int × Int)→St
 | (v3,i)=>⟨[(0,.sl (ab (eK .u8) code)),(3,.lit (.int .i64 v3)),(4,.lit (.int .i64 i))],[],2⟩
attribute[go_sem] ntmps80 results80 ntmps85 results85 ntmps181 results181 ntmps182 results182 ntmps42 results42 ntmps126 results126 ntmps122 results122 ntmps221 results221 ntmps222 results222 ntmps123 results123 ntmps223 results223 ntmps124 results124 ntmps125 results125 ntmps44 results44 ntmps118 results118 ntmps119 results119 ntmps120 results120 ntmps107 results107 ntmps215 results215 ntmps214 results214 ntmps266 results266 ntmps189 results189 ntmps267 results267 ntmps187 results187 ntmps224 results224 ntmps269 results269 ntmps193 results193 ntmps194 results194 ntmps88 results88 ntmps93 results93 ntmps195 results195 ntmps311 results311 ntmps270 results270 ntmps191 results191 ntmps86 results86 ntmps188 results188 ntmps83 results83 ntmps91 results91 ntmps272 results272 ntmps254 results254 ntmps177 results177 ntmps255 results255 ntmps172 results172 ntmps81 results81 ntmps261 results261 ntmps175 results175 ntmps344 results344 ntmps309 results309 ntmps265 results265 ntmps310 results310 ntmps258 results258 ntmps313 results313 ntmps275 results275 ntmps108 results108 ntmps260 results260 ntmps264 results264 ntmps263 results263 ntmps70 results70 ntmps185 results185 ntmps186 results186 ntmps82 results82 ntmps23 results23 ntmps29 results29 ntmps308 results308 ntmps256 results256 ntmps212 results212 ntmps109 results109 ntmps127 results127 ntmps257 results257 ntmps173 results173 ntmps225 results225 ntmps129 results129 ntmps128 results128 ntmps293 results293 ntmps142 results142 ntmps229 results229 ntmps289 results289 ntmps228 results228 ntmps330 results330 ntmps291 results291 ntmps356 results356 ntmps326 results326 ntmps230 results230 ntmps94 results94 ntmps112 results112
instance k80 {code:List Int}:Ctr (li code) (fun (res:GL01Cur)=>aj prog 80 [.sl (ab (eK .u8) code)] [] (.ptr 20000 1 0 0) [(20000,1,.var [.sl (ab (eK .u8) res.b),.lit (.int .i64 res.i),.lit (.int .i64 res.h)])]):=⟨by
 intro res h0
 refine co (hi:=hi00) func80 rfl rfl ?_
 unfold li at h0
 obtain⟨q02,l0,h0⟩:=af h0
 simp(config:=cS)only[go_sem, *]
 refine ai (m1:=.mk) (m2:=.mk) [.nf [0,3,4] []] (xk code) l0 ?_ ?_
 ·simp(config:=cS)only[go_sem, *]
 have k0:=h0
 clear h0 l0
 intro _ s0 _ h0 gb0
 obtain⟨v3_1,i_1⟩:=s0
 unfold kK at h0
 try dsimp only at h0
 exact run⟩
@[go_sem] def hi139_4:DT:=.r2 0 15 .nil
@[go_sem] def hi139_3:DT:=.r2 0 10 .nil
@[go_sem] def hi139_2:DT:=.r2 0 13 .nil
def Ai:Hint where
 acts:=fun _=>[]
 draws:=fun
  | 2=>⟨hi139_2,[[],[0],[0,1],[0,1,2],[0,1,2,3],[],[5],[5,6],[5,6,7],[5,6,7,8],.range 10,.range 11,.range 12],.range 13⟩
  | 3=>⟨hi139_3,[[],[0],[0,1],[0,1,2],[],[4],[4,5],[4,5,6],[4,5,6,7],.range 9],.range 10⟩
  | 4=>⟨hi139_4,[[],[],[1],[1,2],[1,2,3],[],[5],[5,6],[5,6,7],[1,2,3,4,5,6,7,8],[1,2,3,4,5,6,7,8,9],[1,2,3,4,5,6,7,8,9,10],.range 12,.range 13,.range 14],.range 15⟩
  | _=>⟨.nil,[],[]⟩
theorem Xo (i:Nat):Ai.acts i=[]:=rfl
attribute[go_sem] Xo ntmps139 results139
@[go_sem] theorem abM:(Ai.draws 2).order=hi139_2:=rfl
@[go_sem] theorem abN:(Ai.draws 3).order=hi139_3:=rfl
@[go_sem] theorem abO:(Ai.draws 4).order=hi139_4:=rfl
instance k139 {v0:GL01Cur}:Ctr (cK v0) (fun (res:Int × GL01Cur)=>aj prog 139 [.ptr 10000 0 0 0] [(10000,0,.var [.sl (ab (eK .u8) v0.b),.lit (.int .i64 v0.i),.lit (.int .i64 v0.h)])] (.lit (.int .i64 res.1)) [(10000,0,.var [.sl (ab (eK .u8) res.2.b),.lit (.int .i64 res.2.i),.lit (.int .i64 res.2.h)])]):=⟨by
 intro res h0
 refine co (hi:=Ai) func139 rfl rfl ?_
 unfold cK at h0
 exact run⟩
instance k85 {v0:GL01Cur} {n:Int}:Ctr (aX v0 n) (fun (res:Int × GL01Cur)=>aj prog 85 [.ptr 10000 0 0 0,.lit (.int .i64 n)] [(10000,0,.var [.sl (ab (eK .u8) v0.b),.lit (.int .i64 v0.i),.lit (.int .i64 v0.h)])] (.lit (.int .i64 res.1)) [(10000,0,.var [.sl (ab (eK .u8) res.2.b),.lit (.int .i64 res.2.i),.lit (.int .i64 res.2.h)])]):=⟨by
 intro res h0
 refine co (hi:=hi00) func85 rfl rfl ?_
 unfold aX at h0
 exact run⟩
instance k181 {i:Int}:Ctr (mz i) (fun (res:ByteArray)=>aj prog 181 [.lit (.int .i64 i)] [] (.lit (.string res)) []):=⟨by
 intro res h0
 refine co (hi:=hi00) func181 rfl rfl ?_
 unfold mz at h0
 obtain⟨x01,a1,a2,a3,h0⟩:=gtI h0
 try simp only[List.length_append,List.length_cons,List.length_nil,Nat.zero_add,Nat.reduceAdd]at a1
 try simp only[List.length_append,List.length_cons,List.length_nil,Nat.zero_add,Nat.reduceAdd]at a2
 try simp only[List.length_append,List.length_cons,List.length_nil,Nat.zero_add,Nat.reduceAdd]at a3
 exact run⟩
instance k182 {v0:GL01Cur} {n:Int}:Ctr (bW v0 n) (fun (res:Bool × GL01Cur)=>aj prog 182 [.ptr 10000 0 0 0,.lit (.int .i64 n)] [(10000,0,.var [.sl (ab (eK .u8) v0.b),.lit (.int .i64 v0.i),.lit (.int .i64 v0.h)])] (.lit (.bool res.1)) [(10000,0,.var [.sl (ab (eK .u8) res.2.b),.lit (.int .i64 res.2.i),.lit (.int .i64 res.2.h)])]):=⟨by
 intro res h0
 refine co (hi:=hi00) func182 rfl rfl ?_
 unfold bW at h0
 exact run⟩
@[go_sem] def hi219_6:DT:=.i1 0 (.i1 1 (.i2 2 (.i0 3 [0,1] (.r2 4 3 .nil))))
@[go_sem] def hi219_2:DT:=.i1 0 (.i1 1 (.i2 2 (.i0 3 [0,1] (.r2 4 3 .nil))))
def EA:Hint where
 acts:=fun _=>[]
 draws:=fun
  | 2=>⟨hi219_2,[[],[0],[],[2],[0,1,2,3],.range 5,.range 6],.range 7⟩
  | 6=>⟨hi219_6,[[],[0],[],[2],[0,1,2,3],.range 5,.range 6],.range 7⟩
  | _=>⟨.nil,[],[]⟩
theorem Xq (i:Nat):EA.acts i=[]:=rfl
attribute[go_sem] Xq ntmps219 results219
@[go_sem] theorem abP:(EA.draws 2).order=hi219_2:=rfl
@[go_sem] theorem abQ:(EA.draws 6).order=hi219_6:=rfl
instance k219 {v0:GL01Cur} {i:Int}:Ctr (np v0 i) (fun (res:GCue × GL01Cur)=>aj prog 219 [.ptr 10000 0 0 0,.lit (.int .i64 i)] [(10000,0,.var [.sl (ab (eK .u8) v0.b),.lit (.int .i64 v0.i),.lit (.int .i64 v0.h)])] (.agg [.lit (.string res.1.name),.lit (.int .i64 res.1.after),.lit (.bool res.1.atEnd),.lit (.int .i64 res.1.low),.lit (.int .i64 res.1.high),.lit (.int .i64 res.1.min_),.lit (.int .i64 res.1.max_),.lit (.bool res.1.free),.lit (.int .i64 res.1.if_),.lit (.int .i64 res.1.watch),.lit (.int .i64 res.1.device)]) [(10000,0,.var [.sl (ab (eK .u8) res.2.b),.lit (.int .i64 res.2.i),.lit (.int .i64 res.2.h)])]):=⟨by
 intro res h0
 refine co (hi:=EA) func219 rfl rfl ?_
 unfold np at h0
 exact run⟩
@[go_sem] def vU (t_2:Int)(h576:List Int):(Int × (List Int) × Int × Int × (List GCue))→St
 | (i,v0_0,v0_1,v0_2,h100012288)=>⟨[(0,.ptr 10000 0 0 0),(2,.ptr 128 1 0 0),(3,.ptr 192 1 0 0),(4,.lit (.int .i64 i))],[(10000,0,.var [.sl (ab (eK .u8) v0_0),.lit (.int .i64 v0_1),.lit (.int .i64 v0_2)]),(128,1,.var [.lit (.slice none 0 0),.lit (.slice none 0 0),.lit (.int .i64 0)]),(192,1,.var [.ref 100012288 1 0 h100012288.length,.ref 576 1 0 h576.length,.lit (.int .i64 t_2)]),(100012288,1,.row true (ab GCue.enc h100012288)),(576,1,.row true (ab eI h576))],2⟩
@[go_sem] def hi117_8:DT:=.i1 0 (.i1 1 (.i2 2 (.i0 3 [0,1] (.r2 4 5 .nil))))
@[go_sem] def hi117_5:DT:=.i1 0 (.i1 1 (.i2 2 (.i2 3 (.i0 4 [0,1] (.i0 5 [0,1] (.r2 6 3 .nil))))))
def EB:Hint where
 acts:=fun _=>[]
 draws:=fun
  | 5=>⟨hi117_5,[[],[0],[],[],[2,3],[2,3,4],.range 6,.range 7,.range 8],.range 9⟩
  | 8=>⟨hi117_8,[[],[0],[],[2],[2,3],[2,3,4],.range 6,.range 7,.range 8],.range 9⟩
  | _=>⟨.nil,[],[]⟩
theorem Xs (i:Nat):EB.acts i=[]:=rfl
attribute[go_sem] Xs ntmps117 results117
@[go_sem] theorem abR:(EB.draws 5).order=hi117_5:=rfl
@[go_sem] theorem abS:(EB.draws 8).order=hi117_8:=rfl
instance k117 {v0:GL01Cur}:Ctr (oN v0) (fun (res:GSheet × GL01Cur)=>aj prog 117 [.ptr 10000 0 0 0] [(10000,0,.var [.sl (ab (eK .u8) v0.b),.lit (.int .i64 v0.i),.lit (.int .i64 v0.h)])] (.agg [.ref 20000 1 0 res.1.cues.length,.ref 20001 1 0 res.1.prep.length,.lit (.int .i64 res.1.horizon)]) [(10000,0,.var [.sl (ab (eK .u8) res.2.b),.lit (.int .i64 res.2.i),.lit (.int .i64 res.2.h)]),(20000,1,.row true (ab GCue.enc res.1.cues)),(20001,1,.row true (ab eI res.1.prep))]):=⟨by
 intro res h0
 refine aE (ra:=[.homeCell 128 0,.homeCell 128 1]) (md:=mdT) hT (hi:=EB) func117 rfl rfl (by decide +kernel) (by simp) ?_
 unfold oN at h0
 obtain⟨r01,g0,h0⟩:=af h0
 simp(config:=cS)only[go_sem, *]
 have g0:=ctr g0
 refine ag g0 ?_
 obtain⟨r02,g0,h0⟩:=af h0
 simp(config:=cS)only[go_sem, *]
 have g0:=ctr g0
 refine ag g0 ?_
 obtain⟨r03,g0,h0⟩:=af h0
 simp(config:=cS)only[go_sem, *]
 have g0:=ctr g0
 refine ag g0 ?_
 obtain⟨q14,l0,h0⟩:=af h0
 simp(config:=cS)only[go_sem, *]
 refine ai (m1:=.mk) (m2:=.mk) [.homeCell 192 0,.nf [0,2,3,4] [10000,128,192,100012288,576]] (vU (IntKind.wrap .i64 (4+r03.1)) ([r01.1,r02.1,0])) l0 ?_ ?_
 ·simp(config:=cS)only[go_sem, *]
 have k0:=h0
 clear h0 l0
 intro _ s0 _ h0 gb0
 obtain⟨i_1,v0_0_1,v0_1_1,v0_2_1,h100012288_1⟩:=s0
 unfold jG at h0
 try dsimp only at h0
 obtain⟨r04,g0,h0⟩:=af h0
 simp(config:=cS)only[go_sem, *]
 have g0:=ctr g0
 refine ag g0 ?_
 obtain⟨_,h0⟩|⟨_,h0⟩:=itP h0
 ·obtain⟨_,h0⟩|⟨_,h0⟩:=itP h0
  ·exact run
  cases h0
  obtain rfl:=(aJ gb0).symm
  clear gb0
  have h0:=k0
  clear k0
  try dsimp only at h0
  obtain⟨_,h0⟩|⟨_,h0⟩:=itP h0
  ·obtain⟨r06,g0,h0⟩:=af h0
   simp(config:=cS)only[go_sem, *]
   have g0:=ctr g0
   refine ag g0 ?_
   obtain⟨_,h0⟩|⟨_,h0⟩:=itB h0
   ·obtain⟨x07,g1,h0⟩:=af h0
    have:=bD (k:=0) g1
    obtain⟨r08,g0,h0⟩:=af h0
    simp(config:=cS)only[go_sem, *]
    have g0:=ctr g0
    refine ag g0 ?_
    obtain⟨x09,g2,h0⟩:=af h0
    have:=bD (k:=1) g2
    have hz:=this.2
    rw[List.length_set]at hz
    exact run
   exact run
  exact run
 cases h0
 obtain rfl:=(aJ gb0).symm
 clear gb0
 have h0:=k0
 clear k0
 try dsimp only at h0
 obtain⟨_,h0⟩|⟨_,h0⟩:=itP h0
 ·obtain⟨r10,g0,h0⟩:=af h0
  simp(config:=cS)only[go_sem, *]
  have g0:=ctr g0
  refine ag g0 ?_
  obtain⟨_,h0⟩|⟨_,h0⟩:=itB h0
  ·obtain⟨x11,g3,h0⟩:=af h0
   have:=bD (k:=0) g3
   obtain⟨r12,g0,h0⟩:=af h0
   simp(config:=cS)only[go_sem, *]
   have g0:=ctr g0
   refine ag g0 ?_
   obtain⟨x13,g4,h0⟩:=af h0
   have:=bD (k:=1) g4
   have hz:=this.2
   rw[List.length_set]at hz
   exact run
  exact run
 exact run⟩
instance k42 {code:List Int}:Ctr (kL code) (fun (res:GSheet)=>aj prog 42 [.sl (ab (eK .u8) code)] [] (.agg [.ref 20000 1 0 res.cues.length,.ref 20001 1 0 res.prep.length,.lit (.int .i64 res.horizon)]) [(20000,1,.row true (ab GCue.enc res.cues)),(20001,1,.row true (ab eI res.prep))]):=⟨by
 intro res h0
 refine aE (ra:=[.homeCell 128 0,.homeCell 128 1]) (md:=mdT) hT (hi:=hi00) func42 rfl rfl (by decide +kernel) (by simp) ?_
 unfold kL at h0
 exact run⟩
@[go_sem] def xl (s:ByteArray)(i:Int):St:=⟨[(0,.lit (.string s)),(3,.lit (.int .i64 i))],[],2⟩
@[go_sem] def hi220_4:DT:=.r2 0 22 .nil
def Jv:Hint where
 acts:=fun _=>[]
 draws:=fun
  | 4=>⟨hi220_4,[[],[],[0,1],[0,1,2],[0,1,2,3],.range 5,.range 5,.range 7,.range 8,.range 9,[],[],[10,11],[10,11,12],[0,1,2,3,4,10,11,12,13],[0,1,2,3,4,10,11,12,13,14],[0,1,2,3,4,10,11,12,13,14],[0,1,2,3,4,10,11,12,13,14,15,16],[0,1,2,3,4,10,11,12,13,14,15,16,17],[0,1,2,3,4,10,11,12,13,14,15,16,17,18],.range 15,.range 21],[0,1,2,3,4,5,6,7,8,9,10,11,12,13,14,16,17,18,19,20,15,21]⟩
  | _=>⟨.nil,[],[]⟩
theorem Xu (i:Nat):Jv.acts i=[]:=rfl
attribute[go_sem] Xu ntmps220 results220
@[go_sem] theorem abT:(Jv.draws 4).order=hi220_4:=rfl
instance k220 {s:ByteArray}:Ctr (lj s) (fun (res:Bool)=>aj prog 220 [.lit (.string s)] [] (.lit (.bool res)) []):=⟨by
 intro res h0
 refine co (hi:=Jv) func220 rfl rfl ?_
 unfold lj at h0
 obtain⟨q02,l0,h0⟩:=af h0
 simp(config:=cS)only[go_sem, *]
 refine ai (m1:=.mk) (m2:=.mk) [.nf [0,3] []] (xl s) l0 ?_ ?_
 ·simp(config:=cS)only[go_sem, *]
 have k0:=h0
 clear h0 l0
 intro _ i_1 _ h0 gb0
 unfold iN at h0
 try dsimp only at h0
 exact run⟩
instance k126 {n:Int} {most:Int}:Ctr (cL n most) (fun (res:Bool)=>aj prog 126 [.lit (.int .i64 n),.lit (.int .i64 most)] [] (.lit (.bool res)) []):=⟨by
 intro res h0
 refine co (hi:=hi00) func126 rfl rfl ?_
 unfold cL at h0
 exact run⟩
instance k122 {v0:GCue} {index:Int}:Ctr (om v0 index) (fun (res:Bool)=>aj prog 122 [.agg (GCue.enc v0),.lit (.int .i64 index)] [] (.lit (.bool res)) []):=⟨by
 intro res h0
 refine co (hi:=hi00) func122 rfl rfl ?_
 unfold om at h0
 exact run⟩
@[go_sem] def re (v0:List GCue)(f_v1:Nat)(k_v1:List AV)(v7 v8:Int):St:=⟨[(0,.sl (ab GCue.enc v0)),(1,.fn f_v1 k_v1),(7,.lit (.int .i64 v7)),(8,.lit (.int .i64 v8))],[],2⟩
theorem uy {v0:List GCue}{v1:GCue→Option Bool}{f_v1:Nat}{k_v1:List AV}(hp_v1:∀ y0 r,v1 y0=some r→aj prog f_v1 ([.agg (GCue.enc y0)]++k_v1) [] (.lit (.bool r)) [])(hc_v1:KC k_v1)(hm_v1:∀ a,mdT f_v1 a=⟨[],false⟩)(hk_v1:spf f_v1=false){res:Int}(h:fT v0 v1=some res):aj prog 221 [.sl (ab GCue.enc v0),.fn f_v1 k_v1] [] (.lit (.int .i64 res)) []:=by
 refine co (hi:=hi00) func221 rfl rfl ?_
 unfold fT at h
 obtain⟨q03,l1,h⟩:=af h
 simp(config:=cS)only[go_sem,hc_v1.1,hc_v1.2,hm_v1,hk_v1]
 refine ai (m1:=.mk) (m2:=.mk) [.nf [0,1,7,8] []] (re v0 f_v1 k_v1 (v0.length:Int)) l1 ?_ ?_
 ·simp(config:=cS)only[go_sem,hc_v1.1,hc_v1.2,hm_v1,hk_v1]
 intro nb2 v8_1 bb2 b2 gb2
 unfold da at b2
 try dsimp only at b2
 obtain⟨h3,b2⟩|⟨h3,b2⟩:=bl b2
 ·obtain⟨x01,g4,b2⟩:=af b2
  obtain⟨h5,h6,h7⟩:=eU g4
  obtain⟨r02,g8,b2⟩:=af b2
  simp(config:=cS)only[go_sem,hc_v1.1,hc_v1.2,hm_v1,hk_v1,eqT h3,h5,h6,h7]
  refine ag (hp_v1 _ _ g8) ?_
  obtain⟨h9,b2⟩|⟨h9,b2⟩:=bl b2
  ·cases b2
   obtain rfl:=(aJ gb2).symm
   try dsimp only at h
   cases h
   simp(config:=cS)only[go_sem,hc_v1.1,hc_v1.2,hm_v1,hk_v1,eqT h3,h5,h6,h7,eZt h9]
  cases b2
  simp(config:=cS)only[go_sem,hc_v1.1,hc_v1.2,hm_v1,hk_v1,eqT h3,h5,h6,h7,eZf h9]
  refine iL gb2 ?_
  simp(config:=cS)only[go_sem,hc_v1.1,hc_v1.2,hm_v1,hk_v1,eqT h3,h5,h6,h7,eZf h9]
 cases b2
 obtain rfl:=(aJ gb2).symm
 try dsimp only at h
 cases h
 simp(config:=cS)only[go_sem,hc_v1.1,hc_v1.2,hm_v1,hk_v1,eqF h3]
instance k222 {v0:GCue} {name:ByteArray}:Ctr (lz v0 name) (fun (res:Bool)=>aj prog 222 [.agg (GCue.enc v0),.loc [.lit (.string name)]] [] (.lit (.bool res)) []):=⟨by
 intro res h0
 refine co (hi:=hi00) func222 rfl rfl ?_
 unfold lz at h0
 exact run⟩
instance k123 {t:GSheet} {name:ByteArray}:Ctr (lA t name) (fun (res:Int)=>aj prog 123 [.agg (GSheet.encS t),.lit (.string name)] [] (.lit (.int .i64 res)) []):=⟨by
 intro res h0
 refine co (hi:=hi00) func123 rfl rfl ?_
 unfold lA at h0
 obtain⟨r01,g0,h0⟩:=af h0
 simp(config:=cS)only[go_sem, *]
 refine ag (uy (by exact fun _ _ hr=>by have q:=ctr hr;exact q) (by refine⟨fun _=>?_,fun _=>?_⟩ <;> simp only[go_sem]) (fun _=>rfl) rfl g0) ?_
 exact run⟩
@[go_sem] def rf (v0:List Int)(f_v1:Nat)(k_v1:List AV)(v7 v8:Int):St:=⟨[(0,.sl (ab eI v0)),(1,.fn f_v1 k_v1),(7,.lit (.int .i64 v7)),(8,.lit (.int .i64 v8))],[],2⟩
theorem pn {v0:List Int}{v1:Int→Option Bool}{f_v1:Nat}{k_v1:List AV}(hp_v1:∀ y0 r,v1 y0=some r→aj prog f_v1 ([.lit (.int .i64 y0)]++k_v1) [] (.lit (.bool r)) [])(hc_v1:KC k_v1)(hm_v1:∀ a,mdT f_v1 a=⟨[],false⟩)(hk_v1:spf f_v1=false){res:Int}(h:dR v0 v1=some res):aj prog 223 [.sl (ab eI v0),.fn f_v1 k_v1] [] (.lit (.int .i64 res)) []:=by
 refine co (hi:=hi00) func223 rfl rfl ?_
 unfold dR at h
 obtain⟨q03,l1,h⟩:=af h
 simp(config:=cS)only[go_sem,hc_v1.1,hc_v1.2,hm_v1,hk_v1]
 refine ai (m1:=.mk) (m2:=.mk) [.nf [0,1,7,8] []] (rf v0 f_v1 k_v1 (v0.length:Int)) l1 ?_ ?_
 ·simp(config:=cS)only[go_sem,hc_v1.1,hc_v1.2,hm_v1,hk_v1]
 intro nb2 v8_1 bb2 b2 gb2
 unfold db at b2
 try dsimp only at b2
 obtain⟨h3,b2⟩|⟨h3,b2⟩:=bl b2
 ·obtain⟨x01,g4,b2⟩:=af b2
  obtain⟨h5,h6,h7⟩:=eU g4
  obtain⟨r02,g8,b2⟩:=af b2
  simp(config:=cS)only[go_sem,hc_v1.1,hc_v1.2,hm_v1,hk_v1,eqT h3,h5,h6,h7]
  refine ag (hp_v1 _ _ g8) ?_
  obtain⟨h9,b2⟩|⟨h9,b2⟩:=bl b2
  ·cases b2
   obtain rfl:=(aJ gb2).symm
   try dsimp only at h
   cases h
   simp(config:=cS)only[go_sem,hc_v1.1,hc_v1.2,hm_v1,hk_v1,eqT h3,h5,h6,h7,eZt h9]
  cases b2
  simp(config:=cS)only[go_sem,hc_v1.1,hc_v1.2,hm_v1,hk_v1,eqT h3,h5,h6,h7,eZf h9]
  refine iL gb2 ?_
  simp(config:=cS)only[go_sem,hc_v1.1,hc_v1.2,hm_v1,hk_v1,eqT h3,h5,h6,h7,eZf h9]
 cases b2
 obtain rfl:=(aJ gb2).symm
 try dsimp only at h
 cases h
 simp(config:=cS)only[go_sem,hc_v1.1,hc_v1.2,hm_v1,hk_v1,eqF h3]
theorem cn {v0:List Int}{v1:Int→Option Bool}{f_v1:Nat}{k_v1:List AV}(hp_v1:∀ y0 r,v1 y0=some r→aj prog f_v1 ([.lit (.int .i64 y0)]++k_v1) [] (.lit (.bool r)) [])(hc_v1:KC k_v1)(hm_v1:∀ a,mdT f_v1 a=⟨[],false⟩)(hk_v1:spf f_v1=false){res:Bool}(h:aZ v0 v1=some res):aj prog 124 [.sl (ab eI v0),.fn f_v1 k_v1] [] (.lit (.bool res)) []:=by
 refine co (hi:=hi00) func124 rfl rfl ?_
 unfold aZ at h
 obtain⟨r01,g1,h⟩:=af h
 simp(config:=cS)only[go_sem,hc_v1.1,hc_v1.2,hm_v1,hk_v1]
 refine ag (pn hp_v1 hc_v1 hm_v1 hk_v1 g1) ?_
 cases h
 simp(config:=cS)only[go_sem,hc_v1.1,hc_v1.2,hm_v1,hk_v1]
instance k125 {n:Int}:Ctr (mi n) (fun (res:Bool)=>aj prog 125 [.lit (.int .i64 n)] [] (.lit (.bool res)) []):=⟨by
 intro res h0
 refine co (hi:=hi00) func125 rfl rfl ?_
 unfold mi at h0
 exact run⟩
@[go_sem] def vV (v6:List GCue)(v7:Int)(t_1:List Int)(t_2 v8:Int):St:=⟨[(1,.ptr 64 1 0 0),(6,.sl (ab GCue.enc v6)),(7,.lit (.int .i64 v7)),(8,.lit (.int .i64 v8))],[(64,1,.var [.sl (ab GCue.enc v6),.sl (ab eI t_1),.lit (.int .i64 t_2)])],2⟩
instance k44 {t:GSheet}:Ctr (ky t) (fun (res:Bool)=>aj prog 44 [.agg (GSheet.encS t)] [] (.lit (.bool res)) []):=⟨by
 intro res h0
 refine co (hi:=hi00) func44 rfl rfl ?_
 unfold ky at h0
 obtain⟨q05,l0,h0⟩:=af h0
 simp(config:=cS)only[go_sem, *]
 refine ai (m1:=.mk) (m2:=.mk) [.nf [1,6,7,8] [64]] (vV t.cues (t.cues.length:Int) t.prep t.horizon) l0 ?_ ?_
 ·simp(config:=cS)only[go_sem, *]
 have k0:=h0
 clear h0 l0
 intro _ v8_1 _ h0 gb0
 unfold hY at h0
 try dsimp only at h0
 obtain⟨_,h0⟩|⟨_,h0⟩:=itP h0
 ·exact run
 cases h0
 obtain rfl:=(aJ gb0).symm
 clear gb0
 have h0:=k0
 clear k0
 try dsimp only at h0
 obtain⟨_,h0⟩|⟨_,h0⟩:=itP h0
 ·exact run
 obtain⟨_,h0⟩|⟨_,h0⟩:=itP h0
 ·obtain⟨_,h0⟩|⟨_,h0⟩:=itP h0
  ·exact run
  obtain⟨_,h0⟩|⟨_,h0⟩:=itP h0
  ·exact run
  obtain⟨r04,g0,h0⟩:=af h0
  simp(config:=cS)only[go_sem, *]
  refine ag (cn (by exact fun _ _ hr=>by have q:=ctr hr;exact q) (by refine⟨fun _=>?_,fun _=>?_⟩ <;> simp only[go_sem]) (fun _=>rfl) rfl g0) ?_
  exact run
 exact run⟩
@[go_sem] def xm (v11:List GCue)(v12:Int):(Int × Int × (List Int) × (List Int))→St
 | (n,v13,begins,ends)=>⟨[(5,.ref 383 1 0 begins.length),(6,.ref 447 1 0 ends.length),(7,.lit (.int .i64 n)),(11,.sl (ab GCue.enc v11)),(12,.lit (.int .i64 v12)),(13,.lit (.int .i64 v13))],[(383,1,.row true (ab eI begins)),(447,1,.row true (ab eI ends))],2⟩
instance k118 {t:GSheet}:Ctr (nq t) (fun (res:(List Int) × (List Int) × Int)=>aj prog 118 [.agg (GSheet.encS t)] [] (.tup [.ref 20000 1 0 res.1.length,.ref 20001 1 0 res.2.1.length,.lit (.int .i64 res.2.2)]) [(20000,1,.row true (ab eI res.1)),(20001,1,.row true (ab eI res.2.1))]):=⟨by
 intro res h0
 refine aE (ra:=[.home 2,.home 3]) (md:=mdT) hT (hi:=hi00) func118 rfl rfl (by decide +kernel) (by simp) ?_
 unfold nq at h0
 obtain⟨q03,l0,h0⟩:=af h0
 simp(config:=cS)only[go_sem, *]
 refine ai (m1:=.mk) (m2:=.mk) [.home 5,.home 6,.nf [5,6,7,11,12,13] [383,447]] (xm t.cues (t.cues.length:Int)) l0 ?_ ?_
 ·simp(config:=cS)only[go_sem, *]
 have k0:=h0
 clear h0 l0
 intro _ s0 _ h0 gb0
 obtain⟨n_1,v13_1,begins_1,ends_1⟩:=s0
 unfold kM at h0
 try dsimp only at h0
 obtain⟨_,h0⟩|⟨_,h0⟩:=itP h0
 ·obtain⟨x01,_,_,_,h0⟩:=gtI h0
  obtain⟨_,h0⟩:=ckP h0
  obtain⟨_,h0⟩:=ckP h0
  obtain⟨_,h0⟩:=ckP h0
  obtain⟨_,h0⟩:=ckP h0
  obtain⟨_,h0⟩|⟨_,h0⟩:=itP h0
  ·exact run
  obtain⟨x02,a1,a2,a3,h0⟩:=gtI h0
  try simp only[List.length_append,List.length_cons,List.length_nil,Nat.zero_add,Nat.reduceAdd]at a1
  try simp only[List.length_append,List.length_cons,List.length_nil,Nat.zero_add,Nat.reduceAdd]at a2
  try simp only[List.length_append,List.length_cons,List.length_nil,Nat.zero_add,Nat.reduceAdd]at a3
  exact run
 exact run⟩
instance k119 {v0:Int}:Ctr (gm v0) (fun (res:List Int)=>aj prog 119 [.lit (.int .i64 v0)] [] (.ref 20000 1 0 res.length) [(20000,1,.row true (ab eI res))]):=⟨by
 intro res h0
 refine aE (ra:=[.home 2]) (md:=mdT) hT (hi:=hi00) func119 rfl rfl (by decide +kernel) (by simp) ?_
 unfold gm at h0
 exact run⟩
instance k120 {begins:List Int} {ends:List Int} {cue:Int}:Ctr (nN begins ends cue) (fun (res:Int)=>aj prog 120 [.sl (ab eI begins),.sl (ab eI ends),.lit (.int .i64 cue)] [] (.lit (.int .i64 res)) []):=⟨by
 intro res h0
 refine co (hi:=hi00) func120 rfl rfl ?_
 unfold nN at h0
 exact run⟩
instance k107 {n:Int} {node:Int}:Ctr (ca n node) (fun (res:Bool)=>aj prog 107 [.lit (.int .i64 n),.lit (.int .i64 node)] [] (.lit (.bool res)) []):=⟨by
 intro res h0
 refine co (hi:=hi00) func107 rfl rfl ?_
 unfold ca at h0
 exact run⟩
@[go_sem] def hi121_3:DT:=.r2 0 14 .nil
def Jw:Hint where
 acts:=fun _=>[]
 draws:=fun
  | 3=>⟨hi121_3,[[],[0],[],[0,1,2],[0,1,2,3],.range 5,[],[6],[],[6,7,8],[6,7,8,9],[6,7,8,9,10],.range 6,.range 13],[0,1,2,3,4,5,7,8,9,10,11,12,6,13]⟩
  | _=>⟨.nil,[],[]⟩
theorem Xw (i:Nat):Jw.acts i=[]:=rfl
attribute[go_sem] Xw ntmps121 results121
@[go_sem] theorem abU:(Jw.draws 3).order=hi121_3:=rfl
instance k121 {t:GSheet} {i:Int} {k:Int}:Ctr (mA t i k) (fun (res:Bool)=>aj prog 121 [.agg (GSheet.encS t),.lit (.int .i64 i),.lit (.int .i64 k)] [] (.lit (.bool res)) []):=⟨by
 intro res h0
 refine co (hi:=Jw) func121 rfl rfl ?_
 unfold mA at h0
 exact run⟩
instance k215 {l:Int}:Ctr (di l) (fun (res:Int)=>aj prog 215 [.lit (.int .i64 l)] [] (.lit (.int .i64 res)) []):=⟨by
 intro res h0
 refine co (hi:=hi00) func215 rfl rfl ?_
 unfold di at h0
 exact run⟩
@[go_sem] def vW (l:List Int)(v6 v7:Int):St:=⟨[(0,.sl (ab eI l)),(5,.sl (ab eI l)),(6,.lit (.int .i64 v6)),(7,.lit (.int .i64 v7))],[],2⟩
instance k214 {l:List Int}:Ctr (dS l) (fun (res:Bool)=>aj prog 214 [.sl (ab eI l)] [] (.lit (.bool res)) []):=⟨by
 intro res h0
 refine co (hi:=hi00) func214 rfl rfl ?_
 unfold dS at h0
 obtain⟨q05,l0,h0⟩:=af h0
 simp(config:=cS)only[go_sem, *]
 refine ai (m1:=.mk) (m2:=.mk) [.nf [0,5,6,7] []] (vW l (l.length:Int)) l0 ?_ ?_
 ·simp(config:=cS)only[go_sem, *]
 have k0:=h0
 clear h0 l0
 intro _ v7_1 _ h0 gb0
 unfold hZ at h0
 try dsimp only at h0
 exact run⟩
instance k266 {n:GNode}:Ctr (nr n) (fun (res:Bool)=>aj prog 266 [.agg (GNode.encS n)] [] (.lit (.bool res)) []):=⟨by
 intro res h0
 refine co (hi:=hi00) func266 rfl rfl ?_
 unfold nr at h0
 exact run⟩
@[go_sem] def uT (v35:List GNode)(v36 v37:Int)(v48:List GNode)(v49:Int)(s_1:List GTie)(s_2:Int)(n_0:ByteArray)(n_1:List Int)(n_2 v50:Int):St:=⟨[(1,.ptr 64 1 0 0),(4,.ptr 256 1 0 0),(35,.sl (ab GNode.encS v35)),(36,.lit (.int .i64 v36)),(37,.lit (.int .i64 v37)),(48,.sl (ab GNode.encS v48)),(49,.lit (.int .i64 v49)),(50,.lit (.int .i64 v50))],[(64,1,.var [.sl (ab GNode.encS v35),.sl (ab GTie.enc s_1),.lit (.int .i64 s_2)]),(256,1,.var [.lit (.string n_0),.sl (ab eI n_1),.lit (.int .i64 n_2)])],2⟩
@[go_sem] def uU (v35:List GNode)(v36:Int)(s_1:List GTie)(s_2 v37:Int):St:=⟨[(1,.ptr 64 1 0 0),(35,.sl (ab GNode.encS v35)),(36,.lit (.int .i64 v36)),(37,.lit (.int .i64 v37))],[(64,1,.var [.sl (ab GNode.encS v35),.sl (ab GTie.enc s_1),.lit (.int .i64 s_2)])],2⟩
instance k189 {s:GShow}:Ctr (lB s) (fun (res:Bool)=>aj prog 189 [.agg (GShow.encS s)] [] (.lit (.bool res)) []):=⟨by
 intro res h0
 refine co (hi:=hi00) func189 rfl rfl ?_
 unfold lB at h0
 obtain⟨_,h0⟩|⟨_,h0⟩:=itP h0
 ·exact run
 obtain⟨_,h0⟩|⟨_,h0⟩:=itP h0
 ·exact run
 obtain⟨x01,g1,h0⟩:=af h0
 have:=bD (k:=0) g1
 obtain⟨_,h0⟩|⟨_,h0⟩:=itP h0
 ·exact run
 obtain⟨_,h0⟩|⟨_,h0⟩:=itP h0
 ·obtain⟨q06,l0,h0⟩:=af h0
  simp(config:=cS)only[go_sem, *]
  refine ai (m1:=.mk) (m2:=.mk) [.nf [1,35,36,37] [64]] (uU s.nodes (s.nodes.length:Int) s.ties s.horizon) l0 ?_ ?_
  ·simp(config:=cS)only[go_sem, *]
  have k0:=h0
  clear h0 l0
  intro _ v37_1 _ h0 gb0
  unfold gp at h0
  try dsimp only at h0
  obtain⟨_,h0⟩|⟨_,h0⟩:=itP h0
  ·obtain⟨x02,_,_,_,h0⟩:=gtI h0
   obtain⟨r03,g0,h0⟩:=af h0
   simp(config:=cS)only[go_sem, *]
   have g0:=ctr g0
   refine ag g0 ?_
   obtain⟨_,h0⟩|⟨_,h0⟩:=itB h0
   ·obtain⟨_,h0⟩:=ckP h0
    obtain⟨_,h0⟩:=ckP h0
    obtain⟨q05,l0,h0⟩:=af h0
    simp(config:=cS)only[go_sem, *]
    refine ai (m1:=.mk) (m2:=.mk) [.nf [1,4,35,36,37,48,49,50] [64,256]] (uT s.nodes (s.nodes.length:Int) v37_1 (s.nodes.take v37_1.toNat) (((s.nodes.take v37_1.toNat).length:Nat):Int) s.ties s.horizon x02.name x02.label x02.watch) l0 ?_ ?_
    ·simp(config:=cS)only[go_sem, *]
    have k0:=h0
    clear h0 l0
    intro _ v50_2 _ h0 gb0
    unfold gn at h0
    try dsimp only at h0
    exact run
   exact run
  exact run
 exact run⟩
instance k267 {n:Int}:Ctr (ll n) (fun (res:Bool)=>aj prog 267 [.lit (.int .i64 n)] [] (.lit (.bool res)) []):=⟨by
 intro res h0
 refine co (hi:=hi00) func267 rfl rfl ?_
 unfold ll at h0
 exact run⟩
@[go_sem] def ti (v0 v1:List Int)(v12 v13:Int):St:=⟨[(0,.sl (ab eI v0)),(1,.sl (ab eI v1)),(12,.lit (.int .i64 v12)),(13,.lit (.int .i64 v13))],[],2⟩
@[go_sem] def hi268_6:DT:=.r2 0 9 .nil
def Jx:Hint where
 acts:=fun _=>[]
 draws:=fun
  | 6=>⟨hi268_6,[[],[],[0,1],[0,1,2],[],[],[4,5],[4,5,6],.range 8],.range 9⟩
  | _=>⟨.nil,[],[]⟩
theorem Xy (i:Nat):Jx.acts i=[]:=rfl
attribute[go_sem] Xy ntmps268 results268
@[go_sem] theorem abV:(Jx.draws 6).order=hi268_6:=rfl
instance k268 {v0:List Int} {v1:List Int}:Ctr (cT v0 v1) (fun (res:Bool)=>aj prog 268 [.sl (ab eI v0),.sl (ab eI v1)] [] (.lit (.bool res)) []):=⟨by
 intro res h0
 refine co (hi:=Jx) func268 rfl rfl ?_
 unfold cT at h0
 obtain⟨_,h0⟩|⟨_,h0⟩:=itP h0
 ·obtain⟨q03,l0,h0⟩:=af h0
  simp(config:=cS)only[go_sem, *]
  refine ai (m1:=.mk) (m2:=.mk) [.nf [0,1,12,13] []] (ti v0 v1 (v0.length:Int)) l0 ?_ ?_
  ·simp(config:=cS)only[go_sem, *]
  have k0:=h0
  clear h0 l0
  intro _ v13_1 _ h0 gb0
  unfold eH at h0
  try dsimp only at h0
  exact run
 exact run⟩
@[go_sem] def rg (v0:List GTie)(f_v1:Nat)(k_v1:List AV)(v7 v8:Int):St:=⟨[(0,.sl (ab GTie.enc v0)),(1,.fn f_v1 k_v1),(7,.lit (.int .i64 v7)),(8,.lit (.int .i64 v8))],[],2⟩
theorem po {v0:List GTie}{v1:GTie→Option Bool}{f_v1:Nat}{k_v1:List AV}(hp_v1:∀ y0 r,v1 y0=some r→aj prog f_v1 ([.agg (GTie.enc y0)]++k_v1) [] (.lit (.bool r)) [])(hc_v1:KC k_v1)(hm_v1:∀ a,mdT f_v1 a=⟨[],false⟩)(hk_v1:spf f_v1=false){res:Int}(h:dT v0 v1=some res):aj prog 187 [.sl (ab GTie.enc v0),.fn f_v1 k_v1] [] (.lit (.int .i64 res)) []:=by
 refine co (hi:=hi00) func187 rfl rfl ?_
 unfold dT at h
 obtain⟨q03,l1,h⟩:=af h
 simp(config:=cS)only[go_sem,hc_v1.1,hc_v1.2,hm_v1,hk_v1]
 refine ai (m1:=.mk) (m2:=.mk) [.nf [0,1,7,8] []] (rg v0 f_v1 k_v1 (v0.length:Int)) l1 ?_ ?_
 ·simp(config:=cS)only[go_sem,hc_v1.1,hc_v1.2,hm_v1,hk_v1]
 intro nb2 v8_1 bb2 b2 gb2
 unfold dc at b2
 try dsimp only at b2
 obtain⟨h3,b2⟩|⟨h3,b2⟩:=bl b2
 ·obtain⟨x01,g4,b2⟩:=af b2
  obtain⟨h5,h6,h7⟩:=eU g4
  obtain⟨r02,g8,b2⟩:=af b2
  simp(config:=cS)only[go_sem,hc_v1.1,hc_v1.2,hm_v1,hk_v1,eqT h3,h5,h6,h7]
  refine ag (hp_v1 _ _ g8) ?_
  obtain⟨h9,b2⟩|⟨h9,b2⟩:=bl b2
  ·cases b2
   obtain rfl:=(aJ gb2).symm
   try dsimp only at h
   cases h
   simp(config:=cS)only[go_sem,hc_v1.1,hc_v1.2,hm_v1,hk_v1,eqT h3,h5,h6,h7,eZt h9]
  cases b2
  simp(config:=cS)only[go_sem,hc_v1.1,hc_v1.2,hm_v1,hk_v1,eqT h3,h5,h6,h7,eZf h9]
  refine iL gb2 ?_
  simp(config:=cS)only[go_sem,hc_v1.1,hc_v1.2,hm_v1,hk_v1,eqT h3,h5,h6,h7,eZf h9]
 cases b2
 obtain rfl:=(aJ gb2).symm
 try dsimp only at h
 cases h
 simp(config:=cS)only[go_sem,hc_v1.1,hc_v1.2,hm_v1,hk_v1,eqF h3]
theorem nU {v0:List GTie}{v1:GTie→Option Bool}{f_v1:Nat}{k_v1:List AV}(hp_v1:∀ y0 r,v1 y0=some r→aj prog f_v1 ([.agg (GTie.enc y0)]++k_v1) [] (.lit (.bool r)) [])(hc_v1:KC k_v1)(hm_v1:∀ a,mdT f_v1 a=⟨[],false⟩)(hk_v1:spf f_v1=false){res:Bool}(h:cp v0 v1=some res):aj prog 224 [.sl (ab GTie.enc v0),.fn f_v1 k_v1] [] (.lit (.bool res)) []:=by
 refine co (hi:=hi00) func224 rfl rfl ?_
 unfold cp at h
 obtain⟨r01,g1,h⟩:=af h
 simp(config:=cS)only[go_sem,hc_v1.1,hc_v1.2,hm_v1,hk_v1]
 refine ag (po hp_v1 hc_v1 hm_v1 hk_v1 g1) ?_
 cases h
 simp(config:=cS)only[go_sem,hc_v1.1,hc_v1.2,hm_v1,hk_v1]
instance k269 {u:GTie} {t:GTie}:Ctr (jH u t) (fun (res:Bool)=>aj prog 269 [.agg (GTie.enc u),.loc [.lit (.int .i64 t.from_),.lit (.int .i64 t.to),.lit (.int .i64 t.low),.lit (.int .i64 t.high),.lit (.bool t.free)]] [] (.lit (.bool res)) []):=⟨by
 intro res h0
 refine co (hi:=hi00) func269 rfl rfl ?_
 unfold jH at h0
 exact run⟩
@[go_sem] def vX (v6:List GTie)(v7:Int)(s_0:List GNode)(s_2 v8:Int):St:=⟨[(1,.ptr 64 1 0 0),(6,.sl (ab GTie.enc v6)),(7,.lit (.int .i64 v7)),(8,.lit (.int .i64 v8))],[(64,1,.var [.sl (ab GNode.encS s_0),.sl (ab GTie.enc v6),.lit (.int .i64 s_2)])],2⟩
@[go_sem] def hi190_7:DT:=.r2 0 36 .nil
def Jy:Hint where
 acts:=fun _=>[]
 draws:=fun
  | 7=>⟨hi190_7,[[],[0],[0,1],[0,1,2],[0,1,2,3],.range 5,.range 6,.range 7,.range 8,.range 9,.range 10,.range 9,[0,1,2,3,4,5,6,7,8,11],.range 13,.range 14,.range 15,.range 16,.range 17,.range 18,.range 19,.range 20,.range 19,[0,1,2,3,4,5,6,7,8,9,10,11,12,13,14,15,16,17,18,21],.range 23,.range 24,.range 25,.range 19,[0,1,2,3,4,5,6,7,8,9,10,11,12,13,14,15,16,17,18,26],.range 19,[0,1,2,3,4,5,6,7,8,9,10,11,12,13,14,15,16,17,18,28],[0,1,2,3,4,5,6,7,8,9,10,11,12,13,14,15,16,17,18,26,27,28,29],[0,1,2,3,4,5,6,7,8,9,10,11,12,13,14,15,16,17,18,26,27,28,29,30],[0,1,2,3,4,5,6,7,8,9,10,11,12,13,14,15,16,17,18,26,27,28,29,30,31],.range 33,.range 34,.range 35],.range 36⟩
  | _=>⟨.nil,[],[]⟩
theorem XA (i:Nat):Jy.acts i=[]:=rfl
attribute[go_sem] XA ntmps190 results190
@[go_sem] theorem abW:(Jy.draws 7).order=hi190_7:=rfl
instance k190 {s:GShow}:Ctr (mB s) (fun (res:Bool)=>aj prog 190 [.agg (GShow.encS s)] [] (.lit (.bool res)) []):=⟨by
 intro res h0
 refine co (hi:=Jy) func190 rfl rfl ?_
 unfold mB at h0
 obtain⟨q10,l0,h0⟩:=af h0
 simp(config:=cS)only[go_sem, *]
 refine ai (m1:=.mk) (m2:=.mk) [.nf [1,6,7,8] [64]] (vX s.ties (s.ties.length:Int) s.nodes s.horizon) l0 ?_ ?_
 ·simp(config:=cS)only[go_sem, *]
 have k0:=h0
 clear h0 l0
 intro _ v8_1 _ h0 gb0
 unfold ia at h0
 try dsimp only at h0
 obtain⟨_,h0⟩|⟨_,h0⟩:=itP h0
 ·obtain⟨x01,_,_,_,h0⟩:=gtI h0
  obtain⟨r02,g0,h0⟩:=af h0
  simp(config:=cS)only[go_sem, *]
  have g0:=ctr g0
  refine ag g0 ?_
  obtain⟨_,h0⟩|⟨_,h0⟩:=itB h0
  ·obtain⟨r03,g0,h0⟩:=af h0
   simp(config:=cS)only[go_sem, *]
   have g0:=ctr g0
   refine ag g0 ?_
   obtain⟨_,h0⟩|⟨_,h0⟩:=itB h0
   ·obtain⟨_,h0⟩|⟨_,h0⟩:=itP h0
    ·exact run
    obtain⟨r04,g0,h0⟩:=af h0
    simp(config:=cS)only[go_sem, *]
    have g0:=ctr g0
    refine ag g0 ?_
    obtain⟨_,h0⟩|⟨_,h0⟩:=itB h0
    ·obtain⟨r05,g0,h0⟩:=af h0
     simp(config:=cS)only[go_sem, *]
     have g0:=ctr g0
     refine ag g0 ?_
     obtain⟨_,h0⟩|⟨_,h0⟩:=itB h0
     ·obtain⟨_,h0⟩|⟨_,h0⟩:=itP h0
      ·exact run
      obtain⟨_,h0⟩|⟨_,h0⟩:=itB h0
      ·obtain⟨_,h0⟩|⟨_,h0⟩:=itP h0
       ·exact run
       obtain⟨_,h0⟩|⟨_,h0⟩:=itP h0
       ·exact run
       obtain⟨x06,_,_,_,h0⟩:=gtI h0
       obtain⟨_,h0⟩|⟨_,h0⟩:=itP h0
       ·obtain⟨x07,_,_,_,h0⟩:=gtI h0
        obtain⟨r08,g0,h0⟩:=af h0
        simp(config:=cS)only[go_sem, *]
        have g0:=ctr g0
        refine ag g0 ?_
        obtain⟨_,h0⟩|⟨_,h0⟩:=itB h0
        ·obtain⟨_,h0⟩:=ckP h0
         obtain⟨_,h0⟩:=ckP h0
         obtain⟨r09,g0,h0⟩:=af h0
         simp(config:=cS)only[go_sem, *]
         refine ag (nU (by exact fun _ _ hr=>by have q:=ctr hr;exact q) (by refine⟨fun _=>?_,fun _=>?_⟩ <;> simp only[go_sem]) (fun _=>rfl) rfl g0) ?_
         exact run
        exact run
       exact run
      exact run
     exact run
    exact run
   exact run
  exact run
 exact run⟩
@[go_sem] def qO (v0:List GNode)(f_v1:Nat)(k_v1:List AV)(v7 v8:Int):St:=⟨[(0,.sl (ab GNode.encS v0)),(1,.fn f_v1 k_v1),(7,.lit (.int .i64 v7)),(8,.lit (.int .i64 v8))],[],2⟩
theorem tM {v0:List GNode}{v1:GNode→Option Bool}{f_v1:Nat}{k_v1:List AV}(hp_v1:∀ y0 r,v1 y0=some r→aj prog f_v1 ([.agg (GNode.encS y0)]++k_v1) [] (.lit (.bool r)) [])(hc_v1:KC k_v1)(hm_v1:∀ a,mdT f_v1 a=⟨[],false⟩)(hk_v1:spf f_v1=false){res:Int}(h:fC v0 v1=some res):aj prog 193 [.sl (ab GNode.encS v0),.fn f_v1 k_v1] [] (.lit (.int .i64 res)) []:=by
 refine co (hi:=hi00) func193 rfl rfl ?_
 unfold fC at h
 obtain⟨q03,l1,h⟩:=af h
 simp(config:=cS)only[go_sem,hc_v1.1,hc_v1.2,hm_v1,hk_v1]
 refine ai (m1:=.mk) (m2:=.mk) [.nf [0,1,7,8] []] (qO v0 f_v1 k_v1 (v0.length:Int)) l1 ?_ ?_
 ·simp(config:=cS)only[go_sem,hc_v1.1,hc_v1.2,hm_v1,hk_v1]
 intro nb2 v8_1 bb2 b2 gb2
 unfold cM at b2
 try dsimp only at b2
 obtain⟨h3,b2⟩|⟨h3,b2⟩:=bl b2
 ·obtain⟨x01,g4,b2⟩:=af b2
  obtain⟨h5,h6,h7⟩:=eU g4
  obtain⟨r02,g8,b2⟩:=af b2
  simp(config:=cS)only[go_sem,hc_v1.1,hc_v1.2,hm_v1,hk_v1,eqT h3,h5,h6,h7]
  refine ag (hp_v1 _ _ g8) ?_
  obtain⟨h9,b2⟩|⟨h9,b2⟩:=bl b2
  ·cases b2
   obtain rfl:=(aJ gb2).symm
   try dsimp only at h
   cases h
   simp(config:=cS)only[go_sem,hc_v1.1,hc_v1.2,hm_v1,hk_v1,eqT h3,h5,h6,h7,eZt h9]
  cases b2
  simp(config:=cS)only[go_sem,hc_v1.1,hc_v1.2,hm_v1,hk_v1,eqT h3,h5,h6,h7,eZf h9]
  refine iL gb2 ?_
  simp(config:=cS)only[go_sem,hc_v1.1,hc_v1.2,hm_v1,hk_v1,eqT h3,h5,h6,h7,eZf h9]
 cases b2
 obtain rfl:=(aJ gb2).symm
 try dsimp only at h
 cases h
 simp(config:=cS)only[go_sem,hc_v1.1,hc_v1.2,hm_v1,hk_v1,eqF h3]
instance k194 {n:GNode} {p:Int}:Ctr (mj n p) (fun (res:Bool)=>aj prog 194 [.agg (GNode.encS n),.loc [.lit (.int .i64 p)]] [] (.lit (.bool res)) []):=⟨by
 intro res h0
 refine co (hi:=hi00) func194 rfl rfl ?_
 unfold mj at h0
 exact run⟩
instance k88 {s:GShow} {p:Int}:Ctr (cE s p) (fun (res:Int)=>aj prog 88 [.agg (GShow.encS s),.lit (.int .i64 p)] [] (.lit (.int .i64 res)) []):=⟨by
 intro res h0
 refine co (hi:=hi00) func88 rfl rfl ?_
 unfold cE at h0
 obtain⟨r01,g0,h0⟩:=af h0
 simp(config:=cS)only[go_sem, *]
 refine ag (tM (by exact fun _ _ hr=>by have q:=ctr hr;exact q) (by refine⟨fun _=>?_,fun _=>?_⟩ <;> simp only[go_sem]) (fun _=>rfl) rfl g0) ?_
 exact run⟩
@[go_sem] def tj (v0:List Int)(v1 v7 v8:Int):St:=⟨[(0,.sl (ab eI v0)),(1,.lit (.int .i64 v1)),(7,.lit (.int .i64 v7)),(8,.lit (.int .i64 v8))],[],2⟩
instance k93 {v0:List Int} {v1:Int}:Ctr (eV v0 v1) (fun (res:Int)=>aj prog 93 [.sl (ab eI v0),.lit (.int .i64 v1)] [] (.lit (.int .i64 res)) []):=⟨by
 intro res h0
 refine co (hi:=hi00) func93 rfl rfl ?_
 unfold eV at h0
 obtain⟨q02,l0,h0⟩:=af h0
 simp(config:=cS)only[go_sem, *]
 refine ai (m1:=.mk) (m2:=.mk) [.nf [0,1,7,8] []] (tj v0 v1 (v0.length:Int)) l0 ?_ ?_
 ·simp(config:=cS)only[go_sem, *]
 have k0:=h0
 clear h0 l0
 intro _ v8_1 _ h0 gb0
 unfold eJ at h0
 try dsimp only at h0
 exact run⟩
instance k195 {v0:List Int} {v1:Int}:Ctr (bd v0 v1) (fun (res:Bool)=>aj prog 195 [.sl (ab eI v0),.lit (.int .i64 v1)] [] (.lit (.bool res)) []):=⟨by
 intro res h0
 refine co (hi:=hi00) func195 rfl rfl ?_
 unfold bd at h0
 exact run⟩
instance k311 {v0:Int} {a:List Int}:Ctr (iZ v0 a) (fun (res:Bool)=>aj prog 311 [.lit (.int .i64 v0),.loc [.sl (ab eI a)]] [] (.lit (.bool res)) []):=⟨by
 intro res h0
 refine co (hi:=hi00) func311 rfl rfl ?_
 unfold iZ at h0
 exact run⟩
instance k270 {a:List Int} {b:List Int}:Ctr (iw a b) (fun (res:Bool)=>aj prog 270 [.sl (ab eI a),.sl (ab eI b)] [] (.lit (.bool res)) []):=⟨by
 intro res h0
 refine co (hi:=hi00) func270 rfl rfl ?_
 unfold iw at h0
 obtain⟨r01,g0,h0⟩:=af h0
 simp(config:=cS)only[go_sem, *]
 have g0:=ctr g0
 refine ag g0 ?_
 obtain⟨_,h0⟩|⟨_,h0⟩:=itB h0
 ·obtain⟨r02,g0,h0⟩:=af h0
  simp(config:=cS)only[go_sem, *]
  have g0:=ctr g0
  refine ag g0 ?_
  obtain⟨_,h0⟩|⟨_,h0⟩:=itB h0
  ·obtain⟨r03,g0,h0⟩:=af h0
   simp(config:=cS)only[go_sem, *]
   refine ag (cn (by exact fun _ _ hr=>by have q:=ctr hr;exact q) (by refine⟨fun _=>?_,fun _=>?_⟩ <;> simp only[go_sem]) (fun _=>rfl) rfl g0) ?_
   exact run
  exact run
 exact run⟩
@[go_sem] def hi192_1:DT:=.i1 0 (.i2 1 (.i0 2 [0] (.i2 3 (.i2 4 .nil))))
def Jz:Hint where
 acts:=fun _=>[]
 draws:=fun
  | 1=>⟨hi192_1,[[],[],[1],[0,1,2],[0,1,2,3]],.range 5⟩
  | _=>⟨.nil,[],[]⟩
theorem XC (i:Nat):Jz.acts i=[]:=rfl
attribute[go_sem] XC ntmps192 results192
@[go_sem] theorem abX:(Jz.draws 1).order=hi192_1:=rfl
instance k192 {s:GShow} {label:List Int} {v2:Int}:Ctr (kN s label v2) (fun (res:Bool)=>aj prog 192 [.agg (GShow.encS s),.sl (ab eI label),.lit (.int .i64 v2)] [] (.lit (.bool res)) []):=⟨by
 intro res h0
 refine co (hi:=Jz) func192 rfl rfl ?_
 unfold kN at h0
 exact run⟩
instance k191 {v0:Int} {s:GShow} {n:GNode}:Ctr (kO v0 s n) (fun (res:Bool)=>aj prog 191 [.lit (.int .i64 v0),.loc [.sl (ab GNode.encS s.nodes),.sl (ab GTie.enc s.ties),.lit (.int .i64 s.horizon)],.loc [.lit (.string n.name),.sl (ab eI n.label),.lit (.int .i64 n.watch)]] [] (.lit (.bool res)) []):=⟨by
 intro res h0
 refine co (hi:=hi00) func191 rfl rfl ?_
 unfold kO at h0
 exact run⟩
@[go_sem] def xn (v24:List GNode)(v25:Int)(s_1:List GTie)(s_2 v26:Int):St:=⟨[(1,.ptr 64 1 0 0),(24,.sl (ab GNode.encS v24)),(25,.lit (.int .i64 v25)),(26,.lit (.int .i64 v26))],[(64,1,.var [.sl (ab GNode.encS v24),.sl (ab GTie.enc s_1),.lit (.int .i64 s_2)])],2⟩
instance k86 {s:GShow}:Ctr (bR s) (fun (res:Bool)=>aj prog 86 [.agg (GShow.encS s)] [] (.lit (.bool res)) []):=⟨by
 intro res h0
 refine co (hi:=hi00) func86 rfl rfl ?_
 unfold bR at h0
 obtain⟨r01,g0,h0⟩:=af h0
 simp(config:=cS)only[go_sem, *]
 have g0:=ctr g0
 refine ag g0 ?_
 obtain⟨_,h0⟩|⟨_,h0⟩:=itB h0
 ·obtain⟨r02,g0,h0⟩:=af h0
  simp(config:=cS)only[go_sem, *]
  have g0:=ctr g0
  refine ag g0 ?_
  obtain⟨_,h0⟩|⟨_,h0⟩:=itB h0
  ·obtain⟨_,h0⟩|⟨_,h0⟩:=itP h0
   ·exact run
   obtain⟨_,h0⟩|⟨_,h0⟩:=itP h0
   ·exact run
   obtain⟨q05,l0,h0⟩:=af h0
   simp(config:=cS)only[go_sem, *]
   refine ai (m1:=.mk) (m2:=.mk) [.nf [1,24,25,26] [64]] (xn s.nodes (s.nodes.length:Int) s.ties s.horizon) l0 ?_ ?_
   ·simp(config:=cS)only[go_sem, *]
   have k0:=h0
   clear h0 l0
   intro _ v26_1 _ h0 gb0
   unfold iO at h0
   try dsimp only at h0
   obtain⟨_,h0⟩|⟨_,h0⟩:=itP h0
   ·obtain⟨x03,_,_,_,h0⟩:=gtI h0
    obtain⟨r04,g0,h0⟩:=af h0
    simp(config:=cS)only[go_sem, *]
    refine ag (cn (by exact fun _ _ hr=>by have q:=ctr hr;exact q) (by refine⟨fun _=>?_,fun _=>?_⟩ <;> simp only[go_sem]) (fun _=>rfl) rfl g0) ?_
    exact run
   exact run
  exact run
 exact run⟩
@[go_sem] def cZ (n i:Int)(v28:List GCue)(v29 v119:Int)(t_1:List Int)(t_2:Int)(v9_0:ByteArray)(v9_1:Int)(v9_2:Bool)(v9_3 v9_4 v9_5 v9_6:Int)(v9_7:Bool)(v9_8 v9_9 v9_10:Int)(begins ends:List Int)(h1600:List GNode):(Int × (List GTie))→St
 | (v120,h100028673)=>⟨[(1,.ptr 64 1 0 0),(2,.ptr 128 1 0 0),(4,.ref 1152 1 0 begins.length),(5,.ref 1153 1 0 ends.length),(6,.lit (.int .i64 n)),(7,.ptr 448 1 0 0),(8,.lit (.int .i64 i)),(9,.ptr 576 1 0 0),(28,.sl (ab GCue.enc v28)),(29,.lit (.int .i64 v29)),(30,.lit (.int .i64 i)),(119,.lit (.int .i64 v119)),(120,.lit (.int .i64 v120))],[(64,1,.var [.sl (ab GCue.enc v28),.sl (ab eI t_1),.lit (.int .i64 t_2)]),(128,1,.var [.lit (.slice none 0 0),.lit (.slice none 0 0),.lit (.int .i64 0)]),(1152,1,.row true (ab eI begins)),(1153,1,.row true (ab eI ends)),(448,1,.var [.ref 1600 1 0 h1600.length,.ref 100028673 1 0 h100028673.length,.lit (.int .i64 t_2)]),(1600,1,.row true (ab GNode.encO h1600)),(100028673,1,.row true (ab GTie.enc h100028673)),(576,1,.var [.lit (.string v9_0),.lit (.int .i64 v9_1),.lit (.bool v9_2),.lit (.int .i64 v9_3),.lit (.int .i64 v9_4),.lit (.int .i64 v9_5),.lit (.int .i64 v9_6),.lit (.bool v9_7),.lit (.int .i64 v9_8),.lit (.int .i64 v9_9),.lit (.int .i64 v9_10)])],2⟩
@[go_sem] def sx (n:Int)(v28:List GCue)(v29:Int)(t_1:List Int)(t_2:Int)(begins ends:List Int):(Int × (List GNode) × (List GTie))→St
 | (v30,h1600,h100028673)=>⟨[(1,.ptr 64 1 0 0),(2,.ptr 128 1 0 0),(4,.ref 1152 1 0 begins.length),(5,.ref 1153 1 0 ends.length),(6,.lit (.int .i64 n)),(7,.ptr 448 1 0 0),(28,.sl (ab GCue.enc v28)),(29,.lit (.int .i64 v29)),(30,.lit (.int .i64 v30))],[(64,1,.var [.sl (ab GCue.enc v28),.sl (ab eI t_1),.lit (.int .i64 t_2)]),(128,1,.var [.lit (.slice none 0 0),.lit (.slice none 0 0),.lit (.int .i64 0)]),(1152,1,.row true (ab eI begins)),(1153,1,.row true (ab eI ends)),(448,1,.var [.ref 1600 1 0 h1600.length,.ref 100028673 1 0 h100028673.length,.lit (.int .i64 t_2)]),(1600,1,.row true (ab GNode.encO h1600)),(100028673,1,.row true (ab GTie.enc h100028673))],2⟩
@[go_sem] def hi43_22:DT:=.i1 0 (.i1 1 (.r2 2 3 (.i2 6 (.i2 7 (.i1 8 (.i1 9 (.i1 10 (.i1 11 (.i1 12 (.i1 13 (.i2 14 (.i1 15 (.i1 16 (.i0 5 [0,1,8,9,10,11,12,13,15,16] (.i2 17 (.i0 18 [0,1] (.r2 19 3 .nil)))))))))))))))))
@[go_sem] def hi43_21:DT:=.r2 0 20 .nil
@[go_sem] def hi43_17:DT:=.i1 0 (.i1 1 (.r2 2 15 (.i0 17 [0,1] (.r2 18 3 .nil))))
@[go_sem] def hi43_16:DT:=.i1 0 (.i1 1 (.i1 2 (.i1 3 (.r2 4 3 (.i0 7 [0,1,2,3] (.i2 8 (.i0 9 [0,1] (.r2 10 3 .nil))))))))
@[go_sem] def hi43_14:DT:=.i1 0 (.i1 1 (.r2 2 10 (.i0 12 [0,1] (.r2 13 3 .nil))))
@[go_sem] def hi43_8:DT:=.i1 0 (.i1 1 (.i1 2 (.i1 3 (.i2 4 (.i2 5 (.i1 7 (.i1 8 (.i0 6 [0,1,2,3,7,8] (.i2 9 (.i0 10 [0,1] (.r2 11 3 .nil)))))))))))
def hi43:Hint where
 acts:=fun _=>[]
 draws:=fun
  | 8=>⟨hi43_8,[[],[0],[],[2],[],[4],[4,5],[],[7],[2,3,4,5,6,7,8],[2,3,4,5,6,7,8,9],.range 11,.range 12,.range 13],.range 14⟩
  | 14=>⟨hi43_14,[[],[0],[],[],[],[3,4],[3,4,5],[],[7],[],[9],[2,3,4,5,6,7,8,9,10],[2,3,4,5,6,7,8,9,10,11],.range 13,.range 14,.range 15],.range 16⟩
  | 16=>⟨hi43_16,[[],[0],[],[2],[2,3],[],[5],[5,6],[2,3,4,5,6,7],[2,3,4,5,6,7,8],.range 10,.range 11,.range 12],.range 13⟩
  | 17=>⟨hi43_17,[[],[0],[],[],[2,3],[2,3,4],[],[],[6,7],[6,7,8],[],[10],[],[12],[],[14],[2,3,4,5,6,7,8,9,10,11,12,13,14,15],[2,3,4,5,6,7,8,9,10,11,12,13,14,15,16],.range 18,.range 19,.range 20],.range 21⟩
  | 21=>⟨hi43_21,[[],[0],[0,1],[0,1,2],[0,1,2,3],.range 5,[0,1,2,3],.range 7,.range 8,.range 9,[0,1,2,3],[0,1,2,3,10],.range 12,.range 13,.range 14,.range 15,.range 15,.range 15,.range 18,.range 19],.range 20⟩
  | 22=>⟨hi43_22,[[],[0],[],[],[],[2,3,4],[],[],[6,7],[6,7,8],[],[10],[],[12],[12,13],[10,11,12,13,14],[10,11,12,13,14,15],[2,3,4,5,6,7,8,9,10,11,12,13,14,15,16],[2,3,4,5,6,7,8,9,10,11,12,13,14,15,16,17],.range 19,.range 20,.range 21],.range 22⟩
  | _=>⟨.nil,[],[]⟩
theorem ZY (i:Nat):hi43.acts i=[]:=rfl
attribute[go_sem] ZY ntmps43 results43
@[go_sem] theorem adg:(hi43.draws 8).order=hi43_8:=rfl
@[go_sem] theorem abY:(hi43.draws 14).order=hi43_14:=rfl
@[go_sem] theorem abZ:(hi43.draws 16).order=hi43_16:=rfl
@[go_sem] theorem aca:(hi43.draws 17).order=hi43_17:=rfl
@[go_sem] theorem acb:(hi43.draws 21).order=hi43_21:=rfl
@[go_sem] theorem acd:(hi43.draws 22).order=hi43_22:=rfl
instance k43 {t:GSheet}:Ctr (fN t) (fun (res:GShow × Int)=>aj prog 43 [.agg (GSheet.encS t)] [] (.tup [.agg [.ref 20000 1 0 res.1.nodes.length,.ref 20001 1 0 res.1.ties.length,.lit (.int .i64 res.1.horizon)],.lit (.int .i64 res.2)]) [(20000,1,.row true (ab GNode.encO res.1.nodes)),(20001,1,.row true (ab GTie.enc res.1.ties))]):=⟨by
 intro res h0
 refine aE (ra:=[.homeCell 128 0,.homeCell 128 1]) (md:=mdT) hT (hi:=hi43) func43 rfl rfl (by decide +kernel) (by simp) ?_
 unfold fN at h0
 obtain⟨r01,g0,h0⟩:=af h0
 simp(config:=cS)only[go_sem, *]
 have g0:=ctr g0
 refine ag g0 ?_
 obtain⟨_,h0⟩|⟨_,h0⟩:=itB h0
 ·obtain⟨r02,g0,h0⟩:=af h0
  simp(config:=cS)only[go_sem, *]
  have g0:=ctr g0
  refine ag g0 ?_
  obtain⟨q53,l0,h0⟩:=af h0
  simp(config:=cS)only[go_sem, *]
  refine ai (m1:=.mk) (m2:=.mk) [.homeCell 448 1,.nf [1,2,4,5,6,7,28,29,30] [64,128,1152,1153,448,1600,100028673]] (sx r02.2.2 t.cues (t.cues.length:Int) t.prep t.horizon r02.1 r02.2.1) l0 ?_ ?_
  ·simp(config:=cS)only[go_sem, *]
  have k0:=h0
  clear h0 l0
  intro _ s0 _ h0 gb0
  obtain⟨v30_1,h1600_1,h100028673_1⟩:=s0
  unfold dU at h0
  try dsimp only at h0
  obtain⟨_,h0⟩|⟨_,h0⟩:=itP h0
  ·obtain⟨x03,_,_,_,h0⟩:=gtI h0
   obtain⟨r04,g0,h0⟩:=af h0
   simp(config:=cS)only[go_sem, *]
   have g0:=ctr g0
   refine ag g0 ?_
   obtain⟨_,h0⟩:=ckP h0
   obtain⟨_,h0⟩:=ckP h0
   obtain⟨_,h0⟩|⟨_,h0⟩:=itB h0
   ·obtain⟨r05,g0,h0⟩:=af h0
    simp(config:=cS)only[go_sem, *]
    have g0:=ctr g0
    refine ag g0 ?_
    obtain⟨x06,_,e1,_,h0⟩:=gtI h0
    obtain⟨_,h0⟩:=ckP h0
    obtain⟨_,h0⟩:=ckP h0
    obtain⟨_,h0⟩|⟨_,h0⟩:=itP h0
    ·obtain⟨_,h0⟩:=ckP h0
     obtain⟨_,h0⟩:=ckP h0
     obtain⟨q12,l0,h0⟩:=af h0
     simp(config:=cS)only[go_sem, *]
     refine ai (m1:=.mk) (m2:=.mk) [.nf [1,2,4,5,6,7,8,9,28,29,30,119,120] [64,128,1152,1153,448,1600,100028673,576]] (cZ r02.2.2 v30_1 t.cues (t.cues.length:Int) (((t.cues.take v30_1.toNat).length:Nat):Int) t.prep t.horizon x03.name x03.after x03.atEnd x03.low x03.high x03.min_ x03.max_ x03.free x03.if_ x03.watch x03.device r02.1 r02.2.1 (h1600_1++([(GNode.mk x03.name r04 x03.watch)]))) l0 ?_ ?_
     ·simp(config:=cS)only[go_sem, *]
     have k0:=h0
     clear h0 l0
     intro _ s0 _ h0 gb0
     obtain⟨v120_2,h100028673_2⟩:=s0
     unfold aO at h0
     try dsimp only at h0
     obtain⟨_,h0⟩|⟨_,h0⟩:=itP h0
     ·obtain⟨_,h0⟩|⟨_,h0⟩:=itP h0
      ·exact run
      obtain⟨x07,_,_,_,h0⟩:=gtI h0
      obtain⟨_,h0⟩|⟨_,h0⟩:=itP h0
      ·obtain⟨r08,g0,h0⟩:=af h0
       simp(config:=cS)only[go_sem, *]
       have g0:=ctr g0
       refine ag g0 ?_
       obtain⟨_,h0⟩|⟨_,h0⟩:=itB h0
       ·obtain⟨x09,_,e2,_,h0⟩:=gtI h0
        obtain rfl:=Option.some.inj (e1.symm.trans e2)
        exact run
       exact run
      exact run
     exact run
    obtain⟨_,h0⟩:=ckP h0
    obtain⟨r13,g0,h0⟩:=af h0
    simp(config:=cS)only[go_sem, *]
    have g0:=ctr g0
    refine ag g0 ?_
    obtain⟨a3,h0⟩:=ckP h0
    try simp(config:=cS)only[go_sem]at a3
    obtain⟨a4,h0⟩:=ckP h0
    try simp(config:=cS)only[go_sem]at a4
    obtain⟨x14,_,_,_,h0⟩:=gtI h0
    obtain⟨a5,h0⟩:=ckP h0
    try simp(config:=cS)only[go_sem]at a5
    obtain⟨a6,h0⟩:=ckP h0
    try simp(config:=cS)only[go_sem]at a6
    obtain⟨_,h0⟩:=ckP h0
    obtain⟨_,h0⟩:=ckP h0
    obtain⟨q20,l0,h0⟩:=af h0
    simp(config:=cS)only[go_sem, *]
    refine ai (m1:=.mk) (m2:=.mk) [.nf [1,2,4,5,6,7,8,9,28,29,30,119,120] [64,128,1152,1153,448,1600,100028673,576]] (cZ r02.2.2 v30_1 t.cues (t.cues.length:Int) (((t.cues.take v30_1.toNat).length:Nat):Int) t.prep t.horizon x03.name x03.after x03.atEnd x03.low x03.high x03.min_ x03.max_ x03.free x03.if_ x03.watch x03.device r02.1 r02.2.1 ((h1600_1++([(GNode.mk x03.name r04 x03.watch)]))++([(GNode.mk (x03.name++(ByteArray.mk #[122])) r13 0)]))) l0 ?_ ?_
    ·simp(config:=cS)only[go_sem, *]
    have k0:=h0
    clear h0 l0
    intro _ s0 _ h0 gb0
    obtain⟨v120_3,h100028673_3⟩:=s0
    unfold aO at h0
    try dsimp only at h0
    obtain⟨_,h0⟩|⟨_,h0⟩:=itP h0
    ·obtain⟨_,h0⟩|⟨_,h0⟩:=itP h0
     ·exact run
     obtain⟨x15,_,_,_,h0⟩:=gtI h0
     obtain⟨_,h0⟩|⟨_,h0⟩:=itP h0
     ·obtain⟨r16,g0,h0⟩:=af h0
      simp(config:=cS)only[go_sem, *]
      have g0:=ctr g0
      refine ag g0 ?_
      obtain⟨_,h0⟩|⟨_,h0⟩:=itB h0
      ·obtain⟨x17,_,e7,_,h0⟩:=gtI h0
       obtain rfl:=Option.some.inj (e1.symm.trans e7)
       exact run
      exact run
     exact run
    exact run
   obtain⟨_,h0⟩|⟨_,h0⟩:=itP h0
   ·obtain⟨x21,_,_,_,h0⟩:=gtI h0
    obtain⟨x22,_,e8,_,h0⟩:=gtI h0
    obtain⟨_,h0⟩:=ckP h0
    obtain⟨_,h0⟩:=ckP h0
    obtain⟨_,h0⟩|⟨_,h0⟩:=itP h0
    ·obtain⟨_,h0⟩:=ckP h0
     obtain⟨_,h0⟩:=ckP h0
     obtain⟨q28,l0,h0⟩:=af h0
     simp(config:=cS)only[go_sem, *]
     refine ai (m1:=.mk) (m2:=.mk) [.nf [1,2,4,5,6,7,8,9,28,29,30,119,120] [64,128,1152,1153,448,1600,100028673,576]] (cZ r02.2.2 v30_1 t.cues (t.cues.length:Int) (((t.cues.take v30_1.toNat).length:Nat):Int) t.prep t.horizon x03.name x03.after x03.atEnd x03.low x03.high x03.min_ x03.max_ x03.free x03.if_ x03.watch x03.device r02.1 r02.2.1 (h1600_1++([(GNode.mk x03.name r04 x03.watch)]))) l0 ?_ ?_
     ·simp(config:=cS)only[go_sem, *]
     have k0:=h0
     clear h0 l0
     intro _ s0 _ h0 gb0
     obtain⟨v120_4,h100028673_4⟩:=s0
     unfold aO at h0
     try dsimp only at h0
     obtain⟨_,h0⟩|⟨_,h0⟩:=itP h0
     ·obtain⟨_,h0⟩|⟨_,h0⟩:=itP h0
      ·exact run
      obtain⟨x23,_,_,_,h0⟩:=gtI h0
      obtain⟨_,h0⟩|⟨_,h0⟩:=itP h0
      ·obtain⟨r24,g0,h0⟩:=af h0
       simp(config:=cS)only[go_sem, *]
       have g0:=ctr g0
       refine ag g0 ?_
       obtain⟨_,h0⟩|⟨_,h0⟩:=itB h0
       ·obtain⟨x25,_,e9,_,h0⟩:=gtI h0
        obtain rfl:=Option.some.inj (e8.symm.trans e9)
        exact run
       exact run
      exact run
     exact run
    obtain⟨_,h0⟩:=ckP h0
    obtain⟨r29,g0,h0⟩:=af h0
    simp(config:=cS)only[go_sem, *]
    have g0:=ctr g0
    refine ag g0 ?_
    obtain⟨a10,h0⟩:=ckP h0
    try simp(config:=cS)only[go_sem]at a10
    obtain⟨a11,h0⟩:=ckP h0
    try simp(config:=cS)only[go_sem]at a11
    obtain⟨x30,_,_,_,h0⟩:=gtI h0
    obtain⟨a12,h0⟩:=ckP h0
    try simp(config:=cS)only[go_sem]at a12
    obtain⟨a13,h0⟩:=ckP h0
    try simp(config:=cS)only[go_sem]at a13
    obtain⟨_,h0⟩:=ckP h0
    obtain⟨_,h0⟩:=ckP h0
    obtain⟨q36,l0,h0⟩:=af h0
    simp(config:=cS)only[go_sem, *]
    refine ai (m1:=.mk) (m2:=.mk) [.nf [1,2,4,5,6,7,8,9,28,29,30,119,120] [64,128,1152,1153,448,1600,100028673,576]] (cZ r02.2.2 v30_1 t.cues (t.cues.length:Int) (((t.cues.take v30_1.toNat).length:Nat):Int) t.prep t.horizon x03.name x03.after x03.atEnd x03.low x03.high x03.min_ x03.max_ x03.free x03.if_ x03.watch x03.device r02.1 r02.2.1 ((h1600_1++([(GNode.mk x03.name r04 x03.watch)]))++([(GNode.mk (x03.name++(ByteArray.mk #[122])) r29 0)]))) l0 ?_ ?_
    ·simp(config:=cS)only[go_sem, *]
    have k0:=h0
    clear h0 l0
    intro _ s0 _ h0 gb0
    obtain⟨v120_5,h100028673_5⟩:=s0
    unfold aO at h0
    try dsimp only at h0
    obtain⟨_,h0⟩|⟨_,h0⟩:=itP h0
    ·obtain⟨_,h0⟩|⟨_,h0⟩:=itP h0
     ·exact run
     obtain⟨x31,_,_,_,h0⟩:=gtI h0
     obtain⟨_,h0⟩|⟨_,h0⟩:=itP h0
     ·obtain⟨r32,g0,h0⟩:=af h0
      simp(config:=cS)only[go_sem, *]
      have g0:=ctr g0
      refine ag g0 ?_
      obtain⟨_,h0⟩|⟨_,h0⟩:=itB h0
      ·obtain⟨x33,_,e14,_,h0⟩:=gtI h0
       obtain rfl:=Option.some.inj (e8.symm.trans e14)
       exact run
      exact run
     exact run
    exact run
   obtain⟨x37,_,e15,_,h0⟩:=gtI h0
   obtain⟨_,h0⟩:=ckP h0
   obtain⟨_,h0⟩:=ckP h0
   obtain⟨_,h0⟩|⟨_,h0⟩:=itP h0
   ·obtain⟨_,h0⟩:=ckP h0
    obtain⟨_,h0⟩:=ckP h0
    obtain⟨q43,l0,h0⟩:=af h0
    simp(config:=cS)only[go_sem, *]
    refine ai (m1:=.mk) (m2:=.mk) [.nf [1,2,4,5,6,7,8,9,28,29,30,119,120] [64,128,1152,1153,448,1600,100028673,576]] (cZ r02.2.2 v30_1 t.cues (t.cues.length:Int) (((t.cues.take v30_1.toNat).length:Nat):Int) t.prep t.horizon x03.name x03.after x03.atEnd x03.low x03.high x03.min_ x03.max_ x03.free x03.if_ x03.watch x03.device r02.1 r02.2.1 (h1600_1++([(GNode.mk x03.name r04 x03.watch)]))) l0 ?_ ?_
    ·simp(config:=cS)only[go_sem, *]
    have k0:=h0
    clear h0 l0
    intro _ s0 _ h0 gb0
    obtain⟨v120_6,h100028673_6⟩:=s0
    unfold aO at h0
    try dsimp only at h0
    obtain⟨_,h0⟩|⟨_,h0⟩:=itP h0
    ·obtain⟨_,h0⟩|⟨_,h0⟩:=itP h0
     ·exact run
     obtain⟨x38,_,_,_,h0⟩:=gtI h0
     obtain⟨_,h0⟩|⟨_,h0⟩:=itP h0
     ·obtain⟨r39,g0,h0⟩:=af h0
      simp(config:=cS)only[go_sem, *]
      have g0:=ctr g0
      refine ag g0 ?_
      obtain⟨_,h0⟩|⟨_,h0⟩:=itB h0
      ·obtain⟨x40,_,e16,_,h0⟩:=gtI h0
       obtain rfl:=Option.some.inj (e15.symm.trans e16)
       exact run
      exact run
     exact run
    exact run
   obtain⟨_,h0⟩:=ckP h0
   obtain⟨r44,g0,h0⟩:=af h0
   simp(config:=cS)only[go_sem, *]
   have g0:=ctr g0
   refine ag g0 ?_
   obtain⟨a17,h0⟩:=ckP h0
   try simp(config:=cS)only[go_sem]at a17
   obtain⟨a18,h0⟩:=ckP h0
   try simp(config:=cS)only[go_sem]at a18
   obtain⟨x45,_,_,_,h0⟩:=gtI h0
   obtain⟨a19,h0⟩:=ckP h0
   try simp(config:=cS)only[go_sem]at a19
   obtain⟨a20,h0⟩:=ckP h0
   try simp(config:=cS)only[go_sem]at a20
   obtain⟨_,h0⟩:=ckP h0
   obtain⟨_,h0⟩:=ckP h0
   obtain⟨q51,l0,h0⟩:=af h0
   simp(config:=cS)only[go_sem, *]
   refine ai (m1:=.mk) (m2:=.mk) [.nf [1,2,4,5,6,7,8,9,28,29,30,119,120] [64,128,1152,1153,448,1600,100028673,576]] (cZ r02.2.2 v30_1 t.cues (t.cues.length:Int) (((t.cues.take v30_1.toNat).length:Nat):Int) t.prep t.horizon x03.name x03.after x03.atEnd x03.low x03.high x03.min_ x03.max_ x03.free x03.if_ x03.watch x03.device r02.1 r02.2.1 ((h1600_1++([(GNode.mk x03.name r04 x03.watch)]))++([(GNode.mk (x03.name++(ByteArray.mk #[122])) r44 0)]))) l0 ?_ ?_
   ·simp(config:=cS)only[go_sem, *]
   have k0:=h0
   clear h0 l0
   intro _ s0 _ h0 gb0
   obtain⟨v120_7,h100028673_7⟩:=s0
   unfold aO at h0
   try dsimp only at h0
   obtain⟨_,h0⟩|⟨_,h0⟩:=itP h0
   ·obtain⟨_,h0⟩|⟨_,h0⟩:=itP h0
    ·exact run
    obtain⟨x46,_,_,_,h0⟩:=gtI h0
    obtain⟨_,h0⟩|⟨_,h0⟩:=itP h0
    ·obtain⟨r47,g0,h0⟩:=af h0
     simp(config:=cS)only[go_sem, *]
     have g0:=ctr g0
     refine ag g0 ?_
     obtain⟨_,h0⟩|⟨_,h0⟩:=itB h0
     ·obtain⟨x48,_,e21,_,h0⟩:=gtI h0
      obtain rfl:=Option.some.inj (e15.symm.trans e21)
      exact run
     exact run
    exact run
   exact run
  exact run
 exact run⟩
instance k188 {t:GTie} {node:Int}:Ctr (ml t node) (fun (res:Bool)=>aj prog 188 [.agg (GTie.enc t),.loc [.lit (.int .i64 node)]] [] (.lit (.bool res)) []):=⟨by
 intro res h0
 refine co (hi:=hi00) func188 rfl rfl ?_
 unfold ml at h0
 exact run⟩
instance k83 {s:GShow} {node:Int}:Ctr (gq s node) (fun (res:Int)=>aj prog 83 [.agg (GShow.encS s),.lit (.int .i64 node)] [] (.lit (.int .i64 res)) []):=⟨by
 intro res h0
 refine co (hi:=hi00) func83 rfl rfl ?_
 unfold gq at h0
 obtain⟨r01,g0,h0⟩:=af h0
 simp(config:=cS)only[go_sem, *]
 refine ag (po (by exact fun _ _ hr=>by have q:=ctr hr;exact q) (by refine⟨fun _=>?_,fun _=>?_⟩ <;> simp only[go_sem]) (fun _=>rfl) rfl g0) ?_
 exact run⟩
@[go_sem] def vY (s_0:List GNode)(s_1:List GTie)(s_2:Int):(Int × (List Int))→St
 | (node,chain)=>⟨[(1,.lit (.int .i64 node)),(2,.ptr 128 1 0 0),(6,.ref 447 1 0 chain.length)],[(128,1,.var [.sl (ab GNode.encS s_0),.sl (ab GTie.enc s_1),.lit (.int .i64 s_2)]),(447,1,.row true (ab eI chain))],2⟩
@[go_sem] def hi92_7:DT:=.i2 0 (.i2 1 (.i1 4 (.i1 5 (.i2 6 (.i1 7 (.i1 8 (.i1 9 (.i0 2 [4,5,7,8,9] (.i0 3 [4,5,7,8,9] (.i2 10 (.i2 11 .nil)))))))))))
def hi92:Hint where
 acts:=fun _=>[]
 draws:=fun
  | 7=>⟨hi92_7,[[],[],[1],[0,1,2],[],[4],[],[4,5,6],[4,5,6,7],[4,5,6,7,8],[0,1,2,3],.range 11],[0,1,2,3,5,6,7,8,9,10,4,11]⟩
  | _=>⟨.nil,[],[]⟩
theorem aaa (i:Nat):hi92.acts i=[]:=rfl
attribute[go_sem] aaa ntmps92 results92
@[go_sem] theorem adh:(hi92.draws 7).order=hi92_7:=rfl
instance k92 {s:GShow} {node:Int}:Ctr (bh s node) (fun (res:Int × (List Int))=>aj prog 92 [.agg (GShow.encS s),.lit (.int .i64 node)] [] (.tup [.lit (.int .i64 res.1),.ref 20000 1 0 res.2.length]) [(20000,1,.row true (ab eI res.2))]):=⟨by
 intro res h0
 refine aE (ra:=[.home 5]) (md:=mdT) hT (hi:=hi92) func92 rfl rfl (by decide +kernel) (by simp) ?_
 unfold bh at h0
 obtain⟨q04,l0,h0⟩:=af h0
 simp(config:=cS)only[go_sem, *]
 refine ai (m1:=.mk) (m2:=.mk) [.home 6,.nf [1,2,6] [128,447]] (vY s.nodes s.ties s.horizon) l0 ?_ ?_
 ·simp(config:=cS)only[go_sem, *]
 have k0:=h0
 clear h0 l0
 intro _ s0 _ h0 gb0
 obtain⟨node_1,chain_1⟩:=s0
 unfold bb at h0
 try dsimp only at h0
 exact run⟩
@[go_sem] def vZ (v11:List GNode)(v12:Int)(s_1:List GTie)(s_2 v13:Int):St:=⟨[(1,.ptr 64 1 0 0),(11,.sl (ab GNode.encS v11)),(12,.lit (.int .i64 v12)),(13,.lit (.int .i64 v13))],[(64,1,.var [.sl (ab GNode.encS v11),.sl (ab GTie.enc s_1),.lit (.int .i64 s_2)])],2⟩
instance k91 {s:GShow}:Ctr (mC s) (fun (res:Bool)=>aj prog 91 [.agg (GShow.encS s)] [] (.lit (.bool res)) []):=⟨by
 intro res h0
 refine co (hi:=hi00) func91 rfl rfl ?_
 unfold mC at h0
 obtain⟨r01,g0,h0⟩:=af h0
 simp(config:=cS)only[go_sem, *]
 have g0:=ctr g0
 refine ag g0 ?_
 obtain⟨_,h0⟩|⟨_,h0⟩:=itB h0
 ·obtain⟨q04,l0,h0⟩:=af h0
  simp(config:=cS)only[go_sem, *]
  refine ai (m1:=.mk) (m2:=.mk) [.nf [1,11,12,13] [64]] (vZ s.nodes (s.nodes.length:Int) s.ties s.horizon) l0 ?_ ?_
  ·simp(config:=cS)only[go_sem, *]
  have k0:=h0
  clear h0 l0
  intro _ v13_1 _ h0 gb0
  unfold ib at h0
  try dsimp only at h0
  exact run
 exact run⟩
@[go_sem] def wa (but v12:List Int)(v13:Int)(s_0:List GNode)(s_1:List GTie)(s_2:Int):(Int × Int × Int)→St
 | (low,high,v14)=>⟨[(2,.sl (ab eI but)),(3,.ptr 192 1 0 0),(8,.lit (.int .i64 low)),(9,.lit (.int .i64 high)),(12,.sl (ab eI v12)),(13,.lit (.int .i64 v13)),(14,.lit (.int .i64 v14))],[(192,1,.var [.sl (ab GNode.encS s_0),.sl (ab GTie.enc s_1),.lit (.int .i64 s_2)])],2⟩
@[go_sem] def hi184_6:DT:=.r2 0 18 .nil
def JA:Hint where
 acts:=fun _=>[]
 draws:=fun
  | 6=>⟨hi184_6,[[],[],[1],[],[1,2,3],[1,2,3,4],[1,2,3,4,5],.range 7,[],[],[9],[],[9,10,11],[9,10,11,12],[9,10,11,12,13],[8,9,10,11,12,13,14],.range 8,.range 17],[0,1,2,3,4,5,6,7,9,10,11,12,13,14,15,16,8,17]⟩
  | _=>⟨.nil,[],[]⟩
theorem XE (i:Nat):JA.acts i=[]:=rfl
attribute[go_sem] XE ntmps184 results184
@[go_sem] theorem ace:(JA.draws 6).order=hi184_6:=rfl
instance k184 {s:GShow} {ties:List Int} {but:List Int}:Ctr (iP s ties but) (fun (res:Int × Int)=>aj prog 184 [.agg (GShow.encS s),.sl (ab eI ties),.sl (ab eI but)] [] (.tup [.lit (.int .i64 res.1),.lit (.int .i64 res.2)]) []):=⟨by
 intro res h0
 refine co (hi:=JA) func184 rfl rfl ?_
 unfold iP at h0
 obtain⟨q04,l0,h0⟩:=af h0
 simp(config:=cS)only[go_sem, *]
 refine ai (m1:=.mk) (m2:=.mk) [.nf [2,3,8,9,12,13,14] [192]] (wa but ties (ties.length:Int) s.nodes s.ties s.horizon) l0 ?_ ?_
 ·simp(config:=cS)only[go_sem, *]
 have k0:=h0
 clear h0 l0
 intro _ s0 _ h0 gb0
 obtain⟨low_1,high_1,v14_1⟩:=s0
 unfold ic at h0
 try dsimp only at h0
 exact run⟩
@[go_sem] def qP (v0:List GLink)(f_v1:Nat)(k_v1:List AV)(v7 v8:Int):St:=⟨[(0,.sl (ab GLink.enc v0)),(1,.fn f_v1 k_v1),(7,.lit (.int .i64 v7)),(8,.lit (.int .i64 v8))],[],2⟩
theorem pf {v0:List GLink}{v1:GLink→Option Bool}{f_v1:Nat}{k_v1:List AV}(hp_v1:∀ y0 r,v1 y0=some r→aj prog f_v1 ([.agg (GLink.enc y0)]++k_v1) [] (.lit (.bool r)) [])(hc_v1:KC k_v1)(hm_v1:∀ a,mdT f_v1 a=⟨[],false⟩)(hk_v1:spf f_v1=false){res:Int}(h:dA v0 v1=some res):aj prog 272 [.sl (ab GLink.enc v0),.fn f_v1 k_v1] [] (.lit (.int .i64 res)) []:=by
 refine co (hi:=hi00) func272 rfl rfl ?_
 unfold dA at h
 obtain⟨q03,l1,h⟩:=af h
 simp(config:=cS)only[go_sem,hc_v1.1,hc_v1.2,hm_v1,hk_v1]
 refine ai (m1:=.mk) (m2:=.mk) [.nf [0,1,7,8] []] (qP v0 f_v1 k_v1 (v0.length:Int)) l1 ?_ ?_
 ·simp(config:=cS)only[go_sem,hc_v1.1,hc_v1.2,hm_v1,hk_v1]
 intro nb2 v8_1 bb2 b2 gb2
 unfold cN at b2
 try dsimp only at b2
 obtain⟨h3,b2⟩|⟨h3,b2⟩:=bl b2
 ·obtain⟨x01,g4,b2⟩:=af b2
  obtain⟨h5,h6,h7⟩:=eU g4
  obtain⟨r02,g8,b2⟩:=af b2
  simp(config:=cS)only[go_sem,hc_v1.1,hc_v1.2,hm_v1,hk_v1,eqT h3,h5,h6,h7]
  refine ag (hp_v1 _ _ g8) ?_
  obtain⟨h9,b2⟩|⟨h9,b2⟩:=bl b2
  ·cases b2
   obtain rfl:=(aJ gb2).symm
   try dsimp only at h
   cases h
   simp(config:=cS)only[go_sem,hc_v1.1,hc_v1.2,hm_v1,hk_v1,eqT h3,h5,h6,h7,eZt h9]
  cases b2
  simp(config:=cS)only[go_sem,hc_v1.1,hc_v1.2,hm_v1,hk_v1,eqT h3,h5,h6,h7,eZf h9]
  refine iL gb2 ?_
  simp(config:=cS)only[go_sem,hc_v1.1,hc_v1.2,hm_v1,hk_v1,eqT h3,h5,h6,h7,eZf h9]
 cases b2
 obtain rfl:=(aJ gb2).symm
 try dsimp only at h
 cases h
 simp(config:=cS)only[go_sem,hc_v1.1,hc_v1.2,hm_v1,hk_v1,eqF h3]
theorem rY {v0:List GLink}{v1:GLink→Option Bool}{f_v1:Nat}{k_v1:List AV}(hp_v1:∀ y0 r,v1 y0=some r→aj prog f_v1 ([.agg (GLink.enc y0)]++k_v1) [] (.lit (.bool r)) [])(hc_v1:KC k_v1)(hm_v1:∀ a,mdT f_v1 a=⟨[],false⟩)(hk_v1:spf f_v1=false){res:Bool}(h:dM v0 v1=some res):aj prog 254 [.sl (ab GLink.enc v0),.fn f_v1 k_v1] [] (.lit (.bool res)) []:=by
 refine co (hi:=hi00) func254 rfl rfl ?_
 unfold dM at h
 obtain⟨r01,g1,h⟩:=af h
 simp(config:=cS)only[go_sem,hc_v1.1,hc_v1.2,hm_v1,hk_v1]
 refine ag (pf hp_v1 hc_v1 hm_v1 hk_v1 g1) ?_
 cases h
 simp(config:=cS)only[go_sem,hc_v1.1,hc_v1.2,hm_v1,hk_v1]
instance k177 {i:az}:Ctr (fH i) (fun (res:Bool)=>aj prog 177 [.agg [.lit (.int .i64 i.low),.lit (.int .i64 i.high)]] [] (.lit (.bool res)) []):=⟨by
 intro res h0
 refine co (hi:=hi00) func177 rfl rfl ?_
 unfold fH at h0
 exact run⟩
instance k255 {l:GLink} {s:GSimple}:Ctr (jj l s) (fun (res:Bool)=>aj prog 255 [.agg (GLink.enc l),.loc [.lit (.int .i64 s.events),.sl (ab GLink.enc s.links)]] [] (.lit (.bool res)) []):=⟨by
 intro res h0
 refine co (hi:=hi00) func255 rfl rfl ?_
 unfold jj at h0
 exact run⟩
instance k172 {s:GSimple}:Ctr (dq s) (fun (res:Bool)=>aj prog 172 [.agg [.lit (.int .i64 s.events),.sl (ab GLink.enc s.links)]] [] (.lit (.bool res)) []):=⟨by
 intro res h0
 refine co (hi:=hi00) func172 rfl rfl ?_
 unfold dq at h0
 obtain⟨_,h0⟩|⟨_,h0⟩:=itP h0
 ·exact run
 obtain⟨_,h0⟩|⟨_,h0⟩:=itP h0
 ·exact run
 obtain⟨_,h0⟩|⟨_,h0⟩:=itP h0
 ·exact run
 obtain⟨r01,g0,h0⟩:=af h0
 simp(config:=cS)only[go_sem, *]
 refine ag (rY (by exact fun _ _ hr=>by have q:=ctr hr;exact q) (by refine⟨fun _=>?_,fun _=>?_⟩ <;> simp only[go_sem]) (fun _=>rfl) rfl g0) ?_
 exact run⟩
@[go_sem] def rZ (v31:Int)(s_0:List GNode)(s_1:List GTie)(s_2:Int):(Int × (List GLink))→St
 | (v32,h100016385)=>⟨[(1,.ptr 64 1 0 0),(2,.ptr 128 1 0 0),(4,.ptr 256 1 0 0),(31,.lit (.int .i64 v31)),(32,.lit (.int .i64 v32))],[(64,1,.var [.sl (ab GNode.encS s_0),.sl (ab GTie.enc s_1),.lit (.int .i64 s_2)]),(128,1,.var [.lit (.int .i64 0),.lit (.slice none 0 0)]),(256,1,.var [.lit (.int .i64 v31),.ref 100016385 1 0 h100016385.length]),(100016385,1,.row true (ab GLink.enc h100016385))],2⟩
@[go_sem] def sa (v63:List GTie)(v64:Int)(s_0:List GNode)(s_2 out_0:Int):(Int × (List GLink))→St
 | (v65,h100016385)=>⟨[(1,.ptr 64 1 0 0),(2,.ptr 128 1 0 0),(4,.ptr 256 1 0 0),(63,.sl (ab GTie.enc v63)),(64,.lit (.int .i64 v64)),(65,.lit (.int .i64 v65))],[(64,1,.var [.sl (ab GNode.encS s_0),.sl (ab GTie.enc v63),.lit (.int .i64 s_2)]),(128,1,.var [.lit (.int .i64 0),.lit (.slice none 0 0)]),(256,1,.var [.lit (.int .i64 out_0),.ref 100016385 1 0 h100016385.length]),(100016385,1,.row true (ab GLink.enc h100016385))],2⟩
@[go_sem] def sb (v123:Int)(s_0:List GNode)(s_1:List GTie)(s_2:Int):(Int × (List GLink))→St
 | (v124,h100016385)=>⟨[(1,.ptr 64 1 0 0),(2,.ptr 128 1 0 0),(4,.ptr 256 1 0 0),(123,.lit (.int .i64 v123)),(124,.lit (.int .i64 v124))],[(64,1,.var [.sl (ab GNode.encS s_0),.sl (ab GTie.enc s_1),.lit (.int .i64 s_2)]),(128,1,.var [.lit (.int .i64 0),.lit (.slice none 0 0)]),(256,1,.var [.lit (.int .i64 v123),.ref 100016385 1 0 h100016385.length]),(100016385,1,.row true (ab GLink.enc h100016385))],2⟩
instance k81 {s:GShow}:Ctr (gM s) (fun (res:GSimple × Bool)=>aj prog 81 [.agg (GShow.encS s)] [] (.tup [.agg [.lit (.int .i64 res.1.events),.ref 20000 1 0 res.1.links.length],.lit (.bool res.2)]) [(20000,1,.row true (ab GLink.enc res.1.links))]):=⟨by
 intro res h0
 refine aE (ra:=[.homeCell 128 1]) (md:=mdT) hT (hi:=hi00) func81 rfl rfl (by decide +kernel) (by simp) ?_
 unfold gM at h0
 obtain⟨r01,g0,h0⟩:=af h0
 simp(config:=cS)only[go_sem, *]
 have g0:=ctr g0
 refine ag g0 ?_
 obtain⟨_,h0⟩|⟨_,h0⟩:=itB h0
 ·obtain⟨q13,l0,h0⟩:=af h0
  simp(config:=cS)only[go_sem, *]
  refine ai (m1:=.mk) (m2:=.mk) [.homeCell 256 1,.nf [1,2,4,31,32] [64,128,256,100016385]] (rZ (s.nodes.length:Int) s.nodes s.ties s.horizon) l0 ?_ ?_
  ·simp(config:=cS)only[go_sem, *]
  have k0:=h0
  clear h0 l0
  intro _ s0 _ h0 gb0
  obtain⟨v32_1,h100016385_1⟩:=s0
  unfold dB at h0
  try dsimp only at h0
  obtain⟨_,h0⟩|⟨_,h0⟩:=itP h0
  ·exact run
  cases h0
  obtain rfl:=(aJ gb0).symm
  clear gb0
  have h0:=k0
  clear k0
  try dsimp only at h0
  obtain⟨q12,l0,h0⟩:=af h0
  simp(config:=cS)only[go_sem, *]
  refine ai (m1:=.mk) (m2:=.mk) [.nf [1,2,4,63,64,65] [64,128,256,100016385]] (sa s.ties (s.ties.length:Int) s.nodes s.horizon (s.nodes.length:Int)) l0 ?_ ?_
  ·simp(config:=cS)only[go_sem, *]
  have k0:=h0
  clear h0 l0
  intro _ s0 _ h0 gb0
  obtain⟨v65_2,h100016385_2⟩:=s0
  unfold dC at h0
  try dsimp only at h0
  obtain⟨_,h0⟩|⟨_,h0⟩:=itP h0
  ·exact run
  cases h0
  obtain rfl:=(aJ gb0).symm
  clear gb0
  have h0:=k0
  clear k0
  try dsimp only at h0
  obtain⟨q11,l0,h0⟩:=af h0
  simp(config:=cS)only[go_sem, *]
  refine ai (m1:=.mk) (m2:=.mk) [.nf [1,2,4,123,124] [64,128,256,100016385]] (sb (s.nodes.length:Int) s.nodes s.ties s.horizon) l0 ?_ ?_
  ·simp(config:=cS)only[go_sem, *]
  have k0:=h0
  clear h0 l0
  intro _ s0 _ h0 gb0
  obtain⟨v124_3,h100016385_3⟩:=s0
  unfold dD at h0
  try dsimp only at h0
  exact run
 exact run⟩
@[go_sem] def wb (v12:List GLink)(v13 g_0:Int):(Int × (List Int) × (List GEdge))→St
 | (v14,links,h100016385)=>⟨[(2,.ptr 128 1 0 0),(4,.ptr 256 1 0 0),(5,.ref 383 1 0 links.length),(12,.sl (ab GLink.enc v12)),(13,.lit (.int .i64 v13)),(14,.lit (.int .i64 v14))],[(128,1,.var [.lit (.int .i64 0),.lit (.slice none 0 0)]),(256,1,.var [.lit (.int .i64 g_0),.ref 100016385 1 0 h100016385.length]),(100016385,1,.row true (ab GEdge.enc h100016385)),(383,1,.row true (ab eI links))],2⟩
instance k261 {s:GSimple}:Ctr (mD s) (fun (res:GGraph × (List Int))=>aj prog 261 [.agg [.lit (.int .i64 s.events),.sl (ab GLink.enc s.links)]] [] (.tup [.agg [.lit (.int .i64 res.1.nodes),.ref 20000 1 0 res.1.edges.length],.ref 20001 1 0 res.2.length]) [(20000,1,.row true (ab GEdge.enc res.1.edges)),(20001,1,.row true (ab eI res.2))]):=⟨by
 intro res h0
 refine aE (ra:=[.homeCell 128 1,.home 3]) (md:=mdT) hT (hi:=hi00) func261 rfl rfl (by decide +kernel) (by simp) ?_
 unfold mD at h0
 obtain⟨q02,l0,h0⟩:=af h0
 simp(config:=cS)only[go_sem, *]
 refine ai (m1:=.mk) (m2:=.mk) [.home 5,.homeCell 256 1,.nf [2,4,5,12,13,14] [128,256,100016385,383]] (wb s.links (s.links.length:Int) s.events) l0 ?_ ?_
 ·simp(config:=cS)only[go_sem, *]
 have k0:=h0
 clear h0 l0
 intro _ s0 _ h0 gb0
 obtain⟨v14_1,links_1,h100016385_1⟩:=s0
 unfold ie at h0
 try dsimp only at h0
 obtain⟨_,h0⟩|⟨_,h0⟩:=itP h0
 ·obtain⟨x01,_,_,_,h0⟩:=gtI h0
  obtain⟨_,h0⟩|⟨_,h0⟩:=itP h0
  ·exact run
  obtain⟨_,h0⟩:=ckP h0
  obtain⟨_,h0⟩:=ckP h0
  obtain⟨_,h0⟩:=ckP h0
  obtain⟨_,h0⟩:=ckP h0
  obtain⟨_,h0⟩|⟨_,h0⟩:=itP h0
  ·exact run
  obtain⟨a1,h0⟩:=ckP h0
  try simp(config:=cS)only[go_sem]at a1
  obtain⟨a2,h0⟩:=ckP h0
  try simp(config:=cS)only[go_sem]at a2
  obtain⟨a3,h0⟩:=ckP h0
  try simp(config:=cS)only[go_sem]at a3
  obtain⟨a4,h0⟩:=ckP h0
  try simp(config:=cS)only[go_sem]at a4
  exact run
 exact run⟩
instance k175 {s:GSimple}:Ctr (kz s) (fun (res:GGraph)=>aj prog 175 [.agg [.lit (.int .i64 s.events),.sl (ab GLink.enc s.links)]] [] (.agg [.lit (.int .i64 res.nodes),.ref 20000 1 0 res.edges.length]) [(20000,1,.row true (ab GEdge.enc res.edges))]):=⟨by
 intro res h0
 refine aE (ra:=[.homeCell 128 1]) (md:=mdT) hT (hi:=hi00) func175 rfl rfl (by decide +kernel) (by simp) ?_
 unfold kz at h0
 exact run⟩
@[go_sem] def qQ (v0:List GEdge)(f_v1:Nat)(k_v1:List AV)(v7 v8:Int):St:=⟨[(0,.sl (ab GEdge.enc v0)),(1,.fn f_v1 k_v1),(7,.lit (.int .i64 v7)),(8,.lit (.int .i64 v8))],[],2⟩
theorem tN {v0:List GEdge}{v1:GEdge→Option Bool}{f_v1:Nat}{k_v1:List AV}(hp_v1:∀ y0 r,v1 y0=some r→aj prog f_v1 ([.agg (GEdge.enc y0)]++k_v1) [] (.lit (.bool r)) [])(hc_v1:KC k_v1)(hm_v1:∀ a,mdT f_v1 a=⟨[],false⟩)(hk_v1:spf f_v1=false){res:Int}(h:fD v0 v1=some res):aj prog 344 [.sl (ab GEdge.enc v0),.fn f_v1 k_v1] [] (.lit (.int .i64 res)) []:=by
 refine co (hi:=hi00) func344 rfl rfl ?_
 unfold fD at h
 obtain⟨q03,l1,h⟩:=af h
 simp(config:=cS)only[go_sem,hc_v1.1,hc_v1.2,hm_v1,hk_v1]
 refine ai (m1:=.mk) (m2:=.mk) [.nf [0,1,7,8] []] (qQ v0 f_v1 k_v1 (v0.length:Int)) l1 ?_ ?_
 ·simp(config:=cS)only[go_sem,hc_v1.1,hc_v1.2,hm_v1,hk_v1]
 intro nb2 v8_1 bb2 b2 gb2
 unfold cO at b2
 try dsimp only at b2
 obtain⟨h3,b2⟩|⟨h3,b2⟩:=bl b2
 ·obtain⟨x01,g4,b2⟩:=af b2
  obtain⟨h5,h6,h7⟩:=eU g4
  obtain⟨r02,g8,b2⟩:=af b2
  simp(config:=cS)only[go_sem,hc_v1.1,hc_v1.2,hm_v1,hk_v1,eqT h3,h5,h6,h7]
  refine ag (hp_v1 _ _ g8) ?_
  obtain⟨h9,b2⟩|⟨h9,b2⟩:=bl b2
  ·cases b2
   obtain rfl:=(aJ gb2).symm
   try dsimp only at h
   cases h
   simp(config:=cS)only[go_sem,hc_v1.1,hc_v1.2,hm_v1,hk_v1,eqT h3,h5,h6,h7,eZt h9]
  cases b2
  simp(config:=cS)only[go_sem,hc_v1.1,hc_v1.2,hm_v1,hk_v1,eqT h3,h5,h6,h7,eZf h9]
  refine iL gb2 ?_
  simp(config:=cS)only[go_sem,hc_v1.1,hc_v1.2,hm_v1,hk_v1,eqT h3,h5,h6,h7,eZf h9]
 cases b2
 obtain rfl:=(aJ gb2).symm
 try dsimp only at h
 cases h
 simp(config:=cS)only[go_sem,hc_v1.1,hc_v1.2,hm_v1,hk_v1,eqF h3]
theorem sc {v0:List GEdge}{v1:GEdge→Option Bool}{f_v1:Nat}{k_v1:List AV}(hp_v1:∀ y0 r,v1 y0=some r→aj prog f_v1 ([.agg (GEdge.enc y0)]++k_v1) [] (.lit (.bool r)) [])(hc_v1:KC k_v1)(hm_v1:∀ a,mdT f_v1 a=⟨[],false⟩)(hk_v1:spf f_v1=false){res:Bool}(h:dN v0 v1=some res):aj prog 309 [.sl (ab GEdge.enc v0),.fn f_v1 k_v1] [] (.lit (.bool res)) []:=by
 refine co (hi:=hi00) func309 rfl rfl ?_
 unfold dN at h
 obtain⟨r01,g1,h⟩:=af h
 simp(config:=cS)only[go_sem,hc_v1.1,hc_v1.2,hm_v1,hk_v1]
 refine ag (tN hp_v1 hc_v1 hm_v1 hk_v1 g1) ?_
 cases h
 simp(config:=cS)only[go_sem,hc_v1.1,hc_v1.2,hm_v1,hk_v1]
instance k265 {n:Int}:Ctr (gN n) (fun (res:Bool)=>aj prog 265 [.lit (.int .i64 n)] [] (.lit (.bool res)) []):=⟨by
 intro res h0
 refine co (hi:=hi00) func265 rfl rfl ?_
 unfold gN at h0
 exact run⟩
instance k310 {e:GEdge} {g:GGraph}:Ctr (jI e g) (fun (res:Bool)=>aj prog 310 [.agg (GEdge.enc e),.loc [.lit (.int .i64 g.nodes),.sl (ab GEdge.enc g.edges)]] [] (.lit (.bool res)) []):=⟨by
 intro res h0
 refine co (hi:=hi00) func310 rfl rfl ?_
 unfold jI at h0
 exact run⟩
instance k258 {g:GGraph}:Ctr (iQ g) (fun (res:Bool)=>aj prog 258 [.agg [.lit (.int .i64 g.nodes),.sl (ab GEdge.enc g.edges)]] [] (.lit (.bool res)) []):=⟨by
 intro res h0
 refine co (hi:=hi00) func258 rfl rfl ?_
 unfold iQ at h0
 obtain⟨_,h0⟩|⟨_,h0⟩:=itP h0
 ·exact run
 obtain⟨_,h0⟩|⟨_,h0⟩:=itP h0
 ·exact run
 obtain⟨_,h0⟩|⟨_,h0⟩:=itP h0
 ·exact run
 obtain⟨r01,g0,h0⟩:=af h0
 simp(config:=cS)only[go_sem, *]
 refine ag (sc (by exact fun _ _ hr=>by have q:=ctr hr;exact q) (by refine⟨fun _=>?_,fun _=>?_⟩ <;> simp only[go_sem]) (fun _=>rfl) rfl g0) ?_
 exact run⟩
instance k313 {v0:Int} {y:Int}:Ctr (tq v0 y) (fun (res:Int × Int)=>aj prog 313 [.lit (.int .u64 v0),.lit (.int .u64 y)] [] (.tup [.lit (.int .u64 res.1),.lit (.int .u64 res.2)]) []):=⟨by
 intro res h0
 refine co (hi:=hi00) func313 rfl rfl ?_
 unfold tq at h0
 exact run⟩
instance k275 {v0:Int} {y:Int}:Ctr (ja v0 y) (fun (res:Int × Int)=>aj prog 275 [.lit (.int .u64 v0),.lit (.int .u64 y)] [] (.tup [.lit (.int .u64 res.1),.lit (.int .u64 res.2)]) []):=⟨by
 intro res h0
 refine co (hi:=hi00) func275 rfl rfl ?_
 unfold ja at h0
 exact run⟩
@[go_sem] def sy  : (Int × (List Int))→St
 | (v8,v7)=>⟨[(7,.ref 1920 1 0 v7.length),(8,.lit (.int .i64 v8))],[(1920,1,.row true (ab eI v7))],2⟩
@[go_sem] def hi200_9:DT:=.r2 0 10 .nil
def JB:Hint where
 acts:=fun _=>[]
 draws:=fun
  | 9=>⟨hi200_9,[[],[],[],[1,2],[],[],[4,5],[1,2,3,4,5,6],.range 8,.range 9],.range 10⟩
  | _=>⟨.nil,[],[]⟩
theorem XG (i:Nat):JB.acts i=[]:=rfl
attribute[go_sem] XG ntmps200 results200
@[go_sem] theorem acf:(JB.draws 9).order=hi200_9:=rfl
instance k200 {v0:List Int} {v1:Int}:Ctr (aN v0 v1) (fun (res:List Int)=>aj prog 200 [.sl (ab eI v0),.lit (.int .i64 v1)] [] (.ref 20000 1 0 res.length) [(20000,1,.row true (ab eI res))]):=⟨by
 intro res h0
 refine aE (ra:=[.home 4]) (md:=mdT) hT (hi:=JB) func200 rfl rfl (by decide +kernel) (by simp) ?_
 unfold aN at h0
 obtain⟨_,h0⟩|⟨_,h0⟩:=itP h0
 ·exact run
 obtain⟨r01,g0,h0⟩:=af h0
 simp(config:=cS)only[go_sem, *]
 have g0:=ctr g0
 refine ag g0 ?_
 obtain⟨_,h0⟩|⟨_,h0⟩:=itP h0
 ·exact run
 obtain⟨_,h0⟩|⟨_,h0⟩:=itP h0
 ·exact run
 obtain⟨_,h0⟩:=ckP h0
 obtain⟨_,h0⟩:=ckP h0
 obtain⟨_,h0⟩:=ckP h0
 obtain⟨q02,l0,h0⟩:=af h0
 simp(config:=cS)only[go_sem, *]
 refine ai (m1:=.mk) (m2:=.mk) [.nf [7,8] [1920]] (sy) l0 ?_ ?_
 ·simp(config:=cS)only[go_sem, *]
 have k0:=h0
 clear h0 l0
 intro _ s0 _ h0 gb0
 obtain⟨v8_1,v7_1⟩:=s0
 unfold ap at h0
 try dsimp only at h0
 exact run⟩
@[go_sem] def sd (zb0:Bool)  : (Int × Int × (List Int))→St
 | (v2,v3,v0)=>⟨[(0,.ref 10000 0 0 v0.length),(2,.lit (.int .i64 v2)),(3,.lit (.int .i64 v3))],[(10000,0,.row zb0 (ab eI v0))],2⟩
@[go_sem] def hi282_3:DT:=.r2 0 16 .nil
def JC:Hint where
 acts:=fun _=>[]
 draws:=fun
  | 3=>⟨hi282_3,[[],[],[],[],[],[],[4,5],[4,5,6],[],[],[8,9],[8,9,10],[0,1,4,5,6,7,8,9,10,11],[0,1,4,5,6,7,8,9,10,11,12],.range 14,.range 15],[0,1,12,13,2,3,4,5,6,7,8,9,10,11,14,15]⟩
  | _=>⟨.nil,[],[]⟩
theorem XI (i:Nat):JC.acts i=[]:=rfl
attribute[go_sem] XI ntmps282 results282
@[go_sem] theorem acg:(JC.draws 3).order=hi282_3:=rfl
theorem mX {v0:List Int}{zb0:Bool}{res:List Int}(h0:gO v0=some res):aj prog 282 [.ref 10000 0 0 v0.length] [(10000,0,.row zb0 (ab eI v0))] (.tup []) [(10000,0,.row zb0 (ab eI res))]:=by
 refine co (hi:=JC) func282 rfl rfl ?_
 unfold gO at h0
 obtain⟨q04,l0,h0⟩:=af h0
 simp(config:=cS)only[go_sem, *]
 refine ai (m1:=.mk) (m2:=.mk) [.nf [0,2,3] [10000]] (sd zb0) l0 ?_ ?_
 ·simp(config:=cS)only[go_sem, *]
 have k0:=h0
 clear h0 l0
 intro _ s0 _ h0 gb0
 obtain⟨v2_1,v3_1,v0_1⟩:=s0
 unfold fE at h0
 try dsimp only at h0
 exact run
@[go_sem] def jA (round:Int)(v31:List GEdge)(v32 g_0:Int):(Int × Int × (List Int) × (List Int))→St
 | (changed,v33,numbers,last)=>⟨[(1,.ptr 64 1 0 0),(3,.ref 1216 1 0 numbers.length),(4,.ref 1472 1 0 last.length),(5,.lit (.int .i64 changed)),(6,.lit (.int .i64 round)),(31,.sl (ab GEdge.enc v31)),(32,.lit (.int .i64 v32)),(33,.lit (.int .i64 v33))],[(64,1,.var [.lit (.int .i64 g_0),.sl (ab GEdge.enc v31)]),(1216,1,.row true (ab eI numbers)),(1472,1,.row true (ab eI last))],2⟩
@[go_sem] def jB (g_0:Int)(g_1:List GEdge):(Int × Int × (List Int) × (List Int))→St
 | (changed,round,numbers,last)=>⟨[(1,.ptr 64 1 0 0),(3,.ref 1216 1 0 numbers.length),(4,.ref 1472 1 0 last.length),(5,.lit (.int .i64 changed)),(6,.lit (.int .i64 round))],[(64,1,.var [.lit (.int .i64 g_0),.sl (ab GEdge.enc g_1)]),(1216,1,.row true (ab eI numbers)),(1472,1,.row true (ab eI last))],2⟩
@[go_sem] def jC (g_0:Int)(g_1:List GEdge)(last:List Int):(Int × Int)→St
 | (node,i)=>⟨[(1,.ptr 64 1 0 0),(4,.ref 1472 1 0 last.length),(10,.lit (.int .i64 node)),(11,.lit (.int .i64 i))],[(64,1,.var [.lit (.int .i64 g_0),.sl (ab GEdge.enc g_1)]),(1472,1,.row true (ab eI last))],2⟩
@[go_sem] def jD (node g_0:Int)(g_1:List GEdge)(last:List Int):(Int × (List Int))→St
 | (at_,out)=>⟨[(1,.ptr 64 1 0 0),(4,.ref 1472 1 0 last.length),(10,.lit (.int .i64 node)),(12,.ref 831 1 0 out.length),(13,.lit (.int .i64 at_))],[(64,1,.var [.lit (.int .i64 g_0),.sl (ab GEdge.enc g_1)]),(1472,1,.row true (ab eI last)),(831,1,.row true (ab eI out))],2⟩
@[go_sem] def hi211_26:DT:=.r2 0 10 .nil
@[go_sem] def hi211_22:DT:=.r2 0 10 .nil
@[go_sem] def hi211_14:DT:=.r2 0 4 (.i1 4 (.i1 5 (.r2 6 4 (.i0 10 [4,5] (.r2 11 3 .nil)))))
@[go_sem] def hi211_12:DT:=.r2 0 9 .nil
@[go_sem] def hi211_3:DT:=.i1 0 (.i1 1 (.i1 4 (.i1 5 (.fork (.i0 2 [4,5] (.i0 3 [0,1,4,5] (.i0 6 [0,1] (.i2 7 (.i2 8 .nil))))) (.i0 3 [0,1,4,5] (.fork (.i0 2 [4,5] (.i0 6 [0,1] (.i2 7 (.i2 8 .nil)))) (.i0 6 [0,1] (.i0 2 [4,5] (.i2 7 (.i2 8 .nil))))))))))
def ue:Hint where
 acts:=fun _=>[]
 draws:=fun
  | 3=>⟨hi211_3,[[],[0],[0,1],[],[],[4],[3,4,5],.range 7,.range 8],.range 9⟩
  | 12=>⟨hi211_12,[[],[],[1],[0,1,2],[0,1,2,3],[],[5],.range 7,.range 8],.range 9⟩
  | 14=>⟨hi211_14,[[],[],[1],[],[],[4],[],[],[],[0,1,2,6],[0,1,2,6,9],[0,1,2,3,4,5,6,7,9,10],[0,1,2,3,4,5,6,7,9,10,11],.range 13],[0,1,2,6,7,8,3,9,12,4,5,10,11,13]⟩
  | 22=>⟨hi211_22,[[],[0],[],[],[2,3],[2,3,4],.range 6,.range 7,.range 8,.range 9],.range 10⟩
  | 26=>⟨hi211_26,[[],[0],[],[],[2,3],[2,3,4],.range 6,.range 7,.range 8,.range 9],.range 10⟩
  | _=>⟨.nil,[],[]⟩
theorem XK (i:Nat):ue.acts i=[]:=rfl
attribute[go_sem] XK ntmps211 results211
@[go_sem] theorem ach:(ue.draws 3).order=hi211_3:=rfl
@[go_sem] theorem aaP:(ue.draws 12).order=hi211_12:=rfl
@[go_sem] theorem aaQ:(ue.draws 14).order=hi211_14:=rfl
@[go_sem] theorem aaR:(ue.draws 22).order=hi211_22:=rfl
@[go_sem] theorem aaS:(ue.draws 26).order=hi211_26:=rfl
instance k211 {g:GGraph}:Ctr (gP g) (fun (res:Option (List Int))=>aj prog 211 [.agg [.lit (.int .i64 g.nodes),.sl (ab GEdge.enc g.edges)]] [] (match res with|none=>.lit (.slice none 0 0)|some l=>.ref 20000 1 0 l.length) (match res with|none=>[]|some l=>[(20000,1,.row true (ab eI l))])):=⟨by
 intro res h0
 refine co (hi:=ue) func211 rfl rfl ?_
 unfold gP at h0
 obtain⟨r01,g0,h0⟩:=af h0
 simp(config:=cS)only[go_sem, *]
 have g0:=ctr g0
 refine ag g0 ?_
 obtain⟨_,h0⟩|⟨_,h0⟩:=itB h0
 ·obtain⟨_,h0⟩:=ckP h0
  obtain⟨_,h0⟩:=ckP h0
  obtain⟨_,h0⟩:=ckP h0
  try simp(config:=cS)only[go_sem, *]
  refine dl ?_ ?_
  ·obtain⟨r02,g0,h0⟩:=af h0
   simp(config:=cS)only[go_sem, *]
   have g0:=ctr g0
   refine ag g0 ?_
   obtain⟨q18,l0,h0⟩:=af h0
   simp(config:=cS)only[go_sem, *]
   refine ai (m1:=.mk) (m2:=.mk) [.nf [1,3,4,5,6] [64,1216,1472]] (jB g.nodes g.edges) l0 ?_ ?_
   ·simp(config:=cS)only[go_sem, *]
   have k0:=h0
   clear h0 l0
   intro _ s0 _ h0 gb0
   obtain⟨changed_1,round_1,numbers_1,last_1⟩:=s0
   unfold cf at h0
   try dsimp only at h0
   obtain⟨_,h0⟩|⟨_,h0⟩:=itP h0
   ·obtain⟨q07,l0,h0⟩:=af h0
    simp(config:=cS)only[go_sem, *]
    refine ai (m1:=.mk) (m2:=.mk) [.nf [1,3,4,5,6,31,32,33] [64,1216,1472]] (jA round_1 g.edges (g.edges.length:Int) g.nodes) l0 ?_ ?_
    ·simp(config:=cS)only[go_sem, *]
    have k0:=h0
    clear h0 l0
    intro _ s0 _ h0 gb0
    obtain⟨changed_2,v33_2,numbers_2,last_2⟩:=s0
    unfold ce at h0
    try dsimp only at h0
    exact run
   cases h0
   obtain rfl:=(aJ gb0).symm
   clear gb0
   have h0:=k0
   clear k0
   try dsimp only at h0
   obtain⟨_,h0⟩|⟨_,h0⟩:=itP h0
   ·exact run
   obtain⟨x08,_,_,_,h0⟩:=gtI h0
   obtain⟨q17,l0,h0⟩:=af h0
   simp(config:=cS)only[go_sem, *]
   refine ai (m1:=.mk) (m2:=.mk) [.nf [1,4,10,11] [64,1472]] (jC g.nodes g.edges last_1) l0 ?_ ?_
   ·simp(config:=cS)only[go_sem, *]
   have k0:=h0
   clear h0 l0
   intro _ s0 _ h0 gb0
   obtain⟨node_3,i_3⟩:=s0
   unfold cg at h0
   try dsimp only at h0
   obtain⟨_,h0⟩|⟨_,h0⟩:=itP h0
   ·exact run
   cases h0
   obtain rfl:=(aJ gb0).symm
   clear gb0
   have h0:=k0
   clear k0
   try dsimp only at h0
   obtain⟨q16,l0,h0⟩:=af h0
   simp(config:=cS)only[go_sem, *]
   refine ai (m1:=.mk) (m2:=.mk) [.home 12,.nf [1,4,10,12,13] [64,1472,831]] (jD node_3 g.nodes g.edges last_1) l0 ?_ ?_
   ·simp(config:=cS)only[go_sem, *]
   have k0:=h0
   clear h0 l0
   intro _ s0 _ h0 gb0
   obtain⟨at__4,out_4⟩:=s0
   unfold ch at h0
   try dsimp only at h0
   obtain⟨_,h0⟩|⟨_,h0⟩:=itP h0
   ·exact run
   obtain⟨_,h0⟩|⟨_,h0⟩:=itP h0
   ·cases h0
    obtain rfl:=(aJ gb0).symm
    clear gb0
    have h0:=k0
    clear k0
    try dsimp only at h0
    obtain⟨r13,g0,h0⟩:=af h0
    simp(config:=cS)only[go_sem, *]
    refine ag (mX g0) ?_
    exact run
   exact run
  try simp(config:=cS)only[go_sem, *]
  refine dl ?_ ?_
  ·obtain⟨r19,g0,h0⟩:=af h0
   simp(config:=cS)only[go_sem, *]
   have g0:=ctr g0
   refine ag g0 ?_
   obtain⟨q35,l0,h0⟩:=af h0
   simp(config:=cS)only[go_sem, *]
   refine ai (m1:=.mk) (m2:=.mk) [.nf [1,3,4,5,6] [64,1216,1472]] (jB g.nodes g.edges) l0 ?_ ?_
   ·simp(config:=cS)only[go_sem, *]
   have k0:=h0
   clear h0 l0
   intro _ s0 _ h0 gb0
   obtain⟨changed_5,round_5,numbers_5,last_5⟩:=s0
   unfold cf at h0
   try dsimp only at h0
   obtain⟨_,h0⟩|⟨_,h0⟩:=itP h0
   ·obtain⟨q24,l0,h0⟩:=af h0
    simp(config:=cS)only[go_sem, *]
    refine ai (m1:=.mk) (m2:=.mk) [.nf [1,3,4,5,6,31,32,33] [64,1216,1472]] (jA round_5 g.edges (g.edges.length:Int) g.nodes) l0 ?_ ?_
    ·simp(config:=cS)only[go_sem, *]
    have k0:=h0
    clear h0 l0
    intro _ s0 _ h0 gb0
    obtain⟨changed_6,v33_6,numbers_6,last_6⟩:=s0
    unfold ce at h0
    try dsimp only at h0
    exact run
   cases h0
   obtain rfl:=(aJ gb0).symm
   clear gb0
   have h0:=k0
   clear k0
   try dsimp only at h0
   obtain⟨_,h0⟩|⟨_,h0⟩:=itP h0
   ·exact run
   obtain⟨x25,_,_,_,h0⟩:=gtI h0
   obtain⟨q34,l0,h0⟩:=af h0
   simp(config:=cS)only[go_sem, *]
   refine ai (m1:=.mk) (m2:=.mk) [.nf [1,4,10,11] [64,1472]] (jC g.nodes g.edges last_5) l0 ?_ ?_
   ·simp(config:=cS)only[go_sem, *]
   have k0:=h0
   clear h0 l0
   intro _ s0 _ h0 gb0
   obtain⟨node_7,i_7⟩:=s0
   unfold cg at h0
   try dsimp only at h0
   obtain⟨_,h0⟩|⟨_,h0⟩:=itP h0
   ·exact run
   cases h0
   obtain rfl:=(aJ gb0).symm
   clear gb0
   have h0:=k0
   clear k0
   try dsimp only at h0
   obtain⟨q33,l0,h0⟩:=af h0
   simp(config:=cS)only[go_sem, *]
   refine ai (m1:=.mk) (m2:=.mk) [.home 12,.nf [1,4,10,12,13] [64,1472,831]] (jD node_7 g.nodes g.edges last_5) l0 ?_ ?_
   ·simp(config:=cS)only[go_sem, *]
   have k0:=h0
   clear h0 l0
   intro _ s0 _ h0 gb0
   obtain⟨at__8,out_8⟩:=s0
   unfold ch at h0
   try dsimp only at h0
   obtain⟨_,h0⟩|⟨_,h0⟩:=itP h0
   ·exact run
   obtain⟨_,h0⟩|⟨_,h0⟩:=itP h0
   ·cases h0
    obtain rfl:=(aJ gb0).symm
    clear gb0
    have h0:=k0
    clear k0
    try dsimp only at h0
    obtain⟨r30,g0,h0⟩:=af h0
    simp(config:=cS)only[go_sem, *]
    refine ag (mX g0) ?_
    exact run
   exact run
  obtain⟨r36,g0,h0⟩:=af h0
  simp(config:=cS)only[go_sem, *]
  have g0:=ctr g0
  refine ag g0 ?_
  obtain⟨q52,l0,h0⟩:=af h0
  simp(config:=cS)only[go_sem, *]
  refine ai (m1:=.mk) (m2:=.mk) [.nf [1,3,4,5,6] [64,1216,1472]] (jB g.nodes g.edges) l0 ?_ ?_
  ·simp(config:=cS)only[go_sem, *]
  have k0:=h0
  clear h0 l0
  intro _ s0 _ h0 gb0
  obtain⟨changed_9,round_9,numbers_9,last_9⟩:=s0
  unfold cf at h0
  try dsimp only at h0
  obtain⟨_,h0⟩|⟨_,h0⟩:=itP h0
  ·obtain⟨q41,l0,h0⟩:=af h0
   simp(config:=cS)only[go_sem, *]
   refine ai (m1:=.mk) (m2:=.mk) [.nf [1,3,4,5,6,31,32,33] [64,1216,1472]] (jA round_9 g.edges (g.edges.length:Int) g.nodes) l0 ?_ ?_
   ·simp(config:=cS)only[go_sem, *]
   have k0:=h0
   clear h0 l0
   intro _ s0 _ h0 gb0
   obtain⟨changed_10,v33_10,numbers_10,last_10⟩:=s0
   unfold ce at h0
   try dsimp only at h0
   exact run
  cases h0
  obtain rfl:=(aJ gb0).symm
  clear gb0
  have h0:=k0
  clear k0
  try dsimp only at h0
  obtain⟨_,h0⟩|⟨_,h0⟩:=itP h0
  ·exact run
  obtain⟨x42,_,_,_,h0⟩:=gtI h0
  obtain⟨q51,l0,h0⟩:=af h0
  simp(config:=cS)only[go_sem, *]
  refine ai (m1:=.mk) (m2:=.mk) [.nf [1,4,10,11] [64,1472]] (jC g.nodes g.edges last_9) l0 ?_ ?_
  ·simp(config:=cS)only[go_sem, *]
  have k0:=h0
  clear h0 l0
  intro _ s0 _ h0 gb0
  obtain⟨node_11,i_11⟩:=s0
  unfold cg at h0
  try dsimp only at h0
  obtain⟨_,h0⟩|⟨_,h0⟩:=itP h0
  ·exact run
  cases h0
  obtain rfl:=(aJ gb0).symm
  clear gb0
  have h0:=k0
  clear k0
  try dsimp only at h0
  obtain⟨q50,l0,h0⟩:=af h0
  simp(config:=cS)only[go_sem, *]
  refine ai (m1:=.mk) (m2:=.mk) [.home 12,.nf [1,4,10,12,13] [64,1472,831]] (jD node_11 g.nodes g.edges last_9) l0 ?_ ?_
  ·simp(config:=cS)only[go_sem, *]
  have k0:=h0
  clear h0 l0
  intro _ s0 _ h0 gb0
  obtain⟨at__12,out_12⟩:=s0
  unfold ch at h0
  try dsimp only at h0
  obtain⟨_,h0⟩|⟨_,h0⟩:=itP h0
  ·exact run
  obtain⟨_,h0⟩|⟨_,h0⟩:=itP h0
  ·cases h0
   obtain rfl:=(aJ gb0).symm
   clear gb0
   have h0:=k0
   clear k0
   try dsimp only at h0
   obtain⟨r47,g0,h0⟩:=af h0
   simp(config:=cS)only[go_sem, *]
   refine ag (mX g0) ?_
   exact run
  exact run
 exact run⟩
instance k108 {s:GSimple}:Ctr (fO s) (fun (res:Bool)=>aj prog 108 [.agg [.lit (.int .i64 s.events),.sl (ab GLink.enc s.links)]] [] (.lit (.bool res)) []):=⟨by
 intro res h0
 refine co (hi:=hi00) func108 rfl rfl ?_
 unfold fO at h0
 obtain⟨r01,g0,h0⟩:=af h0
 simp(config:=cS)only[go_sem, *]
 have g0:=ctr g0
 refine ag g0 ?_
 obtain⟨_,h0⟩|⟨_,h0⟩:=itB h0
 ·obtain⟨r02,g0,h0⟩:=af h0
  simp(config:=cS)only[go_sem, *]
  have g0:=ctr g0
  refine ag g0 ?_
  obtain⟨r03,g0,h0⟩:=af h0
  simp(config:=cS)only[go_sem, *]
  have g0:=ctr g0
  refine ag g0 ?_
  obtain⟨l1004,_,h0⟩|⟨_,h0⟩:=Eh h0
  ·exact run
  exact run
 exact run⟩
@[go_sem] def nV (round:Int)(v36:List GEdge)(v37 g_0:Int):(Bool × Int × (List Int) × (List Bool))→St
 | (changed,v38,out,known)=>⟨[(2,.ptr 128 1 0 0),(6,.ref 1664 1 0 out.length),(7,.ref 1856 1 0 known.length),(8,.lit (.int .i64 round)),(9,.lit (.bool changed)),(36,.sl (ab GEdge.enc v36)),(37,.lit (.int .i64 v37)),(38,.lit (.int .i64 v38))],[(128,1,.var [.lit (.int .i64 g_0),.sl (ab GEdge.enc v36)]),(1664,1,.row true (ab eI out)),(1856,1,.row true (ab eB known))],2⟩
@[go_sem] def nW (g_0:Int)(g_1:List GEdge):(Int × (List Int) × (List Bool))→St
 | (round,out,known)=>⟨[(2,.ptr 128 1 0 0),(6,.ref 1664 1 0 out.length),(7,.ref 1856 1 0 known.length),(8,.lit (.int .i64 round))],[(128,1,.var [.lit (.int .i64 g_0),.sl (ab GEdge.enc g_1)]),(1664,1,.row true (ab eI out)),(1856,1,.row true (ab eB known))],2⟩
@[go_sem] def nX (v89:Int)(known:List Bool):(Int × (List Int))→St
 | (v90,out)=>⟨[(6,.ref 1664 1 0 out.length),(7,.ref 1856 1 0 known.length),(89,.lit (.int .i64 v89)),(90,.lit (.int .i64 v90))],[(1664,1,.row true (ab eI out)),(1856,1,.row true (ab eB known))],2⟩
@[go_sem] def hi259_13:DT:=.r2 0 4 (.i1 4 (.i1 5 (.i2 6 (.i2 7 (.i0 8 [4,5] (.r2 9 3 .nil))))))
@[go_sem] def hi259_11:DT:=.r2 0 9 .nil
@[go_sem] def hi259_3:DT:=.i1 0 (.i1 1 (.i1 3 (.i1 4 (.fork (.i0 2 [3,4] (.i2 6 (.i0 5 [0,1] (.i2 7 .nil)))) (.i0 5 [0,1] (.i0 2 [3,4] (.i2 6 (.i2 7 .nil))))))))
def Aj:Hint where
 acts:=fun _=>[]
 draws:=fun
  | 3=>⟨hi259_3,[[],[0],[0,1],[],[3],[3,4],[0,1,2],.range 7],.range 8⟩
  | 11=>⟨hi259_11,[[],[],[1],[0,1,2],[0,1,2,3],[],[5],.range 7,.range 8],.range 9⟩
  | 13=>⟨hi259_13,[[],[],[1],[],[],[4],[],[0,1,2,6],[0,1,2,6,7],.range 9,.range 10,.range 11],[0,1,2,6,7,8,3,4,5,9,10,11]⟩
  | _=>⟨.nil,[],[]⟩
theorem XM (i:Nat):Aj.acts i=[]:=rfl
attribute[go_sem] XM ntmps259 results259
@[go_sem] theorem aci:(Aj.draws 3).order=hi259_3:=rfl
@[go_sem] theorem aaT:(Aj.draws 11).order=hi259_11:=rfl
@[go_sem] theorem aaU:(Aj.draws 13).order=hi259_13:=rfl
instance k259 {g:GGraph} {source:Int}:Ctr (ix g source) (fun (res:(List Int) × Bool)=>aj prog 259 [.agg [.lit (.int .i64 g.nodes),.sl (ab GEdge.enc g.edges)],.lit (.int .i64 source)] [] (.tup [.ref 20000 1 0 res.1.length,.lit (.bool res.2)]) [(20000,1,.row true (ab eI res.1))]):=⟨by
 intro res h0
 refine aE (ra:=[.home 4]) (md:=mdT) hT (hi:=Aj) func259 rfl rfl (by decide +kernel) (by simp) ?_
 unfold ix at h0
 obtain⟨r01,g0,h0⟩:=af h0
 simp(config:=cS)only[go_sem, *]
 have g0:=ctr g0
 refine ag g0 ?_
 obtain⟨_,h0⟩|⟨_,h0⟩:=itB h0
 ·obtain⟨r02,g0,h0⟩:=af h0
  simp(config:=cS)only[go_sem, *]
  have g0:=ctr g0
  refine ag g0 ?_
  obtain⟨_,h0⟩|⟨_,h0⟩:=itB h0
  ·obtain⟨_,h0⟩:=ckP h0
   obtain⟨_,h0⟩:=ckP h0
   obtain⟨_,h0⟩:=ckP h0
   obtain⟨_,h0⟩:=ckP h0
   try simp(config:=cS)only[go_sem, *]
   refine dl ?_ ?_
   ·obtain⟨x03,_,_,_,h0⟩:=gtI h0
    obtain⟨q16,l0,h0⟩:=af h0
    simp(config:=cS)only[go_sem, *]
    refine ai (m1:=.mk) (m2:=.mk) [.nf [2,6,7,8] [128,1664,1856]] (nW g.nodes g.edges) l0 ?_ ?_
    ·simp(config:=cS)only[go_sem, *]
    have k0:=h0
    clear h0 l0
    intro _ s0 _ h0 gb0
    obtain⟨round_1,out_1,known_1⟩:=s0
    unfold bf at h0
    try dsimp only at h0
    obtain⟨q15,l0,h0⟩:=af h0
    simp(config:=cS)only[go_sem, *]
    refine ai (m1:=.mk) (m2:=.mk) [.nf [2,6,7,8,9,36,37,38] [128,1664,1856]] (nV round_1 g.edges (g.edges.length:Int) g.nodes) l0 ?_ ?_
    ·simp(config:=cS)only[go_sem, *]
    have k0:=h0
    clear h0 l0
    intro _ s0 _ h0 gb0
    obtain⟨changed_2,v38_2,out_2,known_2⟩:=s0
    unfold cV at h0
    try dsimp only at h0
    obtain⟨_,h0⟩|⟨_,h0⟩:=itP h0
    ·exact run
    cases h0
    obtain rfl:=(aJ gb0).symm
    clear gb0
    have h0:=k0
    clear k0
    try dsimp only at h0
    obtain⟨_,h0⟩|⟨_,h0⟩:=itB h0
    ·exact run
    cases h0
    obtain rfl:=(aJ gb0).symm
    clear gb0
    have h0:=k0
    clear k0
    try dsimp only at h0
    obtain⟨q14,l0,h0⟩:=af h0
    simp(config:=cS)only[go_sem, *]
    refine ai (m1:=.mk) (m2:=.mk) [.nf [6,7,89,90] [1664,1856]] (nX (out_2.length:Int) known_2) l0 ?_ ?_
    ·simp(config:=cS)only[go_sem, *]
    have k0:=h0
    clear h0 l0
    intro _ s0 _ h0 gb0
    obtain⟨v90_3,out_3⟩:=s0
    unfold ct at h0
    try dsimp only at h0
    exact run
   obtain⟨x17,_,_,_,h0⟩:=gtI h0
   obtain⟨q30,l0,h0⟩:=af h0
   simp(config:=cS)only[go_sem, *]
   refine ai (m1:=.mk) (m2:=.mk) [.nf [2,6,7,8] [128,1664,1856]] (nW g.nodes g.edges) l0 ?_ ?_
   ·simp(config:=cS)only[go_sem, *]
   have k0:=h0
   clear h0 l0
   intro _ s0 _ h0 gb0
   obtain⟨round_4,out_4,known_4⟩:=s0
   unfold bf at h0
   try dsimp only at h0
   obtain⟨q29,l0,h0⟩:=af h0
   simp(config:=cS)only[go_sem, *]
   refine ai (m1:=.mk) (m2:=.mk) [.nf [2,6,7,8,9,36,37,38] [128,1664,1856]] (nV round_4 g.edges (g.edges.length:Int) g.nodes) l0 ?_ ?_
   ·simp(config:=cS)only[go_sem, *]
   have k0:=h0
   clear h0 l0
   intro _ s0 _ h0 gb0
   obtain⟨changed_5,v38_5,out_5,known_5⟩:=s0
   unfold cV at h0
   try dsimp only at h0
   obtain⟨_,h0⟩|⟨_,h0⟩:=itP h0
   ·exact run
   cases h0
   obtain rfl:=(aJ gb0).symm
   clear gb0
   have h0:=k0
   clear k0
   try dsimp only at h0
   obtain⟨_,h0⟩|⟨_,h0⟩:=itB h0
   ·exact run
   cases h0
   obtain rfl:=(aJ gb0).symm
   clear gb0
   have h0:=k0
   clear k0
   try dsimp only at h0
   obtain⟨q28,l0,h0⟩:=af h0
   simp(config:=cS)only[go_sem, *]
   refine ai (m1:=.mk) (m2:=.mk) [.nf [6,7,89,90] [1664,1856]] (nX (out_5.length:Int) known_5) l0 ?_ ?_
   ·simp(config:=cS)only[go_sem, *]
   have k0:=h0
   clear h0 l0
   intro _ s0 _ h0 gb0
   obtain⟨v90_6,out_6⟩:=s0
   unfold ct at h0
   try dsimp only at h0
   exact run
  exact run
 exact run⟩
instance k260 {n:Int}:Ctr (jJ n) (fun (res:Int)=>aj prog 260 [.lit (.int .i64 n)] [] (.lit (.int .i64 res)) []):=⟨by
 intro res h0
 refine co (hi:=hi00) func260 rfl rfl ?_
 unfold jJ at h0
 exact run⟩
@[go_sem] def tO (i v33 g_0:Int)(g_1:List GEdge)(v32:List Int):(Int × (List Int))→St
 | (v34,h100016385)=>⟨[(1,.ptr 64 1 0 0),(2,.ptr 128 1 0 0),(4,.ptr 256 1 0 0),(5,.lit (.int .i64 i)),(32,.ref 1664 1 0 v32.length),(33,.lit (.int .i64 v33)),(34,.lit (.int .i64 v34))],[(64,1,.var [.lit (.int .i64 g_0),.sl (ab GEdge.enc g_1)]),(128,1,.var [.lit (.int .i64 0),.lit (.slice none 0 0)]),(256,1,.var [.lit (.int .i64 g_0),.ref 100016385 1 0 h100016385.length]),(100016385,1,.row true (ab eI h100016385)),(1664,1,.row true (ab eI v32))],2⟩
@[go_sem] def tP (g_0:Int)(g_1:List GEdge):(Int × (List Int))→St
 | (i,h100016385)=>⟨[(1,.ptr 64 1 0 0),(2,.ptr 128 1 0 0),(4,.ptr 256 1 0 0),(5,.lit (.int .i64 i))],[(64,1,.var [.lit (.int .i64 g_0),.sl (ab GEdge.enc g_1)]),(128,1,.var [.lit (.int .i64 0),.lit (.slice none 0 0)]),(256,1,.var [.lit (.int .i64 g_0),.ref 100016385 1 0 h100016385.length]),(100016385,1,.row true (ab eI h100016385))],2⟩
@[go_sem] def hi174_13:DT:=.i1 0 (.i1 1 (.i2 2 (.i0 3 [0,1] (.i0 4 [0,1] (.r2 5 3 .nil)))))
def JD:Hint where
 acts:=fun _=>[]
 draws:=fun
  | 13=>⟨hi174_13,[[],[0],[],[2],[2,3],.range 5,.range 6,.range 7],.range 8⟩
  | _=>⟨.nil,[],[]⟩
theorem XO (i:Nat):JD.acts i=[]:=rfl
attribute[go_sem] XO ntmps174 results174
@[go_sem] theorem aaV:(JD.draws 13).order=hi174_13:=rfl
instance k174 {g:GGraph}:Ctr (jK g) (fun (res:aA × Bool)=>aj prog 174 [.agg [.lit (.int .i64 g.nodes),.sl (ab GEdge.enc g.edges)]] [] (.tup [.agg [.lit (.int .i64 res.1.size),.ref 20000 1 0 res.1.cells.length],.lit (.bool res.2)]) [(20000,1,.row true (ab eI res.1.cells))]):=⟨by
 intro res h0
 refine aE (ra:=[.homeCell 128 1]) (md:=mdT) hT (hi:=JD) func174 rfl rfl (by decide +kernel) (by simp) ?_
 unfold jK at h0
 obtain⟨r01,g0,h0⟩:=af h0
 simp(config:=cS)only[go_sem, *]
 have g0:=ctr g0
 refine ag g0 ?_
 obtain⟨_,h0⟩|⟨_,h0⟩:=itB h0
 ·obtain⟨q06,l0,h0⟩:=af h0
  simp(config:=cS)only[go_sem, *]
  refine ai (m1:=.mk) (m2:=.mk) [.homeCell 256 1,.nf [1,2,4,5] [64,128,256,100016385]] (tP g.nodes g.edges) l0 ?_ ?_
  ·simp(config:=cS)only[go_sem, *]
  have k0:=h0
  clear h0 l0
  intro _ s0 _ h0 gb0
  obtain⟨i_1,h100016385_1⟩:=s0
  unfold fi at h0
  try dsimp only at h0
  obtain⟨_,h0⟩|⟨_,h0⟩:=itP h0
  ·obtain⟨r02,g0,h0⟩:=af h0
   simp(config:=cS)only[go_sem, *]
   have g0:=ctr g0
   refine ag g0 ?_
   obtain⟨_,h0⟩|⟨_,h0⟩:=itB h0
   ·obtain⟨q05,l0,h0⟩:=af h0
    simp(config:=cS)only[go_sem, *]
    refine ai (m1:=.mk) (m2:=.mk) [.homeCell 256 1,.nf [1,2,4,5,32,33,34] [64,128,256,100016385,1664]] (tO i_1 (r02.1.length:Int) g.nodes g.edges r02.1) l0 ?_ ?_
    ·simp(config:=cS)only[go_sem, *]
    have k0:=h0
    clear h0 l0
    intro _ s0 _ h0 gb0
    obtain⟨v34_2,h100016385_2⟩:=s0
    unfold dI at h0
    try dsimp only at h0
    exact run
   exact run
  exact run
 exact run⟩
@[go_sem] def wc (v25:List Int)(v26 t_0 v27:Int):St:=⟨[(1,.ptr 64 1 0 0),(25,.sl (ab eI v25)),(26,.lit (.int .i64 v26)),(27,.lit (.int .i64 v27))],[(64,1,.var [.lit (.int .i64 t_0),.sl (ab eI v25)])],2⟩
@[go_sem] def hi262_6:DT:=.r2 0 21 .nil
def JE:Hint where
 acts:=fun _=>[]
 draws:=fun
  | 6=>⟨hi262_6,[[],[0],[0,1],[0,1,2],[0,1,2,3],.range 5,.range 6,.range 7,.range 7,[0,1,2,3,4,5,6,8],.range 10,.range 7,.range 7,[0,1,2,3,4,5,6,12],[0,1,2,3,4,5,6,11,12,13],.range 15,.range 16,.range 17,.range 18,.range 19,.range 20],.range 21⟩
  | _=>⟨.nil,[],[]⟩
theorem XQ (i:Nat):JE.acts i=[]:=rfl
attribute[go_sem] XQ ntmps262 results262
@[go_sem] theorem acj:(JE.draws 6).order=hi262_6:=rfl
instance k262 {t:aA}:Ctr (mE t) (fun (res:Bool)=>aj prog 262 [.agg [.lit (.int .i64 t.size),.sl (ab eI t.cells)]] [] (.lit (.bool res)) []):=⟨by
 intro res h0
 refine co (hi:=JE) func262 rfl rfl ?_
 unfold mE at h0
 obtain⟨_,h0⟩|⟨_,h0⟩:=itP h0
 ·exact run
 obtain⟨_,h0⟩|⟨_,h0⟩:=itP h0
 ·exact run
 obtain⟨_,h0⟩|⟨_,h0⟩:=itP h0
 ·obtain⟨q02,l0,h0⟩:=af h0
  simp(config:=cS)only[go_sem, *]
  refine ai (m1:=.mk) (m2:=.mk) [.nf [1,25,26,27] [64]] (wc t.cells (t.cells.length:Int) t.size) l0 ?_ ?_
  ·simp(config:=cS)only[go_sem, *]
  have k0:=h0
  clear h0 l0
  intro _ v27_1 _ h0 gb0
  unfold ig at h0
  try dsimp only at h0
  exact run
 exact run⟩
instance k264 {t:aA} {i:Int} {k:Int}:Ctr (jL t i k) (fun (res:Int)=>aj prog 264 [.agg [.lit (.int .i64 t.size),.sl (ab eI t.cells)],.lit (.int .i64 i),.lit (.int .i64 k)] [] (.lit (.int .i64 res)) []):=⟨by
 intro res h0
 refine co (hi:=hi00) func264 rfl rfl ?_
 unfold jL at h0
 exact run⟩
instance k263 {i:az} {ok:Bool}:Ctr (oO i ok) (fun (res:az × Bool)=>aj prog 263 [.agg [.lit (.int .i64 i.low),.lit (.int .i64 i.high)],.lit (.bool ok)] [] (.tup [.agg [.lit (.int .i64 res.1.low),.lit (.int .i64 res.1.high)],.lit (.bool res.2)]) []):=⟨by
 intro res h0
 refine co (hi:=hi00) func263 rfl rfl ?_
 unfold oO at h0
 exact run⟩
@[go_sem] def hi176_3:DT:=.r2 0 3 (.i1 5 (.i2 6 (.i2 7 (.i0 3 [5] (.i2 4 (.r2 8 7 .nil))))))
def JF:Hint where
 acts:=fun _=>[]
 draws:=fun
  | 3=>⟨hi176_3,[[],[],[],[0,1,2],[0,1,2,3],[],[],[],[0,1,2,3,5,6,7],.range 9,.range 10,.range 11,.range 11,.range 13,.range 14],.range 15⟩
  | _=>⟨.nil,[],[]⟩
theorem XS (i:Nat):JF.acts i=[]:=rfl
attribute[go_sem] XS ntmps176 results176
@[go_sem] theorem ack:(JF.draws 3).order=hi176_3:=rfl
instance k176 {t:aA} {i:Int} {k:Int}:Ctr (kh t i k) (fun (res:az × Bool)=>aj prog 176 [.agg [.lit (.int .i64 t.size),.sl (ab eI t.cells)],.lit (.int .i64 i),.lit (.int .i64 k)] [] (.tup [.agg [.lit (.int .i64 res.1.low),.lit (.int .i64 res.1.high)],.lit (.bool res.2)]) []):=⟨by
 intro res h0
 refine co (hi:=JF) func176 rfl rfl ?_
 unfold kh at h0
 exact run⟩
instance k70 {s:GSimple} {event:Int}:Ctr (lC s event) (fun (res:az × Bool)=>aj prog 70 [.agg [.lit (.int .i64 s.events),.sl (ab GLink.enc s.links)],.lit (.int .i64 event)] [] (.tup [.agg [.lit (.int .i64 res.1.low),.lit (.int .i64 res.1.high)],.lit (.bool res.2)]) []):=⟨by
 intro res h0
 refine co (hi:=hi00) func70 rfl rfl ?_
 unfold lC at h0
 exact run⟩
@[go_sem] def xo (f_f:Nat)(k_f:List AV)(s_0:Int)(s_1:List GLink):(Int × (List Int))→St
 | (event,out)=>⟨[(1,.fn f_f k_f),(2,.ptr 128 1 0 0),(6,.ref 447 1 0 out.length),(7,.lit (.int .i64 event))],[(128,1,.var [.lit (.int .i64 s_0),.sl (ab GLink.enc s_1)]),(447,1,.row true (ab eI out))],2⟩
theorem IF {s:GSimple}{f:az→Option Int}{f_f:Nat}{k_f:List AV}(hp_f:∀ y0 r,f y0=some r→aj prog f_f ([.agg [.lit (.int .i64 y0.low),.lit (.int .i64 y0.high)]]++k_f) [] (.lit (.int .i64 r)) [])(hc_f:KC k_f)(hm_f:∀ a,mdT f_f a=⟨[],false⟩)(hk_f:spf f_f=false){res:(List Int) × Bool}(h:nw s f=some res):aj prog 185 [.agg [.lit (.int .i64 s.events),.sl (ab GLink.enc s.links)],.fn f_f k_f] [] (.tup [.ref 20000 1 0 res.1.length,.lit (.bool res.2)]) [(20000,1,.row true (ab eI res.1))]:=by
 refine aE (ra:=[.home 4]) (md:=mdT) hT (hi:=hi00) func185 rfl rfl (by decide +kernel) (by simp) ?_
 unfold nw at h
 obtain⟨r01,g1,h⟩:=af h
 simp(config:=cS)only[go_sem,hc_f.1,hc_f.2,hm_f,hk_f]
 have g1:=ctr g1
 refine ag g1 ?_
 obtain⟨h2,h⟩|⟨h2,h⟩:=bl h
 ·obtain⟨q06,l3,h⟩:=af h
  simp(config:=cS)only[go_sem,hc_f.1,hc_f.2,hm_f,hk_f,eZt h2]
  refine ai (m1:=.mk) (m2:=.mk) [.home 6,.nf [1,2,6,7] [128,447]] (xo f_f k_f s.events s.links) l3 ?_ ?_
  ·simp(config:=cS)only[go_sem,hc_f.1,hc_f.2,hm_f,hk_f,eZt h2]
  intro nb4 sb4 bb4 b4 gb4
  obtain⟨event_1,out_1⟩:=sb4
  unfold kP at b4
  try dsimp only at b4
  obtain⟨h5,b4⟩|⟨h5,b4⟩:=bl b4
  ·obtain⟨r02,g6,b4⟩:=af b4
   simp(config:=cS)only[go_sem,hc_f.1,hc_f.2,hm_f,hk_f,eZt h2,eqT h5]
   have g6:=ctr g6
   refine ag g6 ?_
   obtain⟨h7,b4⟩|⟨h7,b4⟩:=bl b4
   ·obtain⟨r03,g8,b4⟩:=af b4
    simp(config:=cS)only[go_sem,hc_f.1,hc_f.2,hm_f,hk_f,eZt h2,eqT h5,eZt h7]
    refine ag (hp_f _ _ g8) ?_
    obtain⟨r04,g9,b4⟩:=af b4
    simp(config:=cS)only[go_sem,hc_f.1,hc_f.2,hm_f,hk_f,eZt h2,eqT h5,eZt h7]
    have g9:=ctr g9
    refine ag g9 ?_
    obtain⟨h10,b4⟩|⟨h10,b4⟩:=bl b4
    ·obtain⟨r05,g11,b4⟩:=af b4
     simp(config:=cS)only[go_sem,hc_f.1,hc_f.2,hm_f,hk_f,eZt h2,eqT h5,eZt h7,eZt h10]
     refine ag (hp_f _ _ g11) ?_
     obtain⟨h12,b4⟩:=iK b4
     obtain⟨h13,b4⟩:=iK b4
     cases b4
     simp(config:=cS)only[go_sem,hc_f.1,hc_f.2,hm_f,hk_f,eZt h2,eqT h5,eZt h7,eZt h10,eqT h12,eqT h13]
     refine iL gb4 ?_
     simp(config:=cS)only[go_sem,hc_f.1,hc_f.2,hm_f,hk_f,eZt h2,eqT h5,eZt h7,eZt h10,eqT h12,eqT h13]
    cases b4
    obtain rfl:=(aJ gb4).symm
    try dsimp only at h
    cases h
    simp(config:=cS)only[go_sem,hc_f.1,hc_f.2,hm_f,hk_f,eZt h2,eqT h5,eZt h7,eZf h10]
   cases b4
   obtain rfl:=(aJ gb4).symm
   try dsimp only at h
   cases h
   simp(config:=cS)only[go_sem,hc_f.1,hc_f.2,hm_f,hk_f,eZt h2,eqT h5,eZf h7]
  cases b4
  obtain rfl:=(aJ gb4).symm
  try dsimp only at h
  cases h
  simp(config:=cS)only[go_sem,hc_f.1,hc_f.2,hm_f,hk_f,eZt h2,eqF h5]
 cases h
 simp(config:=cS)only[go_sem,hc_f.1,hc_f.2,hm_f,hk_f,eZf h2]
instance k186 {i:az}:Ctr (fF i) (fun (res:Int)=>aj prog 186 [.agg [.lit (.int .i64 i.low),.lit (.int .i64 i.high)]] [] (.lit (.int .i64 res)) []):=⟨by
 intro res h0
 refine co (hi:=hi00) func186 rfl rfl ?_
 unfold fF at h0
 exact run⟩
instance k82 {s:GSimple}:Ctr (fj s) (fun (res:(List Int) × Bool)=>aj prog 82 [.agg [.lit (.int .i64 s.events),.sl (ab GLink.enc s.links)]] [] (.tup [.ref 20000 1 0 res.1.length,.lit (.bool res.2)]) [(20000,1,.row true (ab eI res.1))]):=⟨by
 intro res h0
 refine aE (ra:=[.home 2]) (md:=mdT) hT (hi:=hi00) func82 rfl rfl (by decide +kernel) (by simp) ?_
 unfold fj at h0
 obtain⟨r01,g0,h0⟩:=af h0
 simp(config:=cS)only[go_sem, *]
 refine ag (IF (by exact fun _ _ hr=>by have q:=ctr hr;exact q) (by refine⟨fun _=>?_,fun _=>?_⟩ <;> simp only[go_sem]) (fun _=>rfl) rfl g0) ?_
 exact run⟩
@[go_sem] def tk (v24:Int)(s_0:List GNode)(s_1:List GTie)(s_2:Int):(Int × (List Int))→St
 | (v25,v23)=>⟨[(1,.ptr 64 1 0 0),(6,.ref 1152 1 0 v23.length),(23,.ref 1152 1 0 v23.length),(24,.lit (.int .i64 v24)),(25,.lit (.int .i64 v25))],[(64,1,.var [.sl (ab GNode.encS s_0),.sl (ab GTie.enc s_1),.lit (.int .i64 s_2)]),(1152,1,.row true (ab eI v23))],2⟩
instance k23 {s:GShow}:Ctr (cw s) (fun (res:(List Int) × Bool)=>aj prog 23 [.agg (GShow.encS s)] [] (.tup [.ref 20000 1 0 res.1.length,.lit (.bool res.2)]) [(20000,1,.row true (ab eI res.1))]):=⟨by
 intro res h0
 refine aE (ra:=[.home 2]) (md:=mdT) hT (hi:=hi00) func23 rfl rfl (by decide +kernel) (by simp) ?_
 unfold cw at h0
 obtain⟨r01,g0,h0⟩:=af h0
 simp(config:=cS)only[go_sem, *]
 have g0:=ctr g0
 refine ag g0 ?_
 obtain⟨_,h0⟩|⟨_,h0⟩:=itB h0
 ·obtain⟨r02,g0,h0⟩:=af h0
  simp(config:=cS)only[go_sem, *]
  have g0:=ctr g0
  refine ag g0 ?_
  obtain⟨_,h0⟩|⟨_,h0⟩:=itB h0
  ·obtain⟨q05,l0,h0⟩:=af h0
   simp(config:=cS)only[go_sem, *]
   refine ai (m1:=.mk) (m2:=.mk) [.nf [1,6,23,24,25] [64,1152]] (tk (r02.1.length:Int) s.nodes s.ties s.horizon) l0 ?_ ?_
   ·simp(config:=cS)only[go_sem, *]
   have k0:=h0
   clear h0 l0
   intro _ s0 _ h0 gb0
   obtain⟨v25_1,v23_1⟩:=s0
   unfold eL at h0
   try dsimp only at h0
   exact run
  exact run
 exact run⟩
instance k29 {s:GShow}:Ctr (gQ s) (fun (res:Bool)=>aj prog 29 [.agg (GShow.encS s)] [] (.lit (.bool res)) []):=⟨by
 intro res h0
 refine co (hi:=hi00) func29 rfl rfl ?_
 unfold gQ at h0
 exact run⟩
@[go_sem] def hi98_3:DT:=.i1 1 (.i1 2 (.i1 3 (.fork (.i0 0 [1,2,3] (.fork (.i2 4 (.fork (.i0 5 [1,2,3] (.i2 6 (.i0 7 [1,2,3] (.i2 8 .nil)))) (.i0 7 [1,2,3] (.i0 5 [1,2,3] (.i2 6 (.i2 8 .nil)))))) (.fork (.i0 5 [1,2,3] (.fork (.i2 4 (.i2 6 (.i0 7 [1,2,3] (.i2 8 .nil)))) (.i0 7 [1,2,3] (.i2 4 (.i2 6 (.i2 8 .nil)))))) (.i0 7 [1,2,3] (.fork (.i2 4 (.i0 5 [1,2,3] (.i2 6 (.i2 8 .nil)))) (.i0 5 [1,2,3] (.i2 4 (.i2 6 (.i2 8 .nil))))))))) (.fork (.i0 5 [1,2,3] (.fork (.i0 0 [1,2,3] (.fork (.i2 4 (.i2 6 (.i0 7 [1,2,3] (.i2 8 .nil)))) (.i0 7 [1,2,3] (.i2 4 (.i2 6 (.i2 8 .nil)))))) (.i0 7 [1,2,3] (.i0 0 [1,2,3] (.i2 4 (.i2 6 (.i2 8 .nil))))))) (.i0 7 [1,2,3] (.fork (.i0 0 [1,2,3] (.fork (.i2 4 (.i0 5 [1,2,3] (.i2 6 (.i2 8 .nil)))) (.i0 5 [1,2,3] (.i2 4 (.i2 6 (.i2 8 .nil)))))) (.i0 5 [1,2,3] (.i0 0 [1,2,3] (.i2 4 (.i2 6 (.i2 8 .nil)))))))))))
def hi98:Hint where
 acts:=fun _=>[]
 draws:=fun
  | 3=>⟨hi98_3,[[],[],[1],[1,2],[0,1,2,3],[],.range 6,[],.range 8],.range 9⟩
  | _=>⟨.nil,[],[]⟩
theorem aac (i:Nat):hi98.acts i=[]:=rfl
attribute[go_sem] aac ntmps98 results98
@[go_sem] theorem adi:(hi98.draws 3).order=hi98_3:=rfl
instance k98 {s:GShow}:Ctr (eo s) (fun (res:GState)=>aj prog 98 [.agg (GShow.encS s)] [] (.agg [.lit (.int .i64 res.now),.ref 20000 1 0 res.times.length,.ref 20001 1 0 res.values.length]) [(20000,1,.row true (ab eI res.times)),(20001,1,.row true (ab eI res.values))]):=⟨by
 intro res h0
 refine aE (ra:=[.homeCell 128 1,.homeCell 128 2]) (md:=mdT) hT (hi:=hi98) func98 rfl rfl (by decide +kernel) (by simp) ?_
 unfold eo at h0
 obtain⟨r01,g0,h0⟩:=af h0
 simp(config:=cS)only[go_sem, *]
 have g0:=ctr g0
 refine ag g0 ?_
 obtain⟨_,h0⟩|⟨_,h0⟩:=itB h0
 ·try simp(config:=cS)only[go_sem, *]
  refine dl ?_ ?_
  ·try simp(config:=cS)only[go_sem, *]
   refine dl ?_ ?_
   ·obtain⟨r02,g0,h0⟩:=af h0
    simp(config:=cS)only[go_sem, *]
    have g0:=ctr g0
    refine ag g0 ?_
    try simp(config:=cS)only[go_sem, *]
    refine dl ?_ ?_
    ·obtain⟨x03,g1,h0⟩:=af h0
     have:=bD (k:=0) g1
     exact run
    obtain⟨x04,g2,h0⟩:=af h0
    have:=bD (k:=0) g2
    exact run
   try simp(config:=cS)only[go_sem, *]
   refine dl ?_ ?_
   ·try simp(config:=cS)only[go_sem, *]
    refine dl ?_ ?_
    ·obtain⟨r05,g0,h0⟩:=af h0
     simp(config:=cS)only[go_sem, *]
     have g0:=ctr g0
     refine ag g0 ?_
     obtain⟨x06,g3,h0⟩:=af h0
     have:=bD (k:=0) g3
     exact run
    obtain⟨r07,g0,h0⟩:=af h0
    simp(config:=cS)only[go_sem, *]
    have g0:=ctr g0
    refine ag g0 ?_
    obtain⟨x08,g4,h0⟩:=af h0
    have:=bD (k:=0) g4
    exact run
   try simp(config:=cS)only[go_sem, *]
   refine dl ?_ ?_
   ·obtain⟨r09,g0,h0⟩:=af h0
    simp(config:=cS)only[go_sem, *]
    have g0:=ctr g0
    refine ag g0 ?_
    obtain⟨x10,g5,h0⟩:=af h0
    have:=bD (k:=0) g5
    exact run
   obtain⟨r11,g0,h0⟩:=af h0
   simp(config:=cS)only[go_sem, *]
   have g0:=ctr g0
   refine ag g0 ?_
   obtain⟨x12,g6,h0⟩:=af h0
   have:=bD (k:=0) g6
   exact run
  try simp(config:=cS)only[go_sem, *]
  refine dl ?_ ?_
  ·try simp(config:=cS)only[go_sem, *]
   refine dl ?_ ?_
   ·try simp(config:=cS)only[go_sem, *]
    refine dl ?_ ?_
    ·obtain⟨r13,g0,h0⟩:=af h0
     simp(config:=cS)only[go_sem, *]
     have g0:=ctr g0
     refine ag g0 ?_
     obtain⟨x14,g7,h0⟩:=af h0
     have:=bD (k:=0) g7
     exact run
    obtain⟨r15,g0,h0⟩:=af h0
    simp(config:=cS)only[go_sem, *]
    have g0:=ctr g0
    refine ag g0 ?_
    obtain⟨x16,g8,h0⟩:=af h0
    have:=bD (k:=0) g8
    exact run
   obtain⟨r17,g0,h0⟩:=af h0
   simp(config:=cS)only[go_sem, *]
   have g0:=ctr g0
   refine ag g0 ?_
   obtain⟨x18,g9,h0⟩:=af h0
   have:=bD (k:=0) g9
   exact run
  try simp(config:=cS)only[go_sem, *]
  refine dl ?_ ?_
  ·try simp(config:=cS)only[go_sem, *]
   refine dl ?_ ?_
   ·obtain⟨r19,g0,h0⟩:=af h0
    simp(config:=cS)only[go_sem, *]
    have g0:=ctr g0
    refine ag g0 ?_
    obtain⟨x20,g10,h0⟩:=af h0
    have:=bD (k:=0) g10
    exact run
   obtain⟨r21,g0,h0⟩:=af h0
   simp(config:=cS)only[go_sem, *]
   have g0:=ctr g0
   refine ag g0 ?_
   obtain⟨x22,g11,h0⟩:=af h0
   have:=bD (k:=0) g11
   exact run
  obtain⟨r23,g0,h0⟩:=af h0
  simp(config:=cS)only[go_sem, *]
  have g0:=ctr g0
  refine ag g0 ?_
  obtain⟨x24,g12,h0⟩:=af h0
  have:=bD (k:=0) g12
  exact run
 exact run⟩
instance k308 {n:Int}:Ctr (lD n) (fun (res:Bool)=>aj prog 308 [.lit (.int .i64 n)] [] (.lit (.bool res)) []):=⟨by
 intro res h0
 refine co (hi:=hi00) func308 rfl rfl ?_
 unfold lD at h0
 exact run⟩
instance k256 {v:List Int}:Ctr (js v) (fun (res:Bool)=>aj prog 256 [.sl (ab eI v)] [] (.lit (.bool res)) []):=⟨by
 intro res h0
 refine co (hi:=hi00) func256 rfl rfl ?_
 unfold js at h0
 obtain⟨_,h0⟩|⟨_,h0⟩:=itP h0
 ·obtain⟨r01,g0,h0⟩:=af h0
  simp(config:=cS)only[go_sem, *]
  refine ag (cn (by exact fun _ _ hr=>by have q:=ctr hr;exact q) (by refine⟨fun _=>?_,fun _=>?_⟩ <;> simp only[go_sem]) (fun _=>rfl) rfl g0) ?_
  exact run
 exact run⟩
@[go_sem] def wd (v37:List Int)(v38:Int)(s_0:List GNode)(s_1:List GTie)(s_2 v3_0:Int)(v3_2:List Int)(v39:Int):St:=⟨[(2,.ptr 128 1 0 0),(3,.ptr 192 1 0 0),(37,.sl (ab eI v37)),(38,.lit (.int .i64 v38)),(39,.lit (.int .i64 v39))],[(128,1,.var [.sl (ab GNode.encS s_0),.sl (ab GTie.enc s_1),.lit (.int .i64 s_2)]),(192,1,.var [.lit (.int .i64 v3_0),.sl (ab eI v37),.sl (ab eI v3_2)])],2⟩
@[go_sem] def we (v67:List Int)(v68:Int)(s_0:List GNode)(s_1:List GTie)(s_2 v3_0:Int)(v3_1:List Int)(v69:Int):St:=⟨[(2,.ptr 128 1 0 0),(3,.ptr 192 1 0 0),(67,.sl (ab eI v67)),(68,.lit (.int .i64 v68)),(69,.lit (.int .i64 v69))],[(128,1,.var [.sl (ab GNode.encS s_0),.sl (ab GTie.enc s_1),.lit (.int .i64 s_2)]),(192,1,.var [.lit (.int .i64 v3_0),.sl (ab eI v3_1),.sl (ab eI v67)])],2⟩
instance k212 {s:GShow} {v1:GState}:Ctr (mF s v1) (fun (res:Bool)=>aj prog 212 [.agg (GShow.encS s),.agg (GState.encS v1)] [] (.lit (.bool res)) []):=⟨by
 intro res h0
 refine co (hi:=hi00) func212 rfl rfl ?_
 unfold mF at h0
 obtain⟨_,h0⟩|⟨_,h0⟩:=itP h0
 ·exact run
 obtain⟨_,h0⟩|⟨_,h0⟩:=itP h0
 ·exact run
 obtain⟨_,h0⟩|⟨_,h0⟩:=itP h0
 ·obtain⟨r01,g0,h0⟩:=af h0
  simp(config:=cS)only[go_sem, *]
  have g0:=ctr g0
  refine ag g0 ?_
  obtain⟨_,h0⟩|⟨_,h0⟩:=itB h0
  ·obtain⟨q07,l0,h0⟩:=af h0
   simp(config:=cS)only[go_sem, *]
   refine ai (m1:=.mk) (m2:=.mk) [.nf [2,3,37,38,39] [128,192]] (wd v1.times (v1.times.length:Int) s.nodes s.ties s.horizon v1.now v1.values) l0 ?_ ?_
   ·simp(config:=cS)only[go_sem, *]
   have k0:=h0
   clear h0 l0
   intro _ v39_1 _ h0 gb0
   unfold ii at h0
   try dsimp only at h0
   obtain⟨_,h0⟩|⟨_,h0⟩:=itP h0
   ·exact run
   cases h0
   obtain rfl:=(aJ gb0).symm
   clear gb0
   have h0:=k0
   clear k0
   try dsimp only at h0
   obtain⟨q06,l0,h0⟩:=af h0
   simp(config:=cS)only[go_sem, *]
   refine ai (m1:=.mk) (m2:=.mk) [.nf [2,3,67,68,69] [128,192]] (we v1.values (v1.values.length:Int) s.nodes s.ties s.horizon v1.now v1.times) l0 ?_ ?_
   ·simp(config:=cS)only[go_sem, *]
   have k0:=h0
   clear h0 l0
   intro _ v69_2 _ h0 gb0
   unfold ij at h0
   try dsimp only at h0
   exact run
  exact run
 exact run⟩
instance k109 {s:GShow} {v1:GState}:Ctr (fk s v1) (fun (res:Bool)=>aj prog 109 [.agg (GShow.encS s),.agg (GState.encS v1)] [] (.lit (.bool res)) []):=⟨by
 intro res h0
 refine co (hi:=hi00) func109 rfl rfl ?_
 unfold fk at h0
 exact run⟩
instance k127 {s:GShow}:Ctr (gu s) (fun (res:GShow × (List (ByteArray × Bool)))=>aj prog 127 [.agg (GShow.encS s)] [] (.ptr 20000 1 0 0) [(20000,1,.var [.sl (ab GNode.encS res.1.nodes),.sl (ab GTie.enc res.1.ties),.lit (.int .i64 res.1.horizon),.mp 20001 1]),(20001,1,.map (eM res.2))]):=⟨by
 intro res h0
 refine co (hi:=hi00) func127 rfl rfl ?_
 unfold gu at h0
 exact run⟩
instance k257 {l:Int} {v:List Int}:Ctr (oo l v) (fun (res:Int)=>aj prog 257 [.lit (.int .i64 l),.sl (ab eI v)] [] (.lit (.int .i64 res)) []):=⟨by
 intro res h0
 refine co (hi:=hi00) func257 rfl rfl ?_
 unfold oo at h0
 exact run⟩
@[go_sem] def tQ (v v16:List Int)(v17:Int):(Int × Int)→St
 | (out,v18)=>⟨[(1,.sl (ab eI v)),(5,.lit (.int .i64 out)),(16,.sl (ab eI v16)),(17,.lit (.int .i64 v17)),(18,.lit (.int .i64 v18))],[],2⟩
instance k173 {l:List Int} {v:List Int}:Ctr (fI l v) (fun (res:Int)=>aj prog 173 [.sl (ab eI l),.sl (ab eI v)] [] (.lit (.int .i64 res)) []):=⟨by
 intro res h0
 refine co (hi:=hi00) func173 rfl rfl ?_
 unfold fI at h0
 obtain⟨r01,g0,h0⟩:=af h0
 simp(config:=cS)only[go_sem, *]
 have g0:=ctr g0
 refine ag g0 ?_
 obtain⟨_,h0⟩|⟨_,h0⟩:=itB h0
 ·obtain⟨r02,g0,h0⟩:=af h0
  simp(config:=cS)only[go_sem, *]
  have g0:=ctr g0
  refine ag g0 ?_
  obtain⟨_,h0⟩|⟨_,h0⟩:=itB h0
  ·obtain⟨q05,l0,h0⟩:=af h0
   simp(config:=cS)only[go_sem, *]
   refine ai (m1:=.mk) (m2:=.mk) [.nf [1,5,16,17,18] []] (tQ v l (l.length:Int)) l0 ?_ ?_
   ·simp(config:=cS)only[go_sem, *]
   have k0:=h0
   clear h0 l0
   intro _ s0 _ h0 gb0
   obtain⟨out_1,v18_1⟩:=s0
   unfold gR at h0
   try dsimp only at h0
   exact run
  exact run
 exact run⟩
@[go_sem] def hi227_1:DT:=.r2 0 10 .nil
def JG:Hint where
 acts:=fun _=>[]
 draws:=fun
  | 1=>⟨hi227_1,[[],[0],[],[0,1,2],[0,1,2,3],.range 5,[],[6],.range 8,.range 9],.range 10⟩
  | _=>⟨.nil,[],[]⟩
theorem XU (i:Nat):JG.acts i=[]:=rfl
attribute[go_sem] XU ntmps227 results227
@[go_sem] theorem acl:(JG.draws 1).order=hi227_1:=rfl
instance k227 {s:GShow} {v1:GState} {node:Int}:Ctr (dJ s v1 node) (fun (res:Int)=>aj prog 227 [.agg (GShow.encS s),.agg (GState.encS v1),.lit (.int .i64 node)] [] (.lit (.int .i64 res)) []):=⟨by
 intro res h0
 refine co (hi:=JG) func227 rfl rfl ?_
 unfold dJ at h0
 exact run⟩
@[go_sem] def hi226_1:DT:=.r2 0 14 .nil
def JH:Hint where
 acts:=fun _=>[]
 draws:=fun
  | 1=>⟨hi226_1,[[],[0],[],[2],[0,1,2,3],.range 5,[],[6],[],[8],[6,7,8,9],[6,7,8,9,10],.range 6,.range 13],[0,1,2,3,4,5,7,8,9,10,11,12,6,13]⟩
  | _=>⟨.nil,[],[]⟩
theorem XW (i:Nat):JH.acts i=[]:=rfl
attribute[go_sem] XW ntmps226 results226
@[go_sem] theorem acm:(JH.draws 1).order=hi226_1:=rfl
instance k226 {s:GShow} {v1:GState} {t:GTie}:Ctr (jk s v1 t) (fun (res:Bool)=>aj prog 226 [.agg (GShow.encS s),.agg (GState.encS v1),.agg (GTie.enc t)] [] (.lit (.bool res)) []):=⟨by
 intro res h0
 refine co (hi:=JH) func226 rfl rfl ?_
 unfold jk at h0
 exact run⟩
instance k225 {t:GTie} {s:GShow} {v2:GState}:Ctr (lE t s v2) (fun (res:Bool)=>aj prog 225 [.agg (GTie.enc t),.loc [.sl (ab GNode.encS s.nodes),.sl (ab GTie.enc s.ties),.lit (.int .i64 s.horizon)],.loc [.lit (.int .i64 v2.now),.sl (ab eI v2.times),.sl (ab eI v2.values)]] [] (.lit (.bool res)) []):=⟨by
 intro res h0
 refine co (hi:=hi00) func225 rfl rfl ?_
 unfold lE at h0
 exact run⟩
@[go_sem] def wg (v8:List Int)(v9:Int)(s_0:List GNode)(s_1:List GTie)(s_2 v3_0:Int)(v3_2:List Int)(v10:Int):St:=⟨[(2,.ptr 128 1 0 0),(3,.ptr 192 1 0 0),(8,.sl (ab eI v8)),(9,.lit (.int .i64 v9)),(10,.lit (.int .i64 v10))],[(128,1,.var [.sl (ab GNode.encS s_0),.sl (ab GTie.enc s_1),.lit (.int .i64 s_2)]),(192,1,.var [.lit (.int .i64 v3_0),.sl (ab eI v8),.sl (ab eI v3_2)])],2⟩
instance k129 {s:GShow} {v1:GState}:Ctr (fm s v1) (fun (res:Bool)=>aj prog 129 [.agg (GShow.encS s),.agg (GState.encS v1)] [] (.lit (.bool res)) []):=⟨by
 intro res h0
 refine co (hi:=hi00) func129 rfl rfl ?_
 unfold fm at h0
 obtain⟨q03,l0,h0⟩:=af h0
 simp(config:=cS)only[go_sem, *]
 refine ai (m1:=.mk) (m2:=.mk) [.nf [2,3,8,9,10] [128,192]] (wg v1.times (v1.times.length:Int) s.nodes s.ties s.horizon v1.now v1.values) l0 ?_ ?_
 ·simp(config:=cS)only[go_sem, *]
 have k0:=h0
 clear h0 l0
 intro _ v10_1 _ h0 gb0
 unfold ik at h0
 try dsimp only at h0
 exact run⟩
instance k128 {s:GShow} {v1:GState}:Ctr (eD s v1) (fun (res:Bool)=>aj prog 128 [.agg (GShow.encS s),.agg (GState.encS v1)] [] (.lit (.bool res)) []):=⟨by
 intro res h0
 refine co (hi:=hi00) func128 rfl rfl ?_
 unfold eD at h0
 obtain⟨r01,g0,h0⟩:=af h0
 simp(config:=cS)only[go_sem, *]
 refine ag (nU (by exact fun _ _ hr=>by have q:=ctr hr;exact q) (by refine⟨fun _=>?_,fun _=>?_⟩ <;> simp only[go_sem]) (fun _=>rfl) rfl g0) ?_
 exact run⟩
@[go_sem] def Cs (v13:List Int)(v14 v1_0:Int)(v1_2:List Int):(Int × (List Int))→St
 | (v15,out)=>⟨[(1,.ptr 64 1 0 0),(3,.ref 704 1 0 out.length),(13,.sl (ab eI v13)),(14,.lit (.int .i64 v14)),(15,.lit (.int .i64 v15))],[(64,1,.var [.lit (.int .i64 v1_0),.sl (ab eI v13),.sl (ab eI v1_2)]),(704,1,.row true (ab (eK .u8) out))],2⟩
@[go_sem] def Ct (v27:List Int)(v28:Int):(Int × (List Int))→St
 | (v29,out)=>⟨[(3,.ref 704 1 0 out.length),(27,.sl (ab eI v27)),(28,.lit (.int .i64 v28)),(29,.lit (.int .i64 v29))],[(704,1,.row true (ab (eK .u8) out))],2⟩
instance k293 {v0:GState}:Ctr (qt v0) (fun (res:ByteArray)=>aj prog 293 [.agg (GState.encS v0)] [] (.lit (.string res)) []):=⟨by
 intro res h0
 refine co (hi:=hi00) func293 rfl rfl ?_
 unfold qt at h0
 obtain⟨q04,l0,h0⟩:=af h0
 simp(config:=cS)only[go_sem, *]
 refine ai (m1:=.mk) (m2:=.mk) [.nf [1,3,13,14,15] [64,704]] (Cs v0.times (v0.times.length:Int) v0.now v0.values) l0 ?_ ?_
 ·simp(config:=cS)only[go_sem, *]
 have k0:=h0
 clear h0 l0
 intro _ s0 _ h0 gb0
 obtain⟨v15_1,out_1⟩:=s0
 unfold nx at h0
 try dsimp only at h0
 obtain⟨_,h0⟩|⟨_,h0⟩:=itP h0
 ·exact run
 cases h0
 obtain rfl:=(aJ gb0).symm
 clear gb0
 have h0:=k0
 clear k0
 try dsimp only at h0
 obtain⟨q03,l0,h0⟩:=af h0
 simp(config:=cS)only[go_sem, *]
 refine ai (m1:=.mk) (m2:=.mk) [.nf [3,27,28,29] [704]] (Ct v0.values (v0.values.length:Int)) l0 ?_ ?_
 ·simp(config:=cS)only[go_sem, *]
 have k0:=h0
 clear h0 l0
 intro _ s0 _ h0 gb0
 obtain⟨v29_2,out_2⟩:=s0
 unfold ny at h0
 try dsimp only at h0
 exact run⟩
@[go_sem] def xp (v9:List GTie)(v10 v3_0:Int)(v3_1 v3_2:List Int):(Int × (List Int))→St
 | (v11,out)=>⟨[(3,.ptr 192 1 0 0),(5,.ref 383 1 0 out.length),(9,.sl (ab GTie.enc v9)),(10,.lit (.int .i64 v10)),(11,.lit (.int .i64 v11))],[(192,1,.var [.lit (.int .i64 v3_0),.sl (ab eI v3_1),.sl (ab eI v3_2)]),(383,1,.row true (ab eI out))],2⟩
instance k142 {s:GShow} {v1:GState}:Ctr (lm s v1) (fun (res:List Int)=>aj prog 142 [.agg (GShow.encS s),.agg (GState.encS v1)] [] (.ref 20000 1 0 res.length) [(20000,1,.row true (ab eI res))]):=⟨by
 intro res h0
 refine aE (ra:=[.home 4]) (md:=mdT) hT (hi:=hi00) func142 rfl rfl (by decide +kernel) (by simp) ?_
 unfold lm at h0
 obtain⟨q04,l0,h0⟩:=af h0
 simp(config:=cS)only[go_sem, *]
 refine ai (m1:=.mk) (m2:=.mk) [.home 5,.nf [3,5,9,10,11] [192,383]] (xp s.ties (s.ties.length:Int) v1.now v1.times v1.values) l0 ?_ ?_
 ·simp(config:=cS)only[go_sem, *]
 have k0:=h0
 clear h0 l0
 intro _ s0 _ h0 gb0
 obtain⟨v11_1,out_1⟩:=s0
 unfold kQ at h0
 try dsimp only at h0
 exact run⟩
@[go_sem] def wh (set:Int)(v8:List Int)(v9:Int):(Int × (List Int))→St
 | (v10,out)=>⟨[(1,.lit (.int .i64 set)),(5,.ref 383 1 0 out.length),(8,.sl (ab eI v8)),(9,.lit (.int .i64 v9)),(10,.lit (.int .i64 v10))],[(383,1,.row true (ab eI out))],2⟩
instance k229 {list:List Int} {set:Int}:Ctr (kA list set) (fun (res:List Int)=>aj prog 229 [.sl (ab eI list),.lit (.int .i64 set)] [] (.ref 20000 1 0 res.length) [(20000,1,.row true (ab eI res))]):=⟨by
 intro res h0
 refine aE (ra:=[.home 4]) (md:=mdT) hT (hi:=hi00) func229 rfl rfl (by decide +kernel) (by simp) ?_
 unfold kA at h0
 obtain⟨q02,l0,h0⟩:=af h0
 simp(config:=cS)only[go_sem, *]
 refine ai (m1:=.mk) (m2:=.mk) [.home 5,.nf [1,5,8,9,10] [383]] (wh set list (list.length:Int)) l0 ?_ ?_
 ·simp(config:=cS)only[go_sem, *]
 have k0:=h0
 clear h0 l0
 intro _ s0 _ h0 gb0
 obtain⟨v10_1,out_1⟩:=s0
 unfold jM at h0
 try dsimp only at h0
 exact run⟩
instance k289 {v1:Int}:Ctr (jN v1) (fun (res:List Int × Nat)=>aj prog 289 [.lit (.slice none 0 0),.lit (.int .i64 v1)] [] (.ref 20000 1 0 res.2) [(20000,1,.row true (ab eI res.1))]):=⟨by
 intro res h0
 refine aE (ra:=[.home 4]) (md:=mdT) hT (hi:=hi00) func289 rfl rfl (by decide +kernel) (by simp) ?_
 unfold jN at h0
 exact run⟩
@[go_sem] def sA (v0:List (List Int))(v10:Int):(Int × Int)→St
 | (v3,v11)=>⟨[(0,.sl (ab (eLS eI) v0)),(3,.lit (.int .i64 v3)),(9,.sl (ab (eLS eI) v0)),(10,.lit (.int .i64 v10)),(11,.lit (.int .i64 v11))],[],2⟩
@[go_sem] def sB (v25:List (List Int))(v26:Int):(Nat × Int × (List Int))→St
 | (v6_n,v27,v6)=>⟨[(6,.ref 1536 1 0 v6_n),(25,.sl (ab (eLS eI) v25)),(26,.lit (.int .i64 v26)),(27,.lit (.int .i64 v27))],[(1536,1,.row true (ab eI v6))],2⟩
instance k228 {v0:List (List Int)}:Ctr (iy v0) (fun (res:List Int)=>aj prog 228 [.sl (ab (eLS eI) v0)] [] (.ref 20000 1 0 res.length) [(20000,1,.row true (ab eI res))]):=⟨by
 intro res h0
 refine aE (ra:=[.home 2,.trimT 2]) (md:=mdT) hT (hi:=hi00) func228 rfl rfl (by decide +kernel) (by simp) ?_
 unfold iy at h0
 obtain⟨q05,l0,h0⟩:=af h0
 simp(config:=cS)only[go_sem, *]
 refine ai (m1:=.mk) (m2:=.mk) [.nf [0,3,9,10,11] []] (sA v0 (v0.length:Int)) l0 ?_ ?_
 ·simp(config:=cS)only[go_sem, *]
 have k0:=h0
 clear h0 l0
 intro _ s0 _ h0 gb0
 obtain⟨v3_1,v11_1⟩:=s0
 unfold fU at h0
 try dsimp only at h0
 obtain⟨_,h0⟩|⟨_,h0⟩:=itP h0
 ·exact run
 cases h0
 obtain rfl:=(aJ gb0).symm
 clear gb0
 have h0:=k0
 clear k0
 try dsimp only at h0
 obtain⟨r02,g0,h0⟩:=af h0
 simp(config:=cS)only[go_sem, *]
 have g0:=ctr g0
 refine ag g0 ?_
 obtain⟨q04,l0,h0⟩:=af h0
 simp(config:=cS)only[go_sem, *]
 refine ai (m1:=.mk) (m2:=.mk) [.nf [6,25,26,27] [1536]] (sB v0 (v0.length:Int)) l0 ?_ ?_
 ·simp(config:=cS)only[go_sem, *]
 have k0:=h0
 clear h0 l0
 intro _ s0 _ h0 gb0
 obtain⟨v6_n_2,v27_2,v6_2⟩:=s0
 unfold fV at h0
 try dsimp only at h0
 exact run⟩
instance k330 {v0:Int}:Ctr (tu v0) (fun (res:Int)=>aj prog 330 [.lit (.int .u64 v0)] [] (.lit (.int .i64 res)) []):=⟨by
 intro res h0
 refine co (hi:=hi00) func330 rfl rfl ?_
 unfold tu at h0
 exact run⟩
instance k291 {v0:Int}:Ctr (sI v0) (fun (res:Int)=>aj prog 291 [.lit (.int .u64 v0)] [] (.lit (.int .i64 res)) []):=⟨by
 intro res h0
 refine co (hi:=hi00) func291 rfl rfl ?_
 unfold sI at h0
 exact run⟩
instance k356 {v0:Int}:Ctr (lF v0) (fun (res:Bool)=>aj prog 356 [.lit (.int .i64 v0)] [] (.lit (.bool res)) []):=⟨by
 intro res h0
 refine co (hi:=hi00) func356 rfl rfl ?_
 unfold lF at h0
 exact run⟩
instance k326 {v0:Int} {v1:Int}:Ctr (mG v0 v1) (fun (res:Bool)=>aj prog 326 [.lit (.int .i64 v0),.lit (.int .i64 v1)] [] (.lit (.bool res)) []):=⟨by
 intro res h0
 refine co (hi:=hi00) func326 rfl rfl ?_
 unfold mG at h0
 exact run⟩
@[go_sem] def nm (zb0:Bool)(v1 v2 v6:Int):(Int × (List Int))→St
 | (v7,v0)=>⟨[(0,.ref 10000 0 0 v0.length),(1,.lit (.int .i64 v1)),(2,.lit (.int .i64 v2)),(6,.lit (.int .i64 v6)),(7,.lit (.int .i64 v7))],[(10000,0,.row zb0 (ab eI v0))],2⟩
@[go_sem] def nn (zb0:Bool)(v1 v2:Int):(Int × (List Int))→St
 | (v6,v0)=>⟨[(0,.ref 10000 0 0 v0.length),(1,.lit (.int .i64 v1)),(2,.lit (.int .i64 v2)),(6,.lit (.int .i64 v6))],[(10000,0,.row zb0 (ab eI v0))],2⟩
@[go_sem] def hi320_6:DT:=.r2 0 18 .nil
@[go_sem] def hi320_4:DT:=.r2 0 15 .nil
def EC:Hint where
 acts:=fun _=>[]
 draws:=fun
  | 4=>⟨hi320_4,[[],[],[0,1],[0,1,2],[0,1,2,3],[0,1,2,3],.range 6,.range 7,[0,1,2,3],[0,1,2,3],[0,1,2,3,9],[0,1,2,3,8,9,10],[0,1,2,3,8,9,10,11],.range 13,.range 14],.range 15⟩
  | 6=>⟨hi320_6,[[],[],[],[],[3],[],[],[6],[5,6,7],[5,6,7,8],[],[],[10,11],[10,11,12],[0,1,5,6,7,8,9,10,11,12,13],[0,1,5,6,7,8,9,10,11,12,13,14],.range 16,.range 17],[0,1,13,14,15,2,3,4,5,6,7,8,9,10,11,12,16,17]⟩
  | _=>⟨.nil,[],[]⟩
theorem XY (i:Nat):EC.acts i=[]:=rfl
attribute[go_sem] XY ntmps320 results320
@[go_sem] theorem acn:(EC.draws 4).order=hi320_4:=rfl
@[go_sem] theorem aco:(EC.draws 6).order=hi320_6:=rfl
theorem pq {v0:List Int}{v1 v2:Int}{zb0:Bool}{res:List Int}(h0:cy v0 v1 v2=some res):aj prog 320 [.ref 10000 0 0 v0.length,.lit (.int .i64 v1),.lit (.int .i64 v2)] [(10000,0,.row zb0 (ab eI v0))] (.tup []) [(10000,0,.row zb0 (ab eI res))]:=by
 refine co (hi:=EC) func320 rfl rfl ?_
 unfold cy at h0
 obtain⟨q06,l0,h0⟩:=af h0
 simp(config:=cS)only[go_sem, *]
 refine ai (m1:=.mk) (m2:=.mk) [.nf [0,1,2,6] [10000]] (nn zb0 v1 v2) l0 ?_ ?_
 ·simp(config:=cS)only[go_sem, *]
 have k0:=h0
 clear h0 l0
 intro _ s0 _ h0 gb0
 obtain⟨v6_1,v0_1⟩:=s0
 unfold bA at h0
 try dsimp only at h0
 obtain⟨_,h0⟩|⟨_,h0⟩:=itP h0
 ·obtain⟨q05,l0,h0⟩:=af h0
  simp(config:=cS)only[go_sem, *]
  refine ai (m1:=.mk) (m2:=.mk) [.nf [0,1,2,6,7] [10000]] (nm zb0 v1 v2 v6_1) l0 ?_ ?_
  ·simp(config:=cS)only[go_sem, *]
  have k0:=h0
  clear h0 l0
  intro _ s0 _ h0 gb0
  obtain⟨v7_2,v0_2⟩:=s0
  unfold ba at h0
  try dsimp only at h0
  exact run
 exact run
@[go_sem] def pt (zb0:Bool)(v1 v2 v3:Int)(v0:List Int)(_:Unit):St:=⟨[(0,.ref 10000 0 0 v0.length),(1,.lit (.int .i64 v1)),(2,.lit (.int .i64 v2)),(3,.lit (.int .i64 v3)),(8,.lit (.bool true)),(9,.lit (.bool true))],[(10000,0,.row zb0 (ab eI v0))],2⟩
@[go_sem] def hi290_17:DT:=.r2 0 15 .nil
def JI:Hint where
 acts:=fun _=>[]
 draws:=fun
  | 17=>⟨hi290_17,[[],[0],[0,1],[0,1,2],[0,1,2],[0,1,2,4],.range 6,.range 7,[0,1,2],[0,1,2],[0,1,2,8,9],[0,1,2,8,9,10],.range 12,.range 13,.range 14],.range 15⟩
  | _=>⟨.nil,[],[]⟩
theorem Ya (i:Nat):JI.acts i=[]:=rfl
attribute[go_sem] Ya ntmps290 results290
@[go_sem] theorem aaW:(JI.draws 17).order=hi290_17:=rfl
theorem rH {v0:List Int}{v1 v2 v3:Int}{zb0:Bool}{res:List Int}(h0:dw v0 v1 v2 v3=some res):aj prog 290 [.ref 10000 0 0 v0.length,.lit (.int .i64 v1),.lit (.int .i64 v2),.lit (.int .i64 v3)] [(10000,0,.row zb0 (ab eI v0))] (.tup []) [(10000,0,.row zb0 (ab eI res))]:=by
 refine co (hi:=JI) func290 rfl rfl ?_
 unfold dw at h0
 obtain⟨q02,l0,h0⟩:=af h0
 simp(config:=cS)only[go_sem, *]
 refine ai (m1:=.mk) (m2:=.mk) [.nf [0,1,2,3,8,9] [10000]] (pt zb0 v1 v2 v3 v0) l0 ?_ ?_
 ·simp(config:=cS)only[go_sem, *]
 have k0:=h0
 clear h0 l0
 intro _ s0 _ h0 gb0
 unfold gS at h0
 try dsimp only at h0
 obtain⟨_,h0⟩|⟨_,h0⟩:=itP h0
 ·obtain⟨r01,g0,h0⟩:=af h0
  simp(config:=cS)only[go_sem, *]
  refine ag (pq g0) ?_
  exact run
 exact run
theorem si {v0:List Int}{zb0:Bool}{res:List Int}(h0:df v0=some res):aj prog 230 [.ref 10000 0 0 v0.length] [(10000,0,.row zb0 (ab eI v0))] (.tup []) [(10000,0,.row zb0 (ab eI res))]:=by
 refine co (hi:=hi00) func230 rfl rfl ?_
 unfold df at h0
 obtain⟨r01,g0,h0⟩:=af h0
 simp(config:=cS)only[go_sem, *]
 have g0:=ctr g0
 refine ag g0 ?_
 obtain⟨r02,g0,h0⟩:=af h0
 simp(config:=cS)only[go_sem, *]
 refine ag (rH g0) ?_
 exact run
@[go_sem] def wi (v21:Int)(s_0:List GNode)(s_1:List GTie)(s_2 v3_0:Int)(v3_1 v3_2 v20:List Int):(Int × (List Int) × (List Int))→St
 | (v22,must,may)=>⟨[(2,.ptr 128 1 0 0),(3,.ptr 192 1 0 0),(5,.ref 383 1 0 must.length),(6,.ref 447 1 0 may.length),(20,.ref 1280 1 0 v20.length),(21,.lit (.int .i64 v21)),(22,.lit (.int .i64 v22))],[(128,1,.var [.sl (ab GNode.encS s_0),.sl (ab GTie.enc s_1),.lit (.int .i64 s_2)]),(192,1,.var [.lit (.int .i64 v3_0),.sl (ab eI v3_1),.sl (ab eI v3_2)]),(383,1,.row true (ab eI must)),(447,1,.row true (ab eI may)),(1280,1,.row true (ab eI v20))],2⟩
@[go_sem] def wj (must may:List Int):(Int × (List (List Int)))→St
 | (set,out)=>⟨[(5,.ref 383 1 0 must.length),(6,.ref 447 1 0 may.length),(10,.ref 703 1 0 out.length),(11,.lit (.int .i64 set))],[(383,1,.tree (ab eI must)),(447,1,.row true (ab eI may)),(703,1,.row true (ab (eLO eI) out))],2⟩
@[go_sem] def hi131_7:DT:=.r2 0 14 .nil
def JJ:Hint where
 acts:=fun _=>[]
 draws:=fun
  | 7=>⟨hi131_7,[[],[0],[],[2],[],[4],[],[4,5,6],[4,5,6,7],[4,5,6,7,8],[2,3,4,5,6,7,8,9],[2,3,4,5,6,7,8,9,10],.range 12,.range 13],.range 14⟩
  | _=>⟨.nil,[],[]⟩
theorem Yc (i:Nat):JJ.acts i=[]:=rfl
attribute[go_sem] Yc ntmps131 results131
@[go_sem] theorem acp:(JJ.draws 7).order=hi131_7:=rfl
instance k131 {s:GShow} {v1:GState}:Ctr (fo s v1) (fun (res:List (List Int))=>aj prog 131 [.agg (GShow.encS s),.agg (GState.encS v1)] [] (.sl (ab (eLS eI) res)) []):=⟨by
 intro res h0
 refine aE (ra:=[.freeze [703],.sliT 4,.nilSl 4]) (md:=mdT) hT (hi:=JJ) func131 rfl rfl (by decide +kernel) (by simp) ?_
 unfold fo at h0
 obtain⟨_,h0⟩|⟨_,h0⟩:=itP h0
 ·exact run
 obtain⟨r01,g0,h0⟩:=af h0
 simp(config:=cS)only[go_sem, *]
 have g0:=ctr g0
 refine ag g0 ?_
 obtain⟨q09,l0,h0⟩:=af h0
 simp(config:=cS)only[go_sem, *]
 refine ai (m1:=.mk) (m2:=.mk) [.home 5,.home 6,.nf [2,3,5,6,20,21,22] [128,192,383,447,1280]] (wi (r01.length:Int) s.nodes s.ties s.horizon v1.now v1.times v1.values r01) l0 ?_ ?_
 ·simp(config:=cS)only[go_sem, *]
 have k0:=h0
 clear h0 l0
 intro _ s0 _ h0 gb0
 obtain⟨v22_1,must_1,may_1⟩:=s0
 unfold jO at h0
 try dsimp only at h0
 obtain⟨_,h0⟩|⟨_,h0⟩:=itP h0
 ·exact run
 cases h0
 obtain rfl:=(aJ gb0).symm
 clear gb0
 have h0:=k0
 clear k0
 try dsimp only at h0
 obtain⟨q08,l0,h0⟩:=af h0
 simp(config:=cS)only[go_sem, *]
 refine ai (m1:=.mk) (m2:=.mk) [.home 10,.freeze [383],.nf [5,6,10,11] [383,447,703]] (wj must_1 may_1) l0 ?_ ?_
 ·simp(config:=cS)only[go_sem, *]
 have k0:=h0
 clear h0 l0
 intro _ s0 _ h0 gb0
 obtain⟨set_2,out_2⟩:=s0
 unfold jP at h0
 try dsimp only at h0
 obtain⟨_,h0⟩:=ckN h0
 obtain⟨_,h0⟩|⟨_,h0⟩:=itP h0
 ·obtain⟨r05,g0,h0⟩:=af h0
  simp(config:=cS)only[go_sem, *]
  have g0:=ctr g0
  refine ag g0 ?_
  obtain⟨r06,g0,h0⟩:=af h0
  simp(config:=cS)only[go_sem, *]
  have g0:=ctr g0
  refine ag g0 ?_
  obtain⟨r07,g0,h0⟩:=af h0
  simp(config:=cS)only[go_sem, *]
  refine ag (si g0) ?_
  exact run
 exact run⟩
instance k94 {v0:List Int}:Ctr (bm v0) (fun (res:List Int)=>aj prog 94 [.sl (ab eI v0)] [] (.ref 20000 1 0 res.length) [(20000,1,.row true (ab eI res))]):=⟨by
 intro res h0
 refine aE (ra:=[.home 2]) (md:=mdT) hT (hi:=hi00) func94 rfl rfl (by decide +kernel) (by simp) ?_
 unfold bm at h0
 obtain⟨_,h0,_⟩|⟨a0,h0⟩:=HS h0
 ·exact run
 have:=fun (e:_→List AV)=>Ef (e:=e) a0
 exact run⟩
@[go_sem] def hi202_1:DT:=.i1 0 (.i1 1 (.i2 2 (.i2 3 (.i1 5 (.i1 6 (.i0 4 [0,1,5,6] (.i0 7 [0,1] (.i2 8 (.i2 9 .nil)))))))))
def JK:Hint where
 acts:=fun _=>[]
 draws:=fun
  | 1=>⟨hi202_1,[[],[0],[],[2],[2,3],[],[5],[2,3,4,5,6],.range 8,.range 9],.range 10⟩
  | _=>⟨.nil,[],[]⟩
theorem Ye (i:Nat):JK.acts i=[]:=rfl
attribute[go_sem] Ye ntmps202 results202
@[go_sem] theorem acq:(JK.draws 1).order=hi202_1:=rfl
instance k202 {v0:GState}:Ctr (eW v0) (fun (res:GState)=>aj prog 202 [.agg (GState.encS v0)] [] (.agg [.lit (.int .i64 res.now),.ref 20000 1 0 res.times.length,.ref 20001 1 0 res.values.length]) [(20000,1,.row true (ab eI res.times)),(20001,1,.row true (ab eI res.values))]):=⟨by
 intro res h0
 refine aE (ra:=[.homeCell 128 1,.homeCell 128 2]) (md:=mdT) hT (hi:=JK) func202 rfl rfl (by decide +kernel) (by simp) ?_
 unfold eW at h0
 exact run⟩
@[go_sem] def yf (v12:List Int)(v13:Int)(s_0:List GNode)(s_1:List GTie)(s_2 v4_0:Int)(v4_1 v4_2:List Int)(out_0:Int)(h705:List Int):(Int × (List Int))→St
 | (v14,h704)=>⟨[(3,.ptr 192 1 0 0),(4,.ptr 256 1 0 0),(6,.ptr 384 1 0 0),(7,.ptr 448 1 0 0),(12,.sl (ab eI v12)),(13,.lit (.int .i64 v13)),(14,.lit (.int .i64 v14))],[(192,1,.var [.sl (ab GNode.encS s_0),.sl (ab GTie.enc s_1),.lit (.int .i64 s_2)]),(256,1,.var [.lit (.int .i64 v4_0),.sl (ab eI v4_1),.sl (ab eI v4_2)]),(384,1,.var [.lit (.int .i64 0),.lit (.slice none 0 0),.lit (.slice none 0 0)]),(448,1,.var [.lit (.int .i64 out_0),.ref 704 1 0 h704.length,.ref 705 1 0 h705.length]),(704,1,.row true (ab eI h704)),(705,1,.row true (ab eI h705))],2⟩
@[go_sem] def hi132_5:DT:=.r2 0 12 .nil
def JL:Hint where
 acts:=fun _=>[]
 draws:=fun
  | 5=>⟨hi132_5,[[],[0],[],[2],[],[2,3,4],[2,3,4,5],[2,3,4,5,6],[],[8],.range 10,.range 11],.range 12⟩
  | _=>⟨.nil,[],[]⟩
theorem Yg (i:Nat):JL.acts i=[]:=rfl
attribute[go_sem] Yg ntmps132 results132
@[go_sem] theorem acr:(JL.draws 5).order=hi132_5:=rfl
instance k132 {s:GShow} {v1:GState} {ties:List Int}:Ctr (fW s v1 ties) (fun (res:GState)=>aj prog 132 [.agg (GShow.encS s),.agg (GState.encS v1),.sl (ab eI ties)] [] (.agg [.lit (.int .i64 res.now),.ref 20000 1 0 res.times.length,.ref 20001 1 0 res.values.length]) [(20000,1,.row true (ab eI res.times)),(20001,1,.row true (ab eI res.values))]):=⟨by
 intro res h0
 refine aE (ra:=[.homeCell 384 1,.homeCell 384 2]) (md:=mdT) hT (hi:=JL) func132 rfl rfl (by decide +kernel) (by simp) ?_
 unfold fW at h0
 obtain⟨r01,g0,h0⟩:=af h0
 simp(config:=cS)only[go_sem, *]
 have g0:=ctr g0
 refine ag g0 ?_
 obtain⟨q05,l0,h0⟩:=af h0
 simp(config:=cS)only[go_sem, *]
 refine ai (m1:=.mk) (m2:=.mk) [.nf [3,4,6,7,12,13,14] [192,256,384,448,704,705]] (yf ties (ties.length:Int) s.nodes s.ties s.horizon v1.now v1.times v1.values r01.now r01.values) l0 ?_ ?_
 ·simp(config:=cS)only[go_sem, *]
 have k0:=h0
 clear h0 l0
 intro _ s0 _ h0 gb0
 obtain⟨v14_1,h704_1⟩:=s0
 unfold lG at h0
 try dsimp only at h0
 exact run⟩
@[go_sem] def xq (s_0:List GNode)(s_1:List GTie)(s_2:Int):(Int × (List Int))→St
 | (i,out)=>⟨[(1,.ptr 64 1 0 0),(3,.ref 255 1 0 out.length),(4,.lit (.int .i64 i))],[(64,1,.var [.sl (ab GNode.encS s_0),.sl (ab GTie.enc s_1),.lit (.int .i64 s_2)]),(255,1,.row true (ab eI out))],2⟩
instance k112 {s:GShow}:Ctr (nz s) (fun (res:List Int)=>aj prog 112 [.agg (GShow.encS s)] [] (.ref 20000 1 0 res.length) [(20000,1,.row true (ab eI res))]):=⟨by
 intro res h0
 refine aE (ra:=[.home 2]) (md:=mdT) hT (hi:=hi00) func112 rfl rfl (by decide +kernel) (by simp) ?_
 unfold nz at h0
 obtain⟨q02,l0,h0⟩:=af h0
 simp(config:=cS)only[go_sem, *]
 refine ai (m1:=.mk) (m2:=.mk) [.home 3,.nf [1,3,4] [64,255]] (xq s.nodes s.ties s.horizon) l0 ?_ ?_
 ·simp(config:=cS)only[go_sem, *]
 have k0:=h0
 clear h0 l0
 intro _ s0 _ h0 gb0
 obtain⟨i_1,out_1⟩:=s0
 unfold kR at h0
 try dsimp only at h0
 exact run⟩
end Go.Proofs.Qm
