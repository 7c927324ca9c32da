/- Functions. -/
import Derived.Test.YtpodkllkinpfmaaGreatDoorXjX
import Derived.Test.YtpodkllkinpfmaaGreatDoorXj37
set_option linter.all false
set_option maxRecDepth 100000
set_option maxHeartbeats 4000000
namespace Go.Proofs.Qj
open Go Tryz
theorem co {hi:Hint}{f:FuncId}{fn:Func}{c:Code}{args:List AV}{h0 h':Hp}{r:AV}(hf:Tryz.prog.funcs[f]?=some fn)(hn:(fn.name == "runtime.NumGoroutine")=false) (hb:fn.body=some c) (h:bP prog mdT T fn.ntmps hi c ⟨kz 0 args,h0,1⟩ (retK T [] fn.results.toList (h0.map (·.1)) (fun r1 h1=>r1=r∧h1=h'))) (hc:gR hi c=true:=by decide +kernel) (hlen:args.length≤fn.ntmps:=by simp):au prog f args h0 r h':=bq (ra:=[]) (md:=mdT) hT hf hn hb hc hlen h
@[go_sem] def pU (code:List Int):(Int × Int)→St
 | (v3,i)=>⟨[(0,.sl (ab (eK .u8) code)),(3,.lit (.int .i64 v3)),(4,.lit (.int .i64 i))],[],2⟩
attribute[go_sem] ntmps80 results80 ntmps85 results85 ntmps181 results181 ntmps182 results182 ntmps22 results22 ntmps215 results215 ntmps214 results214 ntmps266 results266 ntmps189 results189 ntmps107 results107 ntmps267 results267 ntmps187 results187 ntmps224 results224 ntmps269 results269 ntmps223 results223 ntmps124 results124 ntmps193 results193 ntmps194 results194 ntmps88 results88 ntmps93 results93 ntmps195 results195 ntmps311 results311 ntmps270 results270 ntmps191 results191 ntmps86 results86 ntmps188 results188 ntmps83 results83 ntmps91 results91 ntmps272 results272 ntmps254 results254 ntmps177 results177 ntmps255 results255 ntmps172 results172 ntmps81 results81 ntmps261 results261 ntmps175 results175 ntmps344 results344 ntmps309 results309 ntmps265 results265 ntmps310 results310 ntmps258 results258 ntmps313 results313 ntmps275 results275 ntmps108 results108 ntmps260 results260 ntmps264 results264 ntmps263 results263 ntmps70 results70 ntmps185 results185 ntmps186 results186 ntmps82 results82 ntmps23 results23 ntmps87 results87 ntmps26 results26 ntmps90 results90 ntmps94 results94 ntmps308 results308 ntmps256 results256 ntmps257 results257 ntmps173 results173 ntmps252 results252 ntmps110 results110 ntmps113 results113 ntmps68 results68 ntmps271 results271 ntmps196 results196 ntmps274 results274 ntmps197 results197 ntmps95 results95 ntmps28 results28 ntmps29 results29 ntmps84 results84 ntmps24 results24 ntmps4 results4
instance k80 {code:List Int}:Ctr (gM code) (fun (res:GL01Cur)=>au prog 80 [.sl (ab (eK .u8) code)] [] (.ptr 20000 1 0 0) [(20000,1,.var [.sl (ab (eK .u8) res.b),.lit (.int .i64 res.i),.lit (.int .i64 res.h)])]):=⟨by
 intro res h0
 refine co (hi:=hi00) func80 rfl rfl ?_
 unfold gM at h0
 obtain⟨q02,l0,h0⟩:=af h0
 simp(config:=cS)only[go_sem, *]
 refine aq (m1:=.mk) (m2:=.mk) [.nf [0,3,4] []] (pU code) l0 ?_ ?_
 ·simp(config:=cS)only[go_sem, *]
 have k0:=h0
 clear h0 l0
 intro _ s0 _ h0 gb0
 obtain⟨v3_1,i_1⟩:=s0
 unfold gC at h0
 try dsimp only at h0
 exact run⟩
@[go_sem] def hi139_4:DT:=.r2 0 15 .nil
@[go_sem] def hi139_3:DT:=.r2 0 10 .nil
@[go_sem] def hi139_2:DT:=.r2 0 13 .nil
def sx:Hint where
 acts:=fun _=>[]
 draws:=fun
  | 2=>⟨hi139_2,[[],[0],[0,1],[0,1,2],[0,1,2,3],[],[5],[5,6],[5,6,7],[5,6,7,8],.range 10,.range 11,.range 12],.range 13⟩
  | 3=>⟨hi139_3,[[],[0],[0,1],[0,1,2],[],[4],[4,5],[4,5,6],[4,5,6,7],.range 9],.range 10⟩
  | 4=>⟨hi139_4,[[],[],[1],[1,2],[1,2,3],[],[5],[5,6],[5,6,7],[1,2,3,4,5,6,7,8],[1,2,3,4,5,6,7,8,9],[1,2,3,4,5,6,7,8,9,10],.range 12,.range 13,.range 14],.range 15⟩
  | _=>⟨.nil,[],[]⟩
theorem LJ (i:Nat):sx.acts i=[]:=rfl
theorem LK (i:Nat):sx.views i=none:=rfl
attribute[go_sem] LJ LK ntmps139 results139
@[go_sem] theorem OI:(sx.draws 2).order=hi139_2:=rfl
@[go_sem] theorem OJ:(sx.draws 3).order=hi139_3:=rfl
@[go_sem] theorem OK:(sx.draws 4).order=hi139_4:=rfl
instance k139 {v0:GL01Cur}:Ctr (cG v0) (fun (res:Int × GL01Cur)=>au prog 139 [.ptr 10000 0 0 0] [(10000,0,.var [.sl (ab (eK .u8) v0.b),.lit (.int .i64 v0.i),.lit (.int .i64 v0.h)])] (.lit (.int .i64 res.1)) [(10000,0,.var [.sl (ab (eK .u8) res.2.b),.lit (.int .i64 res.2.i),.lit (.int .i64 res.2.h)])]):=⟨by
 intro res h0
 refine co (hi:=sx) func139 rfl rfl ?_
 unfold cG at h0
 exact run⟩
instance k85 {v0:GL01Cur} {n:Int}:Ctr (aU v0 n) (fun (res:Int × GL01Cur)=>au prog 85 [.ptr 10000 0 0 0,.lit (.int .i64 n)] [(10000,0,.var [.sl (ab (eK .u8) v0.b),.lit (.int .i64 v0.i),.lit (.int .i64 v0.h)])] (.lit (.int .i64 res.1)) [(10000,0,.var [.sl (ab (eK .u8) res.2.b),.lit (.int .i64 res.2.i),.lit (.int .i64 res.2.h)])]):=⟨by
 intro res h0
 refine co (hi:=hi00) func85 rfl rfl ?_
 unfold aU at h0
 exact run⟩
instance k181 {i:Int}:Ctr (gp i) (fun (res:ByteArray)=>au prog 181 [.lit (.int .i64 i)] [] (.lit (.string res)) []):=⟨by
 intro res h0
 refine co (hi:=hi00) func181 rfl rfl ?_
 unfold gp at h0
 obtain⟨x01,a1,a2,a3,h0⟩:=gtI h0
 try simp only[List.length_append,List.length_cons,List.length_nil,Nat.zero_add,Nat.reduceAdd]at a1
 try simp only[List.length_append,List.length_cons,List.length_nil,Nat.zero_add,Nat.reduceAdd]at a2
 try simp only[List.length_append,List.length_cons,List.length_nil,Nat.zero_add,Nat.reduceAdd]at a3
 exact run⟩
instance k182 {v0:GL01Cur} {n:Int}:Ctr (iy v0 n) (fun (res:Bool × GL01Cur)=>au prog 182 [.ptr 10000 0 0 0,.lit (.int .i64 n)] [(10000,0,.var [.sl (ab (eK .u8) v0.b),.lit (.int .i64 v0.i),.lit (.int .i64 v0.h)])] (.lit (.bool res.1)) [(10000,0,.var [.sl (ab (eK .u8) res.2.b),.lit (.int .i64 res.2.i),.lit (.int .i64 res.2.h)])]):=⟨by
 intro res h0
 refine co (hi:=hi00) func182 rfl rfl ?_
 unfold iy at h0
 exact run⟩
@[go_sem] def pf (m s_2:Int)(h10001:List GNode):(Int × (List Int) × Int × Int × (List GTie))→St
 | (k,v0_0,v0_1,v0_2,h10002)=>⟨[(0,.ptr 10000 0 0 0),(3,.ptr 192 1 0 0),(4,.ptr 256 1 0 0),(5,.lit (.int .i64 m)),(6,.lit (.int .i64 k))],[(10000,0,.var [.sl (ab (eK .u8) v0_0),.lit (.int .i64 v0_1),.lit (.int .i64 v0_2)]),(192,1,.var [.ref 10001 0 0 h10001.length,.ref 10002 1 0 h10002.length,.lit (.int .i64 s_2)]),(10001,0,.row true (ab GNode.encO h10001)),(10002,1,.row true (ab GTie.enc h10002)),(256,1,.var [.lit (.slice none 0 0),.lit (.slice none 0 0),.lit (.int .i64 0)])],2⟩
@[go_sem] def hi183_7:DT:=.i1 0 (.i1 1 (.r2 2 6 (.i2 10 (.r2 12 4 (.i0 8 [0,1] (.i2 9 (.i2 11 (.i0 16 [0,1] (.i2 17 (.i2 18 (.i0 19 [0,1] (.r2 20 3 .nil))))))))))))
def AC:Hint where
 acts:=fun _=>[]
 draws:=fun
  | 7=>⟨hi183_7,[[],[0],[],[],[3],[],[],[6],[5,6,7],[3,4,5,6,7,8],[],[3,4,5,6,7,8,9,10],[],[],[13],[],[5,6,7,8,15],[5,6,7,8,13,14,15,16],[2,3,4,5,6,7,8,9,10,11,12,13,14,15,16,17],[2,3,4,5,6,7,8,9,10,11,12,13,14,15,16,17,18],.range 20,.range 21,.range 22],.range 23⟩
  | _=>⟨.nil,[],[]⟩
theorem LL (i:Nat):AC.acts i=[]:=rfl
theorem LM (i:Nat):AC.views i=none:=rfl
attribute[go_sem] LL LM ntmps183 results183
@[go_sem] theorem OL:(AC.draws 7).order=hi183_7:=rfl
instance k183 {v0:GL01Cur} {s:GShow}:Ctr (iz v0 s) (fun (res:GShow × GL01Cur × (List GNode))=>au prog 183 [.ptr 10000 0 0 0,.agg [.ref 10001 0 0 s.nodes.length,.ref 10002 0 0 s.ties.length,.lit (.int .i64 s.horizon)]] [(10000,0,.var [.sl (ab (eK .u8) v0.b),.lit (.int .i64 v0.i),.lit (.int .i64 v0.h)]),(10001,0,.row true (ab GNode.encO s.nodes)),(10002,0,.row true (ab GTie.enc s.ties))] (.agg [.ref 10001 0 0 res.2.2.length,.ref 20000 1 0 res.1.ties.length,.lit (.int .i64 res.1.horizon)]) [(10000,0,.var [.sl (ab (eK .u8) res.2.1.b),.lit (.int .i64 res.2.1.i),.lit (.int .i64 res.2.1.h)]),(10001,0,.row true (ab GNode.encO res.2.2)),(20000,1,.row true (ab GTie.enc res.1.ties))]):=⟨by
 intro res h0
 refine bq (ra:=[.homeCell 256 0,.homeCell 256 1]) (md:=mdT) hT (hi:=AC) func183 rfl rfl (by decide +kernel) (by simp) ?_
 unfold iz at h0
 obtain⟨r01,g0,h0⟩:=af h0
 simp(config:=cS)only[go_sem, *]
 have g0:=ctr g0
 refine ar g0 ?_
 obtain⟨q06,l0,h0⟩:=af h0
 simp(config:=cS)only[go_sem, *]
 refine aq (m1:=.mk) (m2:=.mk) [.nfo [0,3,4,5,6] [10000,192,10001,10002,256] [10002]] (pf (s.nodes.length:Int) s.horizon s.nodes) l0 ?_ ?_
 ·simp(config:=cS)only[go_sem, *]
 have k0:=h0
 clear h0 l0
 intro _ s0 _ h0 gb0
 obtain⟨k_1,v0_0_1,v0_1_1,v0_2_1,h10002_1⟩:=s0
 unfold fT at h0
 try dsimp only at h0
 exact run⟩
@[go_sem] def oe (s_2:Int):(Int × (List GNode) × (List Int) × Int × Int × (List GTie))→St
 | (n,h512,v0_0,v0_1,v0_2,h100012289)=>⟨[(0,.ptr 10000 0 0 0),(2,.ptr 128 1 0 0),(3,.ptr 192 1 0 0),(4,.lit (.int .i64 n))],[(10000,0,.var [.sl (ab (eK .u8) v0_0),.lit (.int .i64 v0_1),.lit (.int .i64 v0_2)]),(128,1,.var [.lit (.slice none 0 0),.lit (.slice none 0 0),.lit (.int .i64 0)]),(192,1,.var [.ref 512 1 0 h512.length,.ref 100012289 1 0 h100012289.length,.lit (.int .i64 s_2)]),(512,1,.row true (ab GNode.encO h512)),(100012289,1,.row true (ab GTie.enc h100012289))],2⟩
@[go_sem] def hi79_12:DT:=.i1 0 (.i1 1 (.r2 2 6 (.i0 8 [0,1] (.i2 9 (.i2 10 (.i0 11 [0,1] (.r2 12 3 .nil)))))))
@[go_sem] def hi79_11:DT:=.i1 0 (.i1 1 (.i2 2 (.i2 3 (.i0 4 [0,1] (.i2 5 (.i0 6 [0,1] (.r2 7 3 .nil)))))))
@[go_sem] def hi79_8:DT:=.i1 0 (.i1 1 (.i2 2 (.i2 3 (.r2 5 4 (.i0 4 [0,1] (.i0 9 [0,1] (.i2 10 (.i2 11 (.i0 12 [0,1] (.r2 13 3 .nil))))))))))
@[go_sem] def hi79_7:DT:=.i1 0 (.i1 1 (.i2 2 (.i0 3 [0,1] (.i2 4 (.i0 5 [0,1] (.r2 6 3 .nil))))))
def hi79:Hint where
 acts:=fun _=>[]
 draws:=fun
  | 7=>⟨hi79_7,[[],[0],[],[2],[2,3],[2,3,4],.range 6,.range 7,.range 8],.range 9⟩
  | 8=>⟨hi79_8,[[],[0],[],[],[2,3],[],[],[],[],[2,3,4,8],[2,3,4,7,8,9],[2,3,4,5,6,7,8,9,10],[2,3,4,5,6,7,8,9,10,11],.range 13,.range 14,.range 15],.range 16⟩
  | 11=>⟨hi79_11,[[],[0],[],[2],[2,3],[2,3,4],[2,3,4,5],.range 7,.range 8,.range 9],.range 10⟩
  | 12=>⟨hi79_12,[[],[0],[],[],[3],[],[],[],[7],[6,7,8],[2,3,4,5,6,7,8,9],[2,3,4,5,6,7,8,9,10],.range 12,.range 13,.range 14],.range 15⟩
  | _=>⟨.nil,[],[]⟩
theorem Nm (i:Nat):hi79.acts i=[]:=rfl
theorem Nn (i:Nat):hi79.views i=none:=rfl
attribute[go_sem] Nm Nn ntmps79 results79
@[go_sem] theorem Pr:(hi79.draws 7).order=hi79_7:=rfl
@[go_sem] theorem Ps:(hi79.draws 8).order=hi79_8:=rfl
@[go_sem] theorem OM:(hi79.draws 11).order=hi79_11:=rfl
@[go_sem] theorem ON:(hi79.draws 12).order=hi79_12:=rfl
instance k79 {v0:GL01Cur}:Ctr (gZ v0) (fun (res:GShow × GL01Cur)=>au prog 79 [.ptr 10000 0 0 0] [(10000,0,.var [.sl (ab (eK .u8) v0.b),.lit (.int .i64 v0.i),.lit (.int .i64 v0.h)])] (.agg [.ref 20000 1 0 res.1.nodes.length,.ref 20001 1 0 res.1.ties.length,.lit (.int .i64 res.1.horizon)]) [(10000,0,.var [.sl (ab (eK .u8) res.2.b),.lit (.int .i64 res.2.i),.lit (.int .i64 res.2.h)]),(20000,1,.row true (ab GNode.encO res.1.nodes)),(20001,1,.row true (ab GTie.enc res.1.ties))]):=⟨by
 intro res h0
 refine bq (ra:=[.homeCell 128 0,.homeCell 128 1]) (md:=mdT) hT (hi:=hi79) func79 rfl rfl (by decide +kernel) (by simp) ?_
 unfold gZ at h0
 obtain⟨r01,g0,h0⟩:=af h0
 simp(config:=cS)only[go_sem, *]
 have g0:=ctr g0
 refine ar g0 ?_
 obtain⟨r02,g0,h0⟩:=af h0
 simp(config:=cS)only[go_sem, *]
 have g0:=ctr g0
 refine ar g0 ?_
 obtain⟨q12,l0,h0⟩:=af h0
 simp(config:=cS)only[go_sem, *]
 refine aq (m1:=.mk) (m2:=.mk) [.homeCell 192 1,.nf [0,2,3,4] [10000,128,192,512,100012289]] (oe (IntKind.wrap .i64 (4+r01.1))) l0 ?_ ?_
 ·simp(config:=cS)only[go_sem, *]
 have k0:=h0
 clear h0 l0
 intro _ s0 _ h0 gb0
 obtain⟨n_1,h512_1,v0_0_1,v0_1_1,v0_2_1,h100012289_1⟩:=s0
 unfold fk at h0
 try dsimp only at h0
 obtain⟨_,h0⟩|⟨_,h0⟩:=itP h0
 ·obtain⟨r03,g0,h0⟩:=af h0
  simp(config:=cS)only[go_sem, *]
  have g0:=ctr g0
  refine ar g0 ?_
  obtain⟨r04,g0,h0⟩:=af h0
  simp(config:=cS)only[go_sem, *]
  have g0:=ctr g0
  refine ar g0 ?_
  obtain⟨_,h0⟩:=ckP h0
  obtain⟨_,h0⟩:=ckP h0
  obtain⟨r05,g0,h0⟩:=af h0
  simp(config:=cS)only[go_sem, *]
  have g0:=ctr g0
  refine ar g0 ?_
  obtain⟨r06,g0,h0⟩:=af h0
  simp(config:=cS)only[go_sem, *]
  have g0:=ctr g0
  refine ar g0 ?_
  obtain⟨_,h0⟩:=ckP h0
  obtain⟨_,h0⟩:=ckP h0
  obtain⟨r07,g0,h0⟩:=af h0
  simp(config:=cS)only[go_sem, *]
  have g0:=ctr g0
  refine ar g0 ?_
  obtain⟨_,h0⟩|⟨_,h0⟩:=itB h0
  ·obtain⟨_,h0⟩|⟨_,h0⟩:=itP h0
   ·obtain⟨r08,g0,h0⟩:=af h0
    simp(config:=cS)only[go_sem, *]
    have g0:=ctr g0
    refine ar g0 ?_
    obtain⟨r09,g0,h0⟩:=af h0
    simp(config:=cS)only[go_sem, *]
    have g0:=ctr g0
    refine ar g0 ?_
    obtain⟨a1,h0⟩:=ckP h0
    try simp(config:=cS)only[go_sem]at a1
    obtain⟨a2,h0⟩:=ckP h0
    try simp(config:=cS)only[go_sem]at a2
    obtain⟨r10,g0,h0⟩:=af h0
    simp(config:=cS)only[go_sem, *]
    have g0:=ctr g0
    refine ar g0 ?_
    obtain⟨a3,h0⟩:=ckP h0
    try simp(config:=cS)only[go_sem]at a3
    obtain⟨a4,h0⟩:=ckP h0
    try simp(config:=cS)only[go_sem]at a4
    exact run
   exact run
  exact run
 exact run⟩
instance k22 {code:List Int}:Ctr (gD code) (fun (res:GShow)=>au prog 22 [.sl (ab (eK .u8) code)] [] (.agg [.ref 20000 1 0 res.nodes.length,.ref 20001 1 0 res.ties.length,.lit (.int .i64 res.horizon)]) [(20000,1,.row true (ab GNode.encO res.nodes)),(20001,1,.row true (ab GTie.enc res.ties))]):=⟨by
 intro res h0
 refine bq (ra:=[.homeCell 128 0,.homeCell 128 1]) (md:=mdT) hT (hi:=hi00) func22 rfl rfl (by decide +kernel) (by simp) ?_
 unfold gD at h0
 exact run⟩
@[go_sem] def pV (s:ByteArray)(i:Int):St:=⟨[(0,.lit (.string s)),(3,.lit (.int .i64 i))],[],2⟩
@[go_sem] def hi220_4:DT:=.r2 0 22 .nil
def AD:Hint where
 acts:=fun _=>[]
 draws:=fun
  | 4=>⟨hi220_4,[[],[],[0,1],[0,1,2],[0,1,2,3],.range 5,.range 5,.range 7,.range 8,.range 9,[],[],[10,11],[10,11,12],[0,1,2,3,4,10,11,12,13],[0,1,2,3,4,10,11,12,13,14],[0,1,2,3,4,10,11,12,13,14],[0,1,2,3,4,10,11,12,13,14,15,16],[0,1,2,3,4,10,11,12,13,14,15,16,17],[0,1,2,3,4,10,11,12,13,14,15,16,17,18],.range 15,.range 21],[0,1,2,3,4,5,6,7,8,9,10,11,12,13,14,16,17,18,19,20,15,21]⟩
  | _=>⟨.nil,[],[]⟩
theorem LN (i:Nat):AD.acts i=[]:=rfl
theorem LO (i:Nat):AD.views i=none:=rfl
attribute[go_sem] LN LO ntmps220 results220
@[go_sem] theorem OO:(AD.draws 4).order=hi220_4:=rfl
instance k220 {s:ByteArray}:Ctr (iQ s) (fun (res:Bool)=>au prog 220 [.lit (.string s)] [] (.lit (.bool res)) []):=⟨by
 intro res h0
 refine co (hi:=AD) func220 rfl rfl ?_
 unfold iQ at h0
 obtain⟨q02,l0,h0⟩:=af h0
 simp(config:=cS)only[go_sem, *]
 refine aq (m1:=.mk) (m2:=.mk) [.nf [0,3] []] (pV s) l0 ?_ ?_
 ·simp(config:=cS)only[go_sem, *]
 have k0:=h0
 clear h0 l0
 intro _ i_1 _ h0 gb0
 unfold eO at h0
 try dsimp only at h0
 exact run⟩
instance k215 {l:Int}:Ctr (dw l) (fun (res:Int)=>au prog 215 [.lit (.int .i64 l)] [] (.lit (.int .i64 res)) []):=⟨by
 intro res h0
 refine co (hi:=hi00) func215 rfl rfl ?_
 unfold dw at h0
 exact run⟩
@[go_sem] def pg (l:List Int)(v6 v7:Int):St:=⟨[(0,.sl (ab eI l)),(5,.sl (ab eI l)),(6,.lit (.int .i64 v6)),(7,.lit (.int .i64 v7))],[],2⟩
instance k214 {l:List Int}:Ctr (dz l) (fun (res:Bool)=>au prog 214 [.sl (ab eI l)] [] (.lit (.bool res)) []):=⟨by
 intro res h0
 refine co (hi:=hi00) func214 rfl rfl ?_
 unfold dz at h0
 obtain⟨q05,l0,h0⟩:=af h0
 simp(config:=cS)only[go_sem, *]
 refine aq (m1:=.mk) (m2:=.mk) [.nf [0,5,6,7] []] (pg l (l.length:Int)) l0 ?_ ?_
 ·simp(config:=cS)only[go_sem, *]
 have k0:=h0
 clear h0 l0
 intro _ v7_1 _ h0 gb0
 unfold dY at h0
 try dsimp only at h0
 exact run⟩
instance k266 {n:GNode}:Ctr (iR n) (fun (res:Bool)=>au prog 266 [.agg (GNode.encS n)] [] (.lit (.bool res)) []):=⟨by
 intro res h0
 refine co (hi:=hi00) func266 rfl rfl ?_
 unfold iR at h0
 exact run⟩
@[go_sem] def og (v35:List GNode)(v36 v37:Int)(v48:List GNode)(v49:Int)(s_1:List GTie)(s_2:Int)(n_0:ByteArray)(n_1:List Int)(n_2 v50:Int):St:=⟨[(1,.ptr 64 1 0 0),(4,.ptr 256 1 0 0),(35,.sl (ab GNode.encS v35)),(36,.lit (.int .i64 v36)),(37,.lit (.int .i64 v37)),(48,.sl (ab GNode.encS v48)),(49,.lit (.int .i64 v49)),(50,.lit (.int .i64 v50))],[(64,1,.var [.sl (ab GNode.encS v35),.sl (ab GTie.enc s_1),.lit (.int .i64 s_2)]),(256,1,.var [.lit (.string n_0),.sl (ab eI n_1),.lit (.int .i64 n_2)])],2⟩
@[go_sem] def oh (v35:List GNode)(v36:Int)(s_1:List GTie)(s_2 v37:Int):St:=⟨[(1,.ptr 64 1 0 0),(35,.sl (ab GNode.encS v35)),(36,.lit (.int .i64 v36)),(37,.lit (.int .i64 v37))],[(64,1,.var [.sl (ab GNode.encS v35),.sl (ab GTie.enc s_1),.lit (.int .i64 s_2)])],2⟩
instance k189 {s:GShow}:Ctr (gU s) (fun (res:Bool)=>au prog 189 [.agg (GShow.encS s)] [] (.lit (.bool res)) []):=⟨by
 intro res h0
 refine co (hi:=hi00) func189 rfl rfl ?_
 unfold gU at h0
 obtain⟨_,h0⟩|⟨_,h0⟩:=itP h0
 ·exact run
 obtain⟨_,h0⟩|⟨_,h0⟩:=itP h0
 ·exact run
 obtain⟨x01,g1,h0⟩:=af h0
 have:=uo (k:=0) g1
 obtain⟨_,h0⟩|⟨_,h0⟩:=itP h0
 ·exact run
 obtain⟨_,h0⟩|⟨_,h0⟩:=itP h0
 ·obtain⟨q06,l0,h0⟩:=af h0
  simp(config:=cS)only[go_sem, *]
  refine aq (m1:=.mk) (m2:=.mk) [.nf [1,35,36,37] [64]] (oh s.nodes (s.nodes.length:Int) s.ties s.horizon) l0 ?_ ?_
  ·simp(config:=cS)only[go_sem, *]
  have k0:=h0
  clear h0 l0
  intro _ v37_1 _ h0 gb0
  unfold dB at h0
  try dsimp only at h0
  obtain⟨_,h0⟩|⟨_,h0⟩:=itP h0
  ·obtain⟨x02,_,_,_,h0⟩:=gtI h0
   obtain⟨r03,g0,h0⟩:=af h0
   simp(config:=cS)only[go_sem, *]
   have g0:=ctr g0
   refine ar g0 ?_
   obtain⟨_,h0⟩|⟨_,h0⟩:=itB h0
   ·obtain⟨_,h0⟩:=ckP h0
    obtain⟨_,h0⟩:=ckP h0
    obtain⟨q05,l0,h0⟩:=af h0
    simp(config:=cS)only[go_sem, *]
    refine aq (m1:=.mk) (m2:=.mk) [.nf [1,4,35,36,37,48,49,50] [64,256]] (og s.nodes (s.nodes.length:Int) v37_1 (s.nodes.take v37_1.toNat) (((s.nodes.take v37_1.toNat).length:Nat):Int) s.ties s.horizon x02.name x02.label x02.watch) l0 ?_ ?_
    ·simp(config:=cS)only[go_sem, *]
    have k0:=h0
    clear h0 l0
    intro _ v50_2 _ h0 gb0
    unfold dA at h0
    try dsimp only at h0
    exact run
   exact run
  exact run
 exact run⟩
instance k107 {n:Int} {node:Int}:Ctr (bK n node) (fun (res:Bool)=>au prog 107 [.lit (.int .i64 n),.lit (.int .i64 node)] [] (.lit (.bool res)) []):=⟨by
 intro res h0
 refine co (hi:=hi00) func107 rfl rfl ?_
 unfold bK at h0
 exact run⟩
instance k267 {n:Int}:Ctr (gL n) (fun (res:Bool)=>au prog 267 [.lit (.int .i64 n)] [] (.lit (.bool res)) []):=⟨by
 intro res h0
 refine co (hi:=hi00) func267 rfl rfl ?_
 unfold gL at h0
 exact run⟩
@[go_sem] def mU (v0 v1:List Int)(v12 v13:Int):St:=⟨[(0,.sl (ab eI v0)),(1,.sl (ab eI v1)),(12,.lit (.int .i64 v12)),(13,.lit (.int .i64 v13))],[],2⟩
@[go_sem] def hi268_6:DT:=.r2 0 9 .nil
def AE:Hint where
 acts:=fun _=>[]
 draws:=fun
  | 6=>⟨hi268_6,[[],[],[0,1],[0,1,2],[],[],[4,5],[4,5,6],.range 8],.range 9⟩
  | _=>⟨.nil,[],[]⟩
theorem LP (i:Nat):AE.acts i=[]:=rfl
theorem LQ (i:Nat):AE.views i=none:=rfl
attribute[go_sem] LP LQ ntmps268 results268
@[go_sem] theorem OP:(AE.draws 6).order=hi268_6:=rfl
instance k268 {v0:List Int} {v1:List Int}:Ctr (fg v0 v1) (fun (res:Bool)=>au prog 268 [.sl (ab eI v0),.sl (ab eI v1)] [] (.lit (.bool res)) []):=⟨by
 intro res h0
 refine co (hi:=AE) func268 rfl rfl ?_
 unfold fg at h0
 obtain⟨_,h0⟩|⟨_,h0⟩:=itP h0
 ·obtain⟨q03,l0,h0⟩:=af h0
  simp(config:=cS)only[go_sem, *]
  refine aq (m1:=.mk) (m2:=.mk) [.nf [0,1,12,13] []] (mU v0 v1 (v0.length:Int)) l0 ?_ ?_
  ·simp(config:=cS)only[go_sem, *]
  have k0:=h0
  clear h0 l0
  intro _ v13_1 _ h0 gb0
  unfold cN at h0
  try dsimp only at h0
  exact run
 exact run⟩
@[go_sem] def kZ (v0:List GTie)(f_v1:Nat)(k_v1:List AV)(v7 v8:Int):St:=⟨[(0,.sl (ab GTie.enc v0)),(1,.fn f_v1 k_v1),(7,.lit (.int .i64 v7)),(8,.lit (.int .i64 v8))],[],2⟩
theorem jM {v0:List GTie}{v1:GTie→Option Bool}{f_v1:Nat}{k_v1:List AV}(hp_v1:∀ y0 r,v1 y0=some r→au prog f_v1 ([.agg (GTie.enc y0)]++k_v1) [] (.lit (.bool r)) [])(hc_v1:KC k_v1)(hm_v1:∀ a,mdT f_v1 a=⟨[],false⟩)(hk_v1:spf f_v1=false){res:Int}(h:cE v0 v1=some res):au prog 187 [.sl (ab GTie.enc v0),.fn f_v1 k_v1] [] (.lit (.int .i64 res)) []:=by
 refine co (hi:=hi00) func187 rfl rfl ?_
 unfold cE at h
 obtain⟨q03,l1,h⟩:=af h
 simp(config:=cS)only[go_sem,hc_v1.1,hc_v1.2,hm_v1,hk_v1]
 refine aq (m1:=.mk) (m2:=.mk) [.nf [0,1,7,8] []] (kZ v0 f_v1 k_v1 (v0.length:Int)) l1 ?_ ?_
 ·simp(config:=cS)only[go_sem,hc_v1.1,hc_v1.2,hm_v1,hk_v1]
 intro nb2 v8_1 bb2 b2 gb2
 unfold bV at b2
 try dsimp only at b2
 obtain⟨h3,b2⟩|⟨h3,b2⟩:=dj b2
 ·obtain⟨x01,g4,b2⟩:=af b2
  obtain⟨h5,h6,h7⟩:=jk g4
  obtain⟨r02,g8,b2⟩:=af b2
  simp(config:=cS)only[go_sem,hc_v1.1,hc_v1.2,hm_v1,hk_v1,eqT h3,h5,h6,h7]
  refine ar (hp_v1 _ _ g8) ?_
  obtain⟨h9,b2⟩|⟨h9,b2⟩:=dj b2
  ·cases b2
   obtain rfl:=(aX gb2).symm
   try dsimp only at h
   cases h
   simp(config:=cS)only[go_sem,hc_v1.1,hc_v1.2,hm_v1,hk_v1,eqT h3,h5,h6,h7,eZt h9]
  cases b2
  simp(config:=cS)only[go_sem,hc_v1.1,hc_v1.2,hm_v1,hk_v1,eqT h3,h5,h6,h7,eZf h9]
  refine kY gb2 ?_
  simp(config:=cS)only[go_sem,hc_v1.1,hc_v1.2,hm_v1,hk_v1,eqT h3,h5,h6,h7,eZf h9]
 cases b2
 obtain rfl:=(aX gb2).symm
 try dsimp only at h
 cases h
 simp(config:=cS)only[go_sem,hc_v1.1,hc_v1.2,hm_v1,hk_v1,eqF h3]
theorem my {v0:List GTie}{v1:GTie→Option Bool}{f_v1:Nat}{k_v1:List AV}(hp_v1:∀ y0 r,v1 y0=some r→au prog f_v1 ([.agg (GTie.enc y0)]++k_v1) [] (.lit (.bool r)) [])(hc_v1:KC k_v1)(hm_v1:∀ a,mdT f_v1 a=⟨[],false⟩)(hk_v1:spf f_v1=false){res:Bool}(h:bW v0 v1=some res):au prog 224 [.sl (ab GTie.enc v0),.fn f_v1 k_v1] [] (.lit (.bool res)) []:=by
 refine co (hi:=hi00) func224 rfl rfl ?_
 unfold bW at h
 obtain⟨r01,g1,h⟩:=af h
 simp(config:=cS)only[go_sem,hc_v1.1,hc_v1.2,hm_v1,hk_v1]
 refine ar (jM hp_v1 hc_v1 hm_v1 hk_v1 g1) ?_
 cases h
 simp(config:=cS)only[go_sem,hc_v1.1,hc_v1.2,hm_v1,hk_v1]
instance k269 {u:GTie} {t:GTie}:Ctr (fI u t) (fun (res:Bool)=>au prog 269 [.agg (GTie.enc u),.loc [.lit (.int .i64 t.from_),.lit (.int .i64 t.to),.lit (.int .i64 t.low),.lit (.int .i64 t.high),.lit (.bool t.free)]] [] (.lit (.bool res)) []):=⟨by
 intro res h0
 refine co (hi:=hi00) func269 rfl rfl ?_
 unfold fI at h0
 exact run⟩
@[go_sem] def ph (v6:List GTie)(v7:Int)(s_0:List GNode)(s_2 v8:Int):St:=⟨[(1,.ptr 64 1 0 0),(6,.sl (ab GTie.enc v6)),(7,.lit (.int .i64 v7)),(8,.lit (.int .i64 v8))],[(64,1,.var [.sl (ab GNode.encS s_0),.sl (ab GTie.enc v6),.lit (.int .i64 s_2)])],2⟩
@[go_sem] def hi190_7:DT:=.r2 0 36 .nil
def AF:Hint where
 acts:=fun _=>[]
 draws:=fun
  | 7=>⟨hi190_7,[[],[0],[0,1],[0,1,2],[0,1,2,3],.range 5,.range 6,.range 7,.range 8,.range 9,.range 10,.range 9,[0,1,2,3,4,5,6,7,8,11],.range 13,.range 14,.range 15,.range 16,.range 17,.range 18,.range 19,.range 20,.range 19,[0,1,2,3,4,5,6,7,8,9,10,11,12,13,14,15,16,17,18,21],.range 23,.range 24,.range 25,.range 19,[0,1,2,3,4,5,6,7,8,9,10,11,12,13,14,15,16,17,18,26],.range 19,[0,1,2,3,4,5,6,7,8,9,10,11,12,13,14,15,16,17,18,28],[0,1,2,3,4,5,6,7,8,9,10,11,12,13,14,15,16,17,18,26,27,28,29],[0,1,2,3,4,5,6,7,8,9,10,11,12,13,14,15,16,17,18,26,27,28,29,30],[0,1,2,3,4,5,6,7,8,9,10,11,12,13,14,15,16,17,18,26,27,28,29,30,31],.range 33,.range 34,.range 35],.range 36⟩
  | _=>⟨.nil,[],[]⟩
theorem LR (i:Nat):AF.acts i=[]:=rfl
theorem LS (i:Nat):AF.views i=none:=rfl
attribute[go_sem] LR LS ntmps190 results190
@[go_sem] theorem OQ:(AF.draws 7).order=hi190_7:=rfl
instance k190 {s:GShow}:Ctr (ir s) (fun (res:Bool)=>au prog 190 [.agg (GShow.encS s)] [] (.lit (.bool res)) []):=⟨by
 intro res h0
 refine co (hi:=AF) func190 rfl rfl ?_
 unfold ir at h0
 obtain⟨q10,l0,h0⟩:=af h0
 simp(config:=cS)only[go_sem, *]
 refine aq (m1:=.mk) (m2:=.mk) [.nf [1,6,7,8] [64]] (ph s.ties (s.ties.length:Int) s.nodes s.horizon) l0 ?_ ?_
 ·simp(config:=cS)only[go_sem, *]
 have k0:=h0
 clear h0 l0
 intro _ v8_1 _ h0 gb0
 unfold dZ at h0
 try dsimp only at h0
 obtain⟨_,h0⟩|⟨_,h0⟩:=itP h0
 ·obtain⟨x01,_,_,_,h0⟩:=gtI h0
  obtain⟨r02,g0,h0⟩:=af h0
  simp(config:=cS)only[go_sem, *]
  have g0:=ctr g0
  refine ar g0 ?_
  obtain⟨_,h0⟩|⟨_,h0⟩:=itB h0
  ·obtain⟨r03,g0,h0⟩:=af h0
   simp(config:=cS)only[go_sem, *]
   have g0:=ctr g0
   refine ar g0 ?_
   obtain⟨_,h0⟩|⟨_,h0⟩:=itB h0
   ·obtain⟨_,h0⟩|⟨_,h0⟩:=itP h0
    ·exact run
    obtain⟨r04,g0,h0⟩:=af h0
    simp(config:=cS)only[go_sem, *]
    have g0:=ctr g0
    refine ar g0 ?_
    obtain⟨_,h0⟩|⟨_,h0⟩:=itB h0
    ·obtain⟨r05,g0,h0⟩:=af h0
     simp(config:=cS)only[go_sem, *]
     have g0:=ctr g0
     refine ar g0 ?_
     obtain⟨_,h0⟩|⟨_,h0⟩:=itB h0
     ·obtain⟨_,h0⟩|⟨_,h0⟩:=itP h0
      ·exact run
      obtain⟨_,h0⟩|⟨_,h0⟩:=itB h0
      ·obtain⟨_,h0⟩|⟨_,h0⟩:=itP h0
       ·exact run
       obtain⟨_,h0⟩|⟨_,h0⟩:=itP h0
       ·exact run
       obtain⟨x06,_,_,_,h0⟩:=gtI h0
       obtain⟨_,h0⟩|⟨_,h0⟩:=itP h0
       ·obtain⟨x07,_,_,_,h0⟩:=gtI h0
        obtain⟨r08,g0,h0⟩:=af h0
        simp(config:=cS)only[go_sem, *]
        have g0:=ctr g0
        refine ar g0 ?_
        obtain⟨_,h0⟩|⟨_,h0⟩:=itB h0
        ·obtain⟨_,h0⟩:=ckP h0
         obtain⟨_,h0⟩:=ckP h0
         obtain⟨r09,g0,h0⟩:=af h0
         simp(config:=cS)only[go_sem, *]
         refine ar (my (by exact fun _ _ hr=>by have q:=ctr hr;exact q) (by refine⟨fun _=>?_,fun _=>?_⟩ <;> simp only[go_sem]) (fun _=>rfl) rfl g0) ?_
         exact run
        exact run
       exact run
      exact run
     exact run
    exact run
   exact run
  exact run
 exact run⟩
@[go_sem] def lb (v0:List Int)(f_v1:Nat)(k_v1:List AV)(v7 v8:Int):St:=⟨[(0,.sl (ab eI v0)),(1,.fn f_v1 k_v1),(7,.lit (.int .i64 v7)),(8,.lit (.int .i64 v8))],[],2⟩
theorem nO {v0:List Int}{v1:Int→Option Bool}{f_v1:Nat}{k_v1:List AV}(hp_v1:∀ y0 r,v1 y0=some r→au prog f_v1 ([.lit (.int .i64 y0)]++k_v1) [] (.lit (.bool r)) [])(hc_v1:KC k_v1)(hm_v1:∀ a,mdT f_v1 a=⟨[],false⟩)(hk_v1:spf f_v1=false){res:Int}(h:dt v0 v1=some res):au prog 223 [.sl (ab eI v0),.fn f_v1 k_v1] [] (.lit (.int .i64 res)) []:=by
 refine co (hi:=hi00) func223 rfl rfl ?_
 unfold dt at h
 obtain⟨q03,l1,h⟩:=af h
 simp(config:=cS)only[go_sem,hc_v1.1,hc_v1.2,hm_v1,hk_v1]
 refine aq (m1:=.mk) (m2:=.mk) [.nf [0,1,7,8] []] (lb v0 f_v1 k_v1 (v0.length:Int)) l1 ?_ ?_
 ·simp(config:=cS)only[go_sem,hc_v1.1,hc_v1.2,hm_v1,hk_v1]
 intro nb2 v8_1 bb2 b2 gb2
 unfold bX at b2
 try dsimp only at b2
 obtain⟨h3,b2⟩|⟨h3,b2⟩:=dj b2
 ·obtain⟨x01,g4,b2⟩:=af b2
  obtain⟨h5,h6,h7⟩:=jk g4
  obtain⟨r02,g8,b2⟩:=af b2
  simp(config:=cS)only[go_sem,hc_v1.1,hc_v1.2,hm_v1,hk_v1,eqT h3,h5,h6,h7]
  refine ar (hp_v1 _ _ g8) ?_
  obtain⟨h9,b2⟩|⟨h9,b2⟩:=dj b2
  ·cases b2
   obtain rfl:=(aX gb2).symm
   try dsimp only at h
   cases h
   simp(config:=cS)only[go_sem,hc_v1.1,hc_v1.2,hm_v1,hk_v1,eqT h3,h5,h6,h7,eZt h9]
  cases b2
  simp(config:=cS)only[go_sem,hc_v1.1,hc_v1.2,hm_v1,hk_v1,eqT h3,h5,h6,h7,eZf h9]
  refine kY gb2 ?_
  simp(config:=cS)only[go_sem,hc_v1.1,hc_v1.2,hm_v1,hk_v1,eqT h3,h5,h6,h7,eZf h9]
 cases b2
 obtain rfl:=(aX gb2).symm
 try dsimp only at h
 cases h
 simp(config:=cS)only[go_sem,hc_v1.1,hc_v1.2,hm_v1,hk_v1,eqF h3]
theorem dJ {v0:List Int}{v1:Int→Option Bool}{f_v1:Nat}{k_v1:List AV}(hp_v1:∀ y0 r,v1 y0=some r→au prog f_v1 ([.lit (.int .i64 y0)]++k_v1) [] (.lit (.bool r)) [])(hc_v1:KC k_v1)(hm_v1:∀ a,mdT f_v1 a=⟨[],false⟩)(hk_v1:spf f_v1=false){res:Bool}(h:aY v0 v1=some res):au prog 124 [.sl (ab eI v0),.fn f_v1 k_v1] [] (.lit (.bool res)) []:=by
 refine co (hi:=hi00) func124 rfl rfl ?_
 unfold aY at h
 obtain⟨r01,g1,h⟩:=af h
 simp(config:=cS)only[go_sem,hc_v1.1,hc_v1.2,hm_v1,hk_v1]
 refine ar (nO hp_v1 hc_v1 hm_v1 hk_v1 g1) ?_
 cases h
 simp(config:=cS)only[go_sem,hc_v1.1,hc_v1.2,hm_v1,hk_v1]
@[go_sem] def kO (v0:List GNode)(f_v1:Nat)(k_v1:List AV)(v7 v8:Int):St:=⟨[(0,.sl (ab GNode.encS v0)),(1,.fn f_v1 k_v1),(7,.lit (.int .i64 v7)),(8,.lit (.int .i64 v8))],[],2⟩
theorem ng {v0:List GNode}{v1:GNode→Option Bool}{f_v1:Nat}{k_v1:List AV}(hp_v1:∀ y0 r,v1 y0=some r→au prog f_v1 ([.agg (GNode.encS y0)]++k_v1) [] (.lit (.bool r)) [])(hc_v1:KC k_v1)(hm_v1:∀ a,mdT f_v1 a=⟨[],false⟩)(hk_v1:spf f_v1=false){res:Int}(h:df v0 v1=some res):au prog 193 [.sl (ab GNode.encS v0),.fn f_v1 k_v1] [] (.lit (.int .i64 res)) []:=by
 refine co (hi:=hi00) func193 rfl rfl ?_
 unfold df at h
 obtain⟨q03,l1,h⟩:=af h
 simp(config:=cS)only[go_sem,hc_v1.1,hc_v1.2,hm_v1,hk_v1]
 refine aq (m1:=.mk) (m2:=.mk) [.nf [0,1,7,8] []] (kO v0 f_v1 k_v1 (v0.length:Int)) l1 ?_ ?_
 ·simp(config:=cS)only[go_sem,hc_v1.1,hc_v1.2,hm_v1,hk_v1]
 intro nb2 v8_1 bb2 b2 gb2
 unfold bL at b2
 try dsimp only at b2
 obtain⟨h3,b2⟩|⟨h3,b2⟩:=dj b2
 ·obtain⟨x01,g4,b2⟩:=af b2
  obtain⟨h5,h6,h7⟩:=jk g4
  obtain⟨r02,g8,b2⟩:=af b2
  simp(config:=cS)only[go_sem,hc_v1.1,hc_v1.2,hm_v1,hk_v1,eqT h3,h5,h6,h7]
  refine ar (hp_v1 _ _ g8) ?_
  obtain⟨h9,b2⟩|⟨h9,b2⟩:=dj b2
  ·cases b2
   obtain rfl:=(aX gb2).symm
   try dsimp only at h
   cases h
   simp(config:=cS)only[go_sem,hc_v1.1,hc_v1.2,hm_v1,hk_v1,eqT h3,h5,h6,h7,eZt h9]
  cases b2
  simp(config:=cS)only[go_sem,hc_v1.1,hc_v1.2,hm_v1,hk_v1,eqT h3,h5,h6,h7,eZf h9]
  refine kY gb2 ?_
  simp(config:=cS)only[go_sem,hc_v1.1,hc_v1.2,hm_v1,hk_v1,eqT h3,h5,h6,h7,eZf h9]
 cases b2
 obtain rfl:=(aX gb2).symm
 try dsimp only at h
 cases h
 simp(config:=cS)only[go_sem,hc_v1.1,hc_v1.2,hm_v1,hk_v1,eqF h3]
instance k194 {n:GNode} {p:Int}:Ctr (ii n p) (fun (res:Bool)=>au prog 194 [.agg (GNode.encS n),.loc [.lit (.int .i64 p)]] [] (.lit (.bool res)) []):=⟨by
 intro res h0
 refine co (hi:=hi00) func194 rfl rfl ?_
 unfold ii at h0
 exact run⟩
instance k88 {s:GShow} {p:Int}:Ctr (bM s p) (fun (res:Int)=>au prog 88 [.agg (GShow.encS s),.lit (.int .i64 p)] [] (.lit (.int .i64 res)) []):=⟨by
 intro res h0
 refine co (hi:=hi00) func88 rfl rfl ?_
 unfold bM at h0
 obtain⟨r01,g0,h0⟩:=af h0
 simp(config:=cS)only[go_sem, *]
 refine ar (ng (by exact fun _ _ hr=>by have q:=ctr hr;exact q) (by refine⟨fun _=>?_,fun _=>?_⟩ <;> simp only[go_sem]) (fun _=>rfl) rfl g0) ?_
 exact run⟩
@[go_sem] def mV (v0:List Int)(v1 v7 v8:Int):St:=⟨[(0,.sl (ab eI v0)),(1,.lit (.int .i64 v1)),(7,.lit (.int .i64 v7)),(8,.lit (.int .i64 v8))],[],2⟩
instance k93 {v0:List Int} {v1:Int}:Ctr (cU v0 v1) (fun (res:Int)=>au prog 93 [.sl (ab eI v0),.lit (.int .i64 v1)] [] (.lit (.int .i64 res)) []):=⟨by
 intro res h0
 refine co (hi:=hi00) func93 rfl rfl ?_
 unfold cU at h0
 obtain⟨q02,l0,h0⟩:=af h0
 simp(config:=cS)only[go_sem, *]
 refine aq (m1:=.mk) (m2:=.mk) [.nf [0,1,7,8] []] (mV v0 v1 (v0.length:Int)) l0 ?_ ?_
 ·simp(config:=cS)only[go_sem, *]
 have k0:=h0
 clear h0 l0
 intro _ v8_1 _ h0 gb0
 unfold cO at h0
 try dsimp only at h0
 exact run⟩
instance k195 {v0:List Int} {v1:Int}:Ctr (aP v0 v1) (fun (res:Bool)=>au prog 195 [.sl (ab eI v0),.lit (.int .i64 v1)] [] (.lit (.bool res)) []):=⟨by
 intro res h0
 refine co (hi:=hi00) func195 rfl rfl ?_
 unfold aP at h0
 exact run⟩
instance k311 {v0:Int} {a:List Int}:Ctr (eW v0 a) (fun (res:Bool)=>au prog 311 [.lit (.int .i64 v0),.loc [.sl (ab eI a)]] [] (.lit (.bool res)) []):=⟨by
 intro res h0
 refine co (hi:=hi00) func311 rfl rfl ?_
 unfold eW at h0
 exact run⟩
instance k270 {a:List Int} {b:List Int}:Ctr (eC a b) (fun (res:Bool)=>au prog 270 [.sl (ab eI a),.sl (ab eI b)] [] (.lit (.bool res)) []):=⟨by
 intro res h0
 refine co (hi:=hi00) func270 rfl rfl ?_
 unfold eC at h0
 obtain⟨r01,g0,h0⟩:=af h0
 simp(config:=cS)only[go_sem, *]
 have g0:=ctr g0
 refine ar g0 ?_
 obtain⟨_,h0⟩|⟨_,h0⟩:=itB h0
 ·obtain⟨r02,g0,h0⟩:=af h0
  simp(config:=cS)only[go_sem, *]
  have g0:=ctr g0
  refine ar g0 ?_
  obtain⟨_,h0⟩|⟨_,h0⟩:=itB h0
  ·obtain⟨r03,g0,h0⟩:=af h0
   simp(config:=cS)only[go_sem, *]
   refine ar (dJ (by exact fun _ _ hr=>by have q:=ctr hr;exact q) (by refine⟨fun _=>?_,fun _=>?_⟩ <;> simp only[go_sem]) (fun _=>rfl) rfl g0) ?_
   exact run
  exact run
 exact run⟩
@[go_sem] def hi192_1:DT:=.i1 0 (.i2 1 (.i0 2 [0] (.i2 3 (.i2 4 .nil))))
def AG:Hint where
 acts:=fun _=>[]
 draws:=fun
  | 1=>⟨hi192_1,[[],[],[1],[0,1,2],[0,1,2,3]],.range 5⟩
  | _=>⟨.nil,[],[]⟩
theorem LT (i:Nat):AG.acts i=[]:=rfl
theorem LU (i:Nat):AG.views i=none:=rfl
attribute[go_sem] LT LU ntmps192 results192
@[go_sem] theorem OR:(AG.draws 1).order=hi192_1:=rfl
instance k192 {s:GShow} {label:List Int} {v2:Int}:Ctr (gA s label v2) (fun (res:Bool)=>au prog 192 [.agg (GShow.encS s),.sl (ab eI label),.lit (.int .i64 v2)] [] (.lit (.bool res)) []):=⟨by
 intro res h0
 refine co (hi:=AG) func192 rfl rfl ?_
 unfold gA at h0
 exact run⟩
instance k191 {v0:Int} {s:GShow} {n:GNode}:Ctr (gB v0 s n) (fun (res:Bool)=>au prog 191 [.lit (.int .i64 v0),.loc [.sl (ab GNode.encS s.nodes),.sl (ab GTie.enc s.ties),.lit (.int .i64 s.horizon)],.loc [.lit (.string n.name),.sl (ab eI n.label),.lit (.int .i64 n.watch)]] [] (.lit (.bool res)) []):=⟨by
 intro res h0
 refine co (hi:=hi00) func191 rfl rfl ?_
 unfold gB at h0
 exact run⟩
@[go_sem] def pW (v24:List GNode)(v25:Int)(s_1:List GTie)(s_2 v26:Int):St:=⟨[(1,.ptr 64 1 0 0),(24,.sl (ab GNode.encS v24)),(25,.lit (.int .i64 v25)),(26,.lit (.int .i64 v26))],[(64,1,.var [.sl (ab GNode.encS v24),.sl (ab GTie.enc s_1),.lit (.int .i64 s_2)])],2⟩
instance k86 {s:GShow}:Ctr (fD s) (fun (res:Bool)=>au prog 86 [.agg (GShow.encS s)] [] (.lit (.bool res)) []):=⟨by
 intro res h0
 refine co (hi:=hi00) func86 rfl rfl ?_
 unfold fD at h0
 obtain⟨r01,g0,h0⟩:=af h0
 simp(config:=cS)only[go_sem, *]
 have g0:=ctr g0
 refine ar g0 ?_
 obtain⟨_,h0⟩|⟨_,h0⟩:=itB h0
 ·obtain⟨r02,g0,h0⟩:=af h0
  simp(config:=cS)only[go_sem, *]
  have g0:=ctr g0
  refine ar g0 ?_
  obtain⟨_,h0⟩|⟨_,h0⟩:=itB h0
  ·obtain⟨_,h0⟩|⟨_,h0⟩:=itP h0
   ·exact run
   obtain⟨_,h0⟩|⟨_,h0⟩:=itP h0
   ·exact run
   obtain⟨q05,l0,h0⟩:=af h0
   simp(config:=cS)only[go_sem, *]
   refine aq (m1:=.mk) (m2:=.mk) [.nf [1,24,25,26] [64]] (pW s.nodes (s.nodes.length:Int) s.ties s.horizon) l0 ?_ ?_
   ·simp(config:=cS)only[go_sem, *]
   have k0:=h0
   clear h0 l0
   intro _ v26_1 _ h0 gb0
   unfold eP at h0
   try dsimp only at h0
   obtain⟨_,h0⟩|⟨_,h0⟩:=itP h0
   ·obtain⟨x03,_,_,_,h0⟩:=gtI h0
    obtain⟨r04,g0,h0⟩:=af h0
    simp(config:=cS)only[go_sem, *]
    refine ar (dJ (by exact fun _ _ hr=>by have q:=ctr hr;exact q) (by refine⟨fun _=>?_,fun _=>?_⟩ <;> simp only[go_sem]) (fun _=>rfl) rfl g0) ?_
    exact run
   exact run
  exact run
 exact run⟩
instance k188 {t:GTie} {node:Int}:Ctr (ij t node) (fun (res:Bool)=>au prog 188 [.agg (GTie.enc t),.loc [.lit (.int .i64 node)]] [] (.lit (.bool res)) []):=⟨by
 intro res h0
 refine co (hi:=hi00) func188 rfl rfl ?_
 unfold ij at h0
 exact run⟩
instance k83 {s:GShow} {node:Int}:Ctr (eR s node) (fun (res:Int)=>au prog 83 [.agg (GShow.encS s),.lit (.int .i64 node)] [] (.lit (.int .i64 res)) []):=⟨by
 intro res h0
 refine co (hi:=hi00) func83 rfl rfl ?_
 unfold eR at h0
 obtain⟨r01,g0,h0⟩:=af h0
 simp(config:=cS)only[go_sem, *]
 refine ar (jM (by exact fun _ _ hr=>by have q:=ctr hr;exact q) (by refine⟨fun _=>?_,fun _=>?_⟩ <;> simp only[go_sem]) (fun _=>rfl) rfl g0) ?_
 exact run⟩
@[go_sem] def pi (s_0:List GNode)(s_1:List GTie)(s_2:Int):(Int × (List Int))→St
 | (node,chain)=>⟨[(1,.lit (.int .i64 node)),(2,.ptr 128 1 0 0),(6,.ref 447 1 0 chain.length)],[(128,1,.var [.sl (ab GNode.encS s_0),.sl (ab GTie.enc s_1),.lit (.int .i64 s_2)]),(447,1,.row true (ab eI chain))],2⟩
@[go_sem] def hi92_7:DT:=.i2 0 (.i2 1 (.i1 4 (.i1 5 (.i2 6 (.i1 7 (.i1 8 (.i1 9 (.i0 2 [4,5,7,8,9] (.i0 3 [4,5,7,8,9] (.i2 10 (.i2 11 .nil)))))))))))
def hi92:Hint where
 acts:=fun _=>[]
 draws:=fun
  | 7=>⟨hi92_7,[[],[],[1],[0,1,2],[],[4],[],[4,5,6],[4,5,6,7],[4,5,6,7,8],[0,1,2,3],.range 11],[0,1,2,3,5,6,7,8,9,10,4,11]⟩
  | _=>⟨.nil,[],[]⟩
theorem No (i:Nat):hi92.acts i=[]:=rfl
theorem Np (i:Nat):hi92.views i=none:=rfl
attribute[go_sem] No Np ntmps92 results92
@[go_sem] theorem Pt:(hi92.draws 7).order=hi92_7:=rfl
instance k92 {s:GShow} {node:Int}:Ctr (aQ s node) (fun (res:Int × (List Int))=>au prog 92 [.agg (GShow.encS s),.lit (.int .i64 node)] [] (.tup [.lit (.int .i64 res.1),.ref 20000 1 0 res.2.length]) [(20000,1,.row true (ab eI res.2))]):=⟨by
 intro res h0
 refine bq (ra:=[.home 5]) (md:=mdT) hT (hi:=hi92) func92 rfl rfl (by decide +kernel) (by simp) ?_
 unfold aQ at h0
 obtain⟨q04,l0,h0⟩:=af h0
 simp(config:=cS)only[go_sem, *]
 refine aq (m1:=.mk) (m2:=.mk) [.home 6,.nf [1,2,6] [128,447]] (pi s.nodes s.ties s.horizon) l0 ?_ ?_
 ·simp(config:=cS)only[go_sem, *]
 have k0:=h0
 clear h0 l0
 intro _ s0 _ h0 gb0
 obtain⟨node_1,chain_1⟩:=s0
 unfold aM at h0
 try dsimp only at h0
 exact run⟩
@[go_sem] def pj (v11:List GNode)(v12:Int)(s_1:List GTie)(s_2 v13:Int):St:=⟨[(1,.ptr 64 1 0 0),(11,.sl (ab GNode.encS v11)),(12,.lit (.int .i64 v12)),(13,.lit (.int .i64 v13))],[(64,1,.var [.sl (ab GNode.encS v11),.sl (ab GTie.enc s_1),.lit (.int .i64 s_2)])],2⟩
instance k91 {s:GShow}:Ctr (gq s) (fun (res:Bool)=>au prog 91 [.agg (GShow.encS s)] [] (.lit (.bool res)) []):=⟨by
 intro res h0
 refine co (hi:=hi00) func91 rfl rfl ?_
 unfold gq at h0
 obtain⟨r01,g0,h0⟩:=af h0
 simp(config:=cS)only[go_sem, *]
 have g0:=ctr g0
 refine ar g0 ?_
 obtain⟨_,h0⟩|⟨_,h0⟩:=itB h0
 ·obtain⟨q04,l0,h0⟩:=af h0
  simp(config:=cS)only[go_sem, *]
  refine aq (m1:=.mk) (m2:=.mk) [.nf [1,11,12,13] [64]] (pj s.nodes (s.nodes.length:Int) s.ties s.horizon) l0 ?_ ?_
  ·simp(config:=cS)only[go_sem, *]
  have k0:=h0
  clear h0 l0
  intro _ v13_1 _ h0 gb0
  unfold eg at h0
  try dsimp only at h0
  exact run
 exact run⟩
@[go_sem] def pk (but v12:List Int)(v13:Int)(s_0:List GNode)(s_1:List GTie)(s_2:Int):(Int × Int × Int)→St
 | (low,high,v14)=>⟨[(2,.sl (ab eI but)),(3,.ptr 192 1 0 0),(8,.lit (.int .i64 low)),(9,.lit (.int .i64 high)),(12,.sl (ab eI v12)),(13,.lit (.int .i64 v13)),(14,.lit (.int .i64 v14))],[(192,1,.var [.sl (ab GNode.encS s_0),.sl (ab GTie.enc s_1),.lit (.int .i64 s_2)])],2⟩
@[go_sem] def hi184_6:DT:=.r2 0 18 .nil
def AH:Hint where
 acts:=fun _=>[]
 draws:=fun
  | 6=>⟨hi184_6,[[],[],[1],[],[1,2,3],[1,2,3,4],[1,2,3,4,5],.range 7,[],[],[9],[],[9,10,11],[9,10,11,12],[9,10,11,12,13],[8,9,10,11,12,13,14],.range 8,.range 17],[0,1,2,3,4,5,6,7,9,10,11,12,13,14,15,16,8,17]⟩
  | _=>⟨.nil,[],[]⟩
theorem LV (i:Nat):AH.acts i=[]:=rfl
theorem LW (i:Nat):AH.views i=none:=rfl
attribute[go_sem] LV LW ntmps184 results184
@[go_sem] theorem OT:(AH.draws 6).order=hi184_6:=rfl
instance k184 {s:GShow} {ties:List Int} {but:List Int}:Ctr (eT s ties but) (fun (res:Int × Int)=>au prog 184 [.agg (GShow.encS s),.sl (ab eI ties),.sl (ab eI but)] [] (.tup [.lit (.int .i64 res.1),.lit (.int .i64 res.2)]) []):=⟨by
 intro res h0
 refine co (hi:=AH) func184 rfl rfl ?_
 unfold eT at h0
 obtain⟨q04,l0,h0⟩:=af h0
 simp(config:=cS)only[go_sem, *]
 refine aq (m1:=.mk) (m2:=.mk) [.nf [2,3,8,9,12,13,14] [192]] (pk but ties (ties.length:Int) s.nodes s.ties s.horizon) l0 ?_ ?_
 ·simp(config:=cS)only[go_sem, *]
 have k0:=h0
 clear h0 l0
 intro _ s0 _ h0 gb0
 obtain⟨low_1,high_1,v14_1⟩:=s0
 unfold eh at h0
 try dsimp only at h0
 exact run⟩
@[go_sem] def kP (v0:List GLink)(f_v1:Nat)(k_v1:List AV)(v7 v8:Int):St:=⟨[(0,.sl (ab GLink.enc v0)),(1,.fn f_v1 k_v1),(7,.lit (.int .i64 v7)),(8,.lit (.int .i64 v8))],[],2⟩
theorem jG {v0:List GLink}{v1:GLink→Option Bool}{f_v1:Nat}{k_v1:List AV}(hp_v1:∀ y0 r,v1 y0=some r→au prog f_v1 ([.agg (GLink.enc y0)]++k_v1) [] (.lit (.bool r)) [])(hc_v1:KC k_v1)(hm_v1:∀ a,mdT f_v1 a=⟨[],false⟩)(hk_v1:spf f_v1=false){res:Int}(h:cp v0 v1=some res):au prog 272 [.sl (ab GLink.enc v0),.fn f_v1 k_v1] [] (.lit (.int .i64 res)) []:=by
 refine co (hi:=hi00) func272 rfl rfl ?_
 unfold cp at h
 obtain⟨q03,l1,h⟩:=af h
 simp(config:=cS)only[go_sem,hc_v1.1,hc_v1.2,hm_v1,hk_v1]
 refine aq (m1:=.mk) (m2:=.mk) [.nf [0,1,7,8] []] (kP v0 f_v1 k_v1 (v0.length:Int)) l1 ?_ ?_
 ·simp(config:=cS)only[go_sem,hc_v1.1,hc_v1.2,hm_v1,hk_v1]
 intro nb2 v8_1 bb2 b2 gb2
 unfold bN at b2
 try dsimp only at b2
 obtain⟨h3,b2⟩|⟨h3,b2⟩:=dj b2
 ·obtain⟨x01,g4,b2⟩:=af b2
  obtain⟨h5,h6,h7⟩:=jk g4
  obtain⟨r02,g8,b2⟩:=af b2
  simp(config:=cS)only[go_sem,hc_v1.1,hc_v1.2,hm_v1,hk_v1,eqT h3,h5,h6,h7]
  refine ar (hp_v1 _ _ g8) ?_
  obtain⟨h9,b2⟩|⟨h9,b2⟩:=dj b2
  ·cases b2
   obtain rfl:=(aX gb2).symm
   try dsimp only at h
   cases h
   simp(config:=cS)only[go_sem,hc_v1.1,hc_v1.2,hm_v1,hk_v1,eqT h3,h5,h6,h7,eZt h9]
  cases b2
  simp(config:=cS)only[go_sem,hc_v1.1,hc_v1.2,hm_v1,hk_v1,eqT h3,h5,h6,h7,eZf h9]
  refine kY gb2 ?_
  simp(config:=cS)only[go_sem,hc_v1.1,hc_v1.2,hm_v1,hk_v1,eqT h3,h5,h6,h7,eZf h9]
 cases b2
 obtain rfl:=(aX gb2).symm
 try dsimp only at h
 cases h
 simp(config:=cS)only[go_sem,hc_v1.1,hc_v1.2,hm_v1,hk_v1,eqF h3]
theorem lR {v0:List GLink}{v1:GLink→Option Bool}{f_v1:Nat}{k_v1:List AV}(hp_v1:∀ y0 r,v1 y0=some r→au prog f_v1 ([.agg (GLink.enc y0)]++k_v1) [] (.lit (.bool r)) [])(hc_v1:KC k_v1)(hm_v1:∀ a,mdT f_v1 a=⟨[],false⟩)(hk_v1:spf f_v1=false){res:Bool}(h:cB v0 v1=some res):au prog 254 [.sl (ab GLink.enc v0),.fn f_v1 k_v1] [] (.lit (.bool res)) []:=by
 refine co (hi:=hi00) func254 rfl rfl ?_
 unfold cB at h
 obtain⟨r01,g1,h⟩:=af h
 simp(config:=cS)only[go_sem,hc_v1.1,hc_v1.2,hm_v1,hk_v1]
 refine ar (jG hp_v1 hc_v1 hm_v1 hk_v1 g1) ?_
 cases h
 simp(config:=cS)only[go_sem,hc_v1.1,hc_v1.2,hm_v1,hk_v1]
instance k177 {i:aw}:Ctr (dl i) (fun (res:Bool)=>au prog 177 [.agg [.lit (.int .i64 i.low),.lit (.int .i64 i.high)]] [] (.lit (.bool res)) []):=⟨by
 intro res h0
 refine co (hi:=hi00) func177 rfl rfl ?_
 unfold dl at h0
 exact run⟩
instance k255 {l:GLink} {s:GSimple}:Ctr (fi l s) (fun (res:Bool)=>au prog 255 [.agg (GLink.enc l),.loc [.lit (.int .i64 s.events),.sl (ab GLink.enc s.links)]] [] (.lit (.bool res)) []):=⟨by
 intro res h0
 refine co (hi:=hi00) func255 rfl rfl ?_
 unfold fi at h0
 exact run⟩
instance k172 {s:GSimple}:Ctr (cg s) (fun (res:Bool)=>au prog 172 [.agg [.lit (.int .i64 s.events),.sl (ab GLink.enc s.links)]] [] (.lit (.bool res)) []):=⟨by
 intro res h0
 refine co (hi:=hi00) func172 rfl rfl ?_
 unfold cg at h0
 obtain⟨_,h0⟩|⟨_,h0⟩:=itP h0
 ·exact run
 obtain⟨_,h0⟩|⟨_,h0⟩:=itP h0
 ·exact run
 obtain⟨_,h0⟩|⟨_,h0⟩:=itP h0
 ·exact run
 obtain⟨r01,g0,h0⟩:=af h0
 simp(config:=cS)only[go_sem, *]
 refine ar (lR (by exact fun _ _ hr=>by have q:=ctr hr;exact q) (by refine⟨fun _=>?_,fun _=>?_⟩ <;> simp only[go_sem]) (fun _=>rfl) rfl g0) ?_
 exact run⟩
@[go_sem] def lS (v31:Int)(s_0:List GNode)(s_1:List GTie)(s_2:Int):(Int × (List GLink))→St
 | (v32,h100016385)=>⟨[(1,.ptr 64 1 0 0),(2,.ptr 128 1 0 0),(4,.ptr 256 1 0 0),(31,.lit (.int .i64 v31)),(32,.lit (.int .i64 v32))],[(64,1,.var [.sl (ab GNode.encS s_0),.sl (ab GTie.enc s_1),.lit (.int .i64 s_2)]),(128,1,.var [.lit (.int .i64 0),.lit (.slice none 0 0)]),(256,1,.var [.lit (.int .i64 v31),.ref 100016385 1 0 h100016385.length]),(100016385,1,.row true (ab GLink.enc h100016385))],2⟩
@[go_sem] def lT (v63:List GTie)(v64:Int)(s_0:List GNode)(s_2 out_0:Int):(Int × (List GLink))→St
 | (v65,h100016385)=>⟨[(1,.ptr 64 1 0 0),(2,.ptr 128 1 0 0),(4,.ptr 256 1 0 0),(63,.sl (ab GTie.enc v63)),(64,.lit (.int .i64 v64)),(65,.lit (.int .i64 v65))],[(64,1,.var [.sl (ab GNode.encS s_0),.sl (ab GTie.enc v63),.lit (.int .i64 s_2)]),(128,1,.var [.lit (.int .i64 0),.lit (.slice none 0 0)]),(256,1,.var [.lit (.int .i64 out_0),.ref 100016385 1 0 h100016385.length]),(100016385,1,.row true (ab GLink.enc h100016385))],2⟩
@[go_sem] def lU (v123:Int)(s_0:List GNode)(s_1:List GTie)(s_2:Int):(Int × (List GLink))→St
 | (v124,h100016385)=>⟨[(1,.ptr 64 1 0 0),(2,.ptr 128 1 0 0),(4,.ptr 256 1 0 0),(123,.lit (.int .i64 v123)),(124,.lit (.int .i64 v124))],[(64,1,.var [.sl (ab GNode.encS s_0),.sl (ab GTie.enc s_1),.lit (.int .i64 s_2)]),(128,1,.var [.lit (.int .i64 0),.lit (.slice none 0 0)]),(256,1,.var [.lit (.int .i64 v123),.ref 100016385 1 0 h100016385.length]),(100016385,1,.row true (ab GLink.enc h100016385))],2⟩
instance k81 {s:GShow}:Ctr (dT s) (fun (res:GSimple × Bool)=>au prog 81 [.agg (GShow.encS s)] [] (.tup [.agg [.lit (.int .i64 res.1.events),.ref 20000 1 0 res.1.links.length],.lit (.bool res.2)]) [(20000,1,.row true (ab GLink.enc res.1.links))]):=⟨by
 intro res h0
 refine bq (ra:=[.homeCell 128 1]) (md:=mdT) hT (hi:=hi00) func81 rfl rfl (by decide +kernel) (by simp) ?_
 unfold dT at h0
 obtain⟨r01,g0,h0⟩:=af h0
 simp(config:=cS)only[go_sem, *]
 have g0:=ctr g0
 refine ar g0 ?_
 obtain⟨_,h0⟩|⟨_,h0⟩:=itB h0
 ·obtain⟨q13,l0,h0⟩:=af h0
  simp(config:=cS)only[go_sem, *]
  refine aq (m1:=.mk) (m2:=.mk) [.homeCell 256 1,.nf [1,2,4,31,32] [64,128,256,100016385]] (lS (s.nodes.length:Int) s.nodes s.ties s.horizon) l0 ?_ ?_
  ·simp(config:=cS)only[go_sem, *]
  have k0:=h0
  clear h0 l0
  intro _ s0 _ h0 gb0
  obtain⟨v32_1,h100016385_1⟩:=s0
  unfold cq at h0
  try dsimp only at h0
  obtain⟨_,h0⟩|⟨_,h0⟩:=itP h0
  ·exact run
  cases h0
  obtain rfl:=(aX gb0).symm
  clear gb0
  have h0:=k0
  clear k0
  try dsimp only at h0
  obtain⟨q12,l0,h0⟩:=af h0
  simp(config:=cS)only[go_sem, *]
  refine aq (m1:=.mk) (m2:=.mk) [.nf [1,2,4,63,64,65] [64,128,256,100016385]] (lT s.ties (s.ties.length:Int) s.nodes s.horizon (s.nodes.length:Int)) l0 ?_ ?_
  ·simp(config:=cS)only[go_sem, *]
  have k0:=h0
  clear h0 l0
  intro _ s0 _ h0 gb0
  obtain⟨v65_2,h100016385_2⟩:=s0
  unfold ct at h0
  try dsimp only at h0
  obtain⟨_,h0⟩|⟨_,h0⟩:=itP h0
  ·exact run
  cases h0
  obtain rfl:=(aX gb0).symm
  clear gb0
  have h0:=k0
  clear k0
  try dsimp only at h0
  obtain⟨q11,l0,h0⟩:=af h0
  simp(config:=cS)only[go_sem, *]
  refine aq (m1:=.mk) (m2:=.mk) [.nf [1,2,4,123,124] [64,128,256,100016385]] (lU (s.nodes.length:Int) s.nodes s.ties s.horizon) l0 ?_ ?_
  ·simp(config:=cS)only[go_sem, *]
  have k0:=h0
  clear h0 l0
  intro _ s0 _ h0 gb0
  obtain⟨v124_3,h100016385_3⟩:=s0
  unfold cw at h0
  try dsimp only at h0
  exact run
 exact run⟩
@[go_sem] def pl (v12:List GLink)(v13 g_0:Int):(Int × (List Int) × (List GEdge))→St
 | (v14,links,h100016385)=>⟨[(2,.ptr 128 1 0 0),(4,.ptr 256 1 0 0),(5,.ref 383 1 0 links.length),(12,.sl (ab GLink.enc v12)),(13,.lit (.int .i64 v13)),(14,.lit (.int .i64 v14))],[(128,1,.var [.lit (.int .i64 0),.lit (.slice none 0 0)]),(256,1,.var [.lit (.int .i64 g_0),.ref 100016385 1 0 h100016385.length]),(100016385,1,.row true (ab GEdge.enc h100016385)),(383,1,.row true (ab eI links))],2⟩
instance k261 {s:GSimple}:Ctr (iw s) (fun (res:GGraph × (List Int))=>au prog 261 [.agg [.lit (.int .i64 s.events),.sl (ab GLink.enc s.links)]] [] (.tup [.agg [.lit (.int .i64 res.1.nodes),.ref 20000 1 0 res.1.edges.length],.ref 20001 1 0 res.2.length]) [(20000,1,.row true (ab GEdge.enc res.1.edges)),(20001,1,.row true (ab eI res.2))]):=⟨by
 intro res h0
 refine bq (ra:=[.homeCell 128 1,.home 3]) (md:=mdT) hT (hi:=hi00) func261 rfl rfl (by decide +kernel) (by simp) ?_
 unfold iw at h0
 obtain⟨q02,l0,h0⟩:=af h0
 simp(config:=cS)only[go_sem, *]
 refine aq (m1:=.mk) (m2:=.mk) [.home 5,.homeCell 256 1,.nf [2,4,5,12,13,14] [128,256,100016385,383]] (pl s.links (s.links.length:Int) s.events) l0 ?_ ?_
 ·simp(config:=cS)only[go_sem, *]
 have k0:=h0
 clear h0 l0
 intro _ s0 _ h0 gb0
 obtain⟨v14_1,links_1,h100016385_1⟩:=s0
 unfold ea at h0
 try dsimp only at h0
 obtain⟨_,h0⟩|⟨_,h0⟩:=itP h0
 ·obtain⟨x01,_,_,_,h0⟩:=gtI h0
  obtain⟨_,h0⟩|⟨_,h0⟩:=itP h0
  ·exact run
  obtain⟨_,h0⟩:=ckP h0
  obtain⟨_,h0⟩:=ckP h0
  obtain⟨_,h0⟩:=ckP h0
  obtain⟨_,h0⟩:=ckP h0
  obtain⟨_,h0⟩|⟨_,h0⟩:=itP h0
  ·exact run
  obtain⟨a1,h0⟩:=ckP h0
  try simp(config:=cS)only[go_sem]at a1
  obtain⟨a2,h0⟩:=ckP h0
  try simp(config:=cS)only[go_sem]at a2
  obtain⟨a3,h0⟩:=ckP h0
  try simp(config:=cS)only[go_sem]at a3
  obtain⟨a4,h0⟩:=ckP h0
  try simp(config:=cS)only[go_sem]at a4
  exact run
 exact run⟩
instance k175 {s:GSimple}:Ctr (gn s) (fun (res:GGraph)=>au prog 175 [.agg [.lit (.int .i64 s.events),.sl (ab GLink.enc s.links)]] [] (.agg [.lit (.int .i64 res.nodes),.ref 20000 1 0 res.edges.length]) [(20000,1,.row true (ab GEdge.enc res.edges))]):=⟨by
 intro res h0
 refine bq (ra:=[.homeCell 128 1]) (md:=mdT) hT (hi:=hi00) func175 rfl rfl (by decide +kernel) (by simp) ?_
 unfold gn at h0
 exact run⟩
@[go_sem] def kQ (v0:List GEdge)(f_v1:Nat)(k_v1:List AV)(v7 v8:Int):St:=⟨[(0,.sl (ab GEdge.enc v0)),(1,.fn f_v1 k_v1),(7,.lit (.int .i64 v7)),(8,.lit (.int .i64 v8))],[],2⟩
theorem nh {v0:List GEdge}{v1:GEdge→Option Bool}{f_v1:Nat}{k_v1:List AV}(hp_v1:∀ y0 r,v1 y0=some r→au prog f_v1 ([.agg (GEdge.enc y0)]++k_v1) [] (.lit (.bool r)) [])(hc_v1:KC k_v1)(hm_v1:∀ a,mdT f_v1 a=⟨[],false⟩)(hk_v1:spf f_v1=false){res:Int}(h:dg v0 v1=some res):au prog 344 [.sl (ab GEdge.enc v0),.fn f_v1 k_v1] [] (.lit (.int .i64 res)) []:=by
 refine co (hi:=hi00) func344 rfl rfl ?_
 unfold dg at h
 obtain⟨q03,l1,h⟩:=af h
 simp(config:=cS)only[go_sem,hc_v1.1,hc_v1.2,hm_v1,hk_v1]
 refine aq (m1:=.mk) (m2:=.mk) [.nf [0,1,7,8] []] (kQ v0 f_v1 k_v1 (v0.length:Int)) l1 ?_ ?_
 ·simp(config:=cS)only[go_sem,hc_v1.1,hc_v1.2,hm_v1,hk_v1]
 intro nb2 v8_1 bb2 b2 gb2
 unfold bO at b2
 try dsimp only at b2
 obtain⟨h3,b2⟩|⟨h3,b2⟩:=dj b2
 ·obtain⟨x01,g4,b2⟩:=af b2
  obtain⟨h5,h6,h7⟩:=jk g4
  obtain⟨r02,g8,b2⟩:=af b2
  simp(config:=cS)only[go_sem,hc_v1.1,hc_v1.2,hm_v1,hk_v1,eqT h3,h5,h6,h7]
  refine ar (hp_v1 _ _ g8) ?_
  obtain⟨h9,b2⟩|⟨h9,b2⟩:=dj b2
  ·cases b2
   obtain rfl:=(aX gb2).symm
   try dsimp only at h
   cases h
   simp(config:=cS)only[go_sem,hc_v1.1,hc_v1.2,hm_v1,hk_v1,eqT h3,h5,h6,h7,eZt h9]
  cases b2
  simp(config:=cS)only[go_sem,hc_v1.1,hc_v1.2,hm_v1,hk_v1,eqT h3,h5,h6,h7,eZf h9]
  refine kY gb2 ?_
  simp(config:=cS)only[go_sem,hc_v1.1,hc_v1.2,hm_v1,hk_v1,eqT h3,h5,h6,h7,eZf h9]
 cases b2
 obtain rfl:=(aX gb2).symm
 try dsimp only at h
 cases h
 simp(config:=cS)only[go_sem,hc_v1.1,hc_v1.2,hm_v1,hk_v1,eqF h3]
theorem lV {v0:List GEdge}{v1:GEdge→Option Bool}{f_v1:Nat}{k_v1:List AV}(hp_v1:∀ y0 r,v1 y0=some r→au prog f_v1 ([.agg (GEdge.enc y0)]++k_v1) [] (.lit (.bool r)) [])(hc_v1:KC k_v1)(hm_v1:∀ a,mdT f_v1 a=⟨[],false⟩)(hk_v1:spf f_v1=false){res:Bool}(h:cC v0 v1=some res):au prog 309 [.sl (ab GEdge.enc v0),.fn f_v1 k_v1] [] (.lit (.bool res)) []:=by
 refine co (hi:=hi00) func309 rfl rfl ?_
 unfold cC at h
 obtain⟨r01,g1,h⟩:=af h
 simp(config:=cS)only[go_sem,hc_v1.1,hc_v1.2,hm_v1,hk_v1]
 refine ar (nh hp_v1 hc_v1 hm_v1 hk_v1 g1) ?_
 cases h
 simp(config:=cS)only[go_sem,hc_v1.1,hc_v1.2,hm_v1,hk_v1]
instance k265 {n:Int}:Ctr (dQ n) (fun (res:Bool)=>au prog 265 [.lit (.int .i64 n)] [] (.lit (.bool res)) []):=⟨by
 intro res h0
 refine co (hi:=hi00) func265 rfl rfl ?_
 unfold dQ at h0
 exact run⟩
instance k310 {e:GEdge} {g:GGraph}:Ctr (fP e g) (fun (res:Bool)=>au prog 310 [.agg (GEdge.enc e),.loc [.lit (.int .i64 g.nodes),.sl (ab GEdge.enc g.edges)]] [] (.lit (.bool res)) []):=⟨by
 intro res h0
 refine co (hi:=hi00) func310 rfl rfl ?_
 unfold fP at h0
 exact run⟩
instance k258 {g:GGraph}:Ctr (eQ g) (fun (res:Bool)=>au prog 258 [.agg [.lit (.int .i64 g.nodes),.sl (ab GEdge.enc g.edges)]] [] (.lit (.bool res)) []):=⟨by
 intro res h0
 refine co (hi:=hi00) func258 rfl rfl ?_
 unfold eQ at h0
 obtain⟨_,h0⟩|⟨_,h0⟩:=itP h0
 ·exact run
 obtain⟨_,h0⟩|⟨_,h0⟩:=itP h0
 ·exact run
 obtain⟨_,h0⟩|⟨_,h0⟩:=itP h0
 ·exact run
 obtain⟨r01,g0,h0⟩:=af h0
 simp(config:=cS)only[go_sem, *]
 refine ar (lV (by exact fun _ _ hr=>by have q:=ctr hr;exact q) (by refine⟨fun _=>?_,fun _=>?_⟩ <;> simp only[go_sem]) (fun _=>rfl) rfl g0) ?_
 exact run⟩
instance k313 {v0:Int} {y:Int}:Ctr (mX v0 y) (fun (res:Int × Int)=>au prog 313 [.lit (.int .u64 v0),.lit (.int .u64 y)] [] (.tup [.lit (.int .u64 res.1),.lit (.int .u64 res.2)]) []):=⟨by
 intro res h0
 refine co (hi:=hi00) func313 rfl rfl ?_
 unfold mX at h0
 exact run⟩
instance k275 {v0:Int} {y:Int}:Ctr (eX v0 y) (fun (res:Int × Int)=>au prog 275 [.lit (.int .u64 v0),.lit (.int .u64 y)] [] (.tup [.lit (.int .u64 res.1),.lit (.int .u64 res.2)]) []):=⟨by
 intro res h0
 refine co (hi:=hi00) func275 rfl rfl ?_
 unfold eX at h0
 exact run⟩
@[go_sem] def mz  : (Int × (List Int))→St
 | (v8,v7)=>⟨[(7,.ref 1920 1 0 v7.length),(8,.lit (.int .i64 v8))],[(1920,1,.row true (ab eI v7))],2⟩
@[go_sem] def hi200_9:DT:=.r2 0 10 .nil
def AI:Hint where
 acts:=fun _=>[]
 draws:=fun
  | 9=>⟨hi200_9,[[],[],[],[1,2],[],[],[4,5],[1,2,3,4,5,6],.range 8,.range 9],.range 10⟩
  | _=>⟨.nil,[],[]⟩
theorem LX (i:Nat):AI.acts i=[]:=rfl
theorem LY (i:Nat):AI.views i=none:=rfl
attribute[go_sem] LX LY ntmps200 results200
@[go_sem] theorem OU:(AI.draws 9).order=hi200_9:=rfl
instance k200 {v0:List Int} {v1:Int}:Ctr (aH v0 v1) (fun (res:List Int)=>au prog 200 [.sl (ab eI v0),.lit (.int .i64 v1)] [] (.ref 20000 1 0 res.length) [(20000,1,.row true (ab eI res))]):=⟨by
 intro res h0
 refine bq (ra:=[.home 4]) (md:=mdT) hT (hi:=AI) func200 rfl rfl (by decide +kernel) (by simp) ?_
 unfold aH at h0
 obtain⟨_,h0⟩|⟨_,h0⟩:=itP h0
 ·exact run
 obtain⟨r01,g0,h0⟩:=af h0
 simp(config:=cS)only[go_sem, *]
 have g0:=ctr g0
 refine ar g0 ?_
 obtain⟨_,h0⟩|⟨_,h0⟩:=itP h0
 ·exact run
 obtain⟨_,h0⟩|⟨_,h0⟩:=itP h0
 ·exact run
 obtain⟨_,h0⟩:=ckP h0
 obtain⟨_,h0⟩:=ckP h0
 obtain⟨_,h0⟩:=ckP h0
 obtain⟨q02,l0,h0⟩:=af h0
 simp(config:=cS)only[go_sem, *]
 refine aq (m1:=.mk) (m2:=.mk) [.nf [7,8] [1920]] (mz) l0 ?_ ?_
 ·simp(config:=cS)only[go_sem, *]
 have k0:=h0
 clear h0 l0
 intro _ s0 _ h0 gb0
 obtain⟨v8_1,v7_1⟩:=s0
 unfold al at h0
 try dsimp only at h0
 exact run⟩
@[go_sem] def lW (zb0:Bool)  : (Int × Int × (List Int))→St
 | (v2,v3,v0)=>⟨[(0,.ref 10000 0 0 v0.length),(2,.lit (.int .i64 v2)),(3,.lit (.int .i64 v3))],[(10000,0,.row zb0 (ab eI v0))],2⟩
@[go_sem] def hi282_3:DT:=.r2 0 16 .nil
def AJ:Hint where
 acts:=fun _=>[]
 draws:=fun
  | 3=>⟨hi282_3,[[],[],[],[],[],[],[4,5],[4,5,6],[],[],[8,9],[8,9,10],[0,1,4,5,6,7,8,9,10,11],[0,1,4,5,6,7,8,9,10,11,12],.range 14,.range 15],[0,1,12,13,2,3,4,5,6,7,8,9,10,11,14,15]⟩
  | _=>⟨.nil,[],[]⟩
theorem LZ (i:Nat):AJ.acts i=[]:=rfl
theorem Ma (i:Nat):AJ.views i=none:=rfl
attribute[go_sem] LZ Ma ntmps282 results282
@[go_sem] theorem OV:(AJ.draws 3).order=hi282_3:=rfl
theorem iJ {v0:List Int}{zb0:Bool}{res:List Int}(h0:dR v0=some res):au prog 282 [.ref 10000 0 0 v0.length] [(10000,0,.row zb0 (ab eI v0))] (.tup []) [(10000,0,.row zb0 (ab eI res))]:=by
 refine co (hi:=AJ) func282 rfl rfl ?_
 unfold dR at h0
 obtain⟨q04,l0,h0⟩:=af h0
 simp(config:=cS)only[go_sem, *]
 refine aq (m1:=.mk) (m2:=.mk) [.nf [0,2,3] [10000]] (lW zb0) l0 ?_ ?_
 ·simp(config:=cS)only[go_sem, *]
 have k0:=h0
 clear h0 l0
 intro _ s0 _ h0 gb0
 obtain⟨v2_1,v3_1,v0_1⟩:=s0
 unfold dh at h0
 try dsimp only at h0
 exact run
@[go_sem] def fy (round:Int)(v31:List GEdge)(v32 g_0:Int):(Int × Int × (List Int) × (List Int))→St
 | (changed,v33,numbers,last)=>⟨[(1,.ptr 64 1 0 0),(3,.ref 1216 1 0 numbers.length),(4,.ref 1472 1 0 last.length),(5,.lit (.int .i64 changed)),(6,.lit (.int .i64 round)),(31,.sl (ab GEdge.enc v31)),(32,.lit (.int .i64 v32)),(33,.lit (.int .i64 v33))],[(64,1,.var [.lit (.int .i64 g_0),.sl (ab GEdge.enc v31)]),(1216,1,.row true (ab eI numbers)),(1472,1,.row true (ab eI last))],2⟩
@[go_sem] def fz (g_0:Int)(g_1:List GEdge):(Int × Int × (List Int) × (List Int))→St
 | (changed,round,numbers,last)=>⟨[(1,.ptr 64 1 0 0),(3,.ref 1216 1 0 numbers.length),(4,.ref 1472 1 0 last.length),(5,.lit (.int .i64 changed)),(6,.lit (.int .i64 round))],[(64,1,.var [.lit (.int .i64 g_0),.sl (ab GEdge.enc g_1)]),(1216,1,.row true (ab eI numbers)),(1472,1,.row true (ab eI last))],2⟩
@[go_sem] def fA (g_0:Int)(g_1:List GEdge)(last:List Int):(Int × Int)→St
 | (node,i)=>⟨[(1,.ptr 64 1 0 0),(4,.ref 1472 1 0 last.length),(10,.lit (.int .i64 node)),(11,.lit (.int .i64 i))],[(64,1,.var [.lit (.int .i64 g_0),.sl (ab GEdge.enc g_1)]),(1472,1,.row true (ab eI last))],2⟩
@[go_sem] def fB (node g_0:Int)(g_1:List GEdge)(last:List Int):(Int × (List Int))→St
 | (at_,out)=>⟨[(1,.ptr 64 1 0 0),(4,.ref 1472 1 0 last.length),(10,.lit (.int .i64 node)),(12,.ref 831 1 0 out.length),(13,.lit (.int .i64 at_))],[(64,1,.var [.lit (.int .i64 g_0),.sl (ab GEdge.enc g_1)]),(1472,1,.row true (ab eI last)),(831,1,.row true (ab eI out))],2⟩
@[go_sem] def hi211_26:DT:=.r2 0 10 .nil
@[go_sem] def hi211_22:DT:=.r2 0 10 .nil
@[go_sem] def hi211_14:DT:=.r2 0 4 (.i1 4 (.i1 5 (.r2 6 4 (.i0 10 [4,5] (.r2 11 3 .nil)))))
@[go_sem] def hi211_12:DT:=.r2 0 9 .nil
@[go_sem] def hi211_3:DT:=.i1 0 (.i1 1 (.i1 4 (.i1 5 (.fork (.i0 2 [4,5] (.i0 3 [0,1,4,5] (.i0 6 [0,1] (.i2 7 (.i2 8 .nil))))) (.i0 3 [0,1,4,5] (.fork (.i0 2 [4,5] (.i0 6 [0,1] (.i2 7 (.i2 8 .nil)))) (.i0 6 [0,1] (.i0 2 [4,5] (.i2 7 (.i2 8 .nil))))))))))
def nE:Hint where
 acts:=fun _=>[]
 draws:=fun
  | 3=>⟨hi211_3,[[],[0],[0,1],[],[],[4],[3,4,5],.range 7,.range 8],.range 9⟩
  | 12=>⟨hi211_12,[[],[],[1],[0,1,2],[0,1,2,3],[],[5],.range 7,.range 8],.range 9⟩
  | 14=>⟨hi211_14,[[],[],[1],[],[],[4],[],[],[],[0,1,2,6],[0,1,2,6,9],[0,1,2,3,4,5,6,7,9,10],[0,1,2,3,4,5,6,7,9,10,11],.range 13],[0,1,2,6,7,8,3,9,12,4,5,10,11,13]⟩
  | 22=>⟨hi211_22,[[],[0],[],[],[2,3],[2,3,4],.range 6,.range 7,.range 8,.range 9],.range 10⟩
  | 26=>⟨hi211_26,[[],[0],[],[],[2,3],[2,3,4],.range 6,.range 7,.range 8,.range 9],.range 10⟩
  | _=>⟨.nil,[],[]⟩
theorem Mb (i:Nat):nE.acts i=[]:=rfl
theorem Me (i:Nat):nE.views i=none:=rfl
attribute[go_sem] Mb Me ntmps211 results211
@[go_sem] theorem OW:(nE.draws 3).order=hi211_3:=rfl
@[go_sem] theorem NP:(nE.draws 12).order=hi211_12:=rfl
@[go_sem] theorem NQ:(nE.draws 14).order=hi211_14:=rfl
@[go_sem] theorem NR:(nE.draws 22).order=hi211_22:=rfl
@[go_sem] theorem NS:(nE.draws 26).order=hi211_26:=rfl
instance k211 {g:GGraph}:Ctr (dS g) (fun (res:Option (List Int))=>au prog 211 [.agg [.lit (.int .i64 g.nodes),.sl (ab GEdge.enc g.edges)]] [] (match res with|none=>.lit (.slice none 0 0)|some l=>.ref 20000 1 0 l.length) (match res with|none=>[]|some l=>[(20000,1,.row true (ab eI l))])):=⟨by
 intro res h0
 refine co (hi:=nE) func211 rfl rfl ?_
 unfold dS at h0
 obtain⟨r01,g0,h0⟩:=af h0
 simp(config:=cS)only[go_sem, *]
 have g0:=ctr g0
 refine ar g0 ?_
 obtain⟨_,h0⟩|⟨_,h0⟩:=itB h0
 ·obtain⟨_,h0⟩:=ckP h0
  obtain⟨_,h0⟩:=ckP h0
  obtain⟨_,h0⟩:=ckP h0
  try simp(config:=cS)only[go_sem, *]
  refine Bi ?_ ?_
  ·obtain⟨r02,g0,h0⟩:=af h0
   simp(config:=cS)only[go_sem, *]
   have g0:=ctr g0
   refine ar g0 ?_
   obtain⟨q18,l0,h0⟩:=af h0
   simp(config:=cS)only[go_sem, *]
   refine aq (m1:=.mk) (m2:=.mk) [.nf [1,3,4,5,6] [64,1216,1472]] (fz g.nodes g.edges) l0 ?_ ?_
   ·simp(config:=cS)only[go_sem, *]
   have k0:=h0
   clear h0 l0
   intro _ s0 _ h0 gb0
   obtain⟨changed_1,round_1,numbers_1,last_1⟩:=s0
   unfold bu at h0
   try dsimp only at h0
   obtain⟨_,h0⟩|⟨_,h0⟩:=itP h0
   ·obtain⟨q07,l0,h0⟩:=af h0
    simp(config:=cS)only[go_sem, *]
    refine aq (m1:=.mk) (m2:=.mk) [.nf [1,3,4,5,6,31,32,33] [64,1216,1472]] (fy round_1 g.edges (g.edges.length:Int) g.nodes) l0 ?_ ?_
    ·simp(config:=cS)only[go_sem, *]
    have k0:=h0
    clear h0 l0
    intro _ s0 _ h0 gb0
    obtain⟨changed_2,v33_2,numbers_2,last_2⟩:=s0
    unfold br at h0
    try dsimp only at h0
    exact run
   cases h0
   obtain rfl:=(aX gb0).symm
   clear gb0
   have h0:=k0
   clear k0
   try dsimp only at h0
   obtain⟨_,h0⟩|⟨_,h0⟩:=itP h0
   ·exact run
   obtain⟨x08,_,_,_,h0⟩:=gtI h0
   obtain⟨q17,l0,h0⟩:=af h0
   simp(config:=cS)only[go_sem, *]
   refine aq (m1:=.mk) (m2:=.mk) [.nf [1,4,10,11] [64,1472]] (fA g.nodes g.edges last_1) l0 ?_ ?_
   ·simp(config:=cS)only[go_sem, *]
   have k0:=h0
   clear h0 l0
   intro _ s0 _ h0 gb0
   obtain⟨node_3,i_3⟩:=s0
   unfold bv at h0
   try dsimp only at h0
   obtain⟨_,h0⟩|⟨_,h0⟩:=itP h0
   ·exact run
   cases h0
   obtain rfl:=(aX gb0).symm
   clear gb0
   have h0:=k0
   clear k0
   try dsimp only at h0
   obtain⟨q16,l0,h0⟩:=af h0
   simp(config:=cS)only[go_sem, *]
   refine aq (m1:=.mk) (m2:=.mk) [.home 12,.nf [1,4,10,12,13] [64,1472,831]] (fB node_3 g.nodes g.edges last_1) l0 ?_ ?_
   ·simp(config:=cS)only[go_sem, *]
   have k0:=h0
   clear h0 l0
   intro _ s0 _ h0 gb0
   obtain⟨at__4,out_4⟩:=s0
   unfold bw at h0
   try dsimp only at h0
   obtain⟨_,h0⟩|⟨_,h0⟩:=itP h0
   ·exact run
   obtain⟨_,h0⟩|⟨_,h0⟩:=itP h0
   ·cases h0
    obtain rfl:=(aX gb0).symm
    clear gb0
    have h0:=k0
    clear k0
    try dsimp only at h0
    obtain⟨r13,g0,h0⟩:=af h0
    simp(config:=cS)only[go_sem, *]
    refine ar (iJ g0) ?_
    exact run
   exact run
  try simp(config:=cS)only[go_sem, *]
  refine Bi ?_ ?_
  ·obtain⟨r19,g0,h0⟩:=af h0
   simp(config:=cS)only[go_sem, *]
   have g0:=ctr g0
   refine ar g0 ?_
   obtain⟨q35,l0,h0⟩:=af h0
   simp(config:=cS)only[go_sem, *]
   refine aq (m1:=.mk) (m2:=.mk) [.nf [1,3,4,5,6] [64,1216,1472]] (fz g.nodes g.edges) l0 ?_ ?_
   ·simp(config:=cS)only[go_sem, *]
   have k0:=h0
   clear h0 l0
   intro _ s0 _ h0 gb0
   obtain⟨changed_5,round_5,numbers_5,last_5⟩:=s0
   unfold bu at h0
   try dsimp only at h0
   obtain⟨_,h0⟩|⟨_,h0⟩:=itP h0
   ·obtain⟨q24,l0,h0⟩:=af h0
    simp(config:=cS)only[go_sem, *]
    refine aq (m1:=.mk) (m2:=.mk) [.nf [1,3,4,5,6,31,32,33] [64,1216,1472]] (fy round_5 g.edges (g.edges.length:Int) g.nodes) l0 ?_ ?_
    ·simp(config:=cS)only[go_sem, *]
    have k0:=h0
    clear h0 l0
    intro _ s0 _ h0 gb0
    obtain⟨changed_6,v33_6,numbers_6,last_6⟩:=s0
    unfold br at h0
    try dsimp only at h0
    exact run
   cases h0
   obtain rfl:=(aX gb0).symm
   clear gb0
   have h0:=k0
   clear k0
   try dsimp only at h0
   obtain⟨_,h0⟩|⟨_,h0⟩:=itP h0
   ·exact run
   obtain⟨x25,_,_,_,h0⟩:=gtI h0
   obtain⟨q34,l0,h0⟩:=af h0
   simp(config:=cS)only[go_sem, *]
   refine aq (m1:=.mk) (m2:=.mk) [.nf [1,4,10,11] [64,1472]] (fA g.nodes g.edges last_5) l0 ?_ ?_
   ·simp(config:=cS)only[go_sem, *]
   have k0:=h0
   clear h0 l0
   intro _ s0 _ h0 gb0
   obtain⟨node_7,i_7⟩:=s0
   unfold bv at h0
   try dsimp only at h0
   obtain⟨_,h0⟩|⟨_,h0⟩:=itP h0
   ·exact run
   cases h0
   obtain rfl:=(aX gb0).symm
   clear gb0
   have h0:=k0
   clear k0
   try dsimp only at h0
   obtain⟨q33,l0,h0⟩:=af h0
   simp(config:=cS)only[go_sem, *]
   refine aq (m1:=.mk) (m2:=.mk) [.home 12,.nf [1,4,10,12,13] [64,1472,831]] (fB node_7 g.nodes g.edges last_5) l0 ?_ ?_
   ·simp(config:=cS)only[go_sem, *]
   have k0:=h0
   clear h0 l0
   intro _ s0 _ h0 gb0
   obtain⟨at__8,out_8⟩:=s0
   unfold bw at h0
   try dsimp only at h0
   obtain⟨_,h0⟩|⟨_,h0⟩:=itP h0
   ·exact run
   obtain⟨_,h0⟩|⟨_,h0⟩:=itP h0
   ·cases h0
    obtain rfl:=(aX gb0).symm
    clear gb0
    have h0:=k0
    clear k0
    try dsimp only at h0
    obtain⟨r30,g0,h0⟩:=af h0
    simp(config:=cS)only[go_sem, *]
    refine ar (iJ g0) ?_
    exact run
   exact run
  obtain⟨r36,g0,h0⟩:=af h0
  simp(config:=cS)only[go_sem, *]
  have g0:=ctr g0
  refine ar g0 ?_
  obtain⟨q52,l0,h0⟩:=af h0
  simp(config:=cS)only[go_sem, *]
  refine aq (m1:=.mk) (m2:=.mk) [.nf [1,3,4,5,6] [64,1216,1472]] (fz g.nodes g.edges) l0 ?_ ?_
  ·simp(config:=cS)only[go_sem, *]
  have k0:=h0
  clear h0 l0
  intro _ s0 _ h0 gb0
  obtain⟨changed_9,round_9,numbers_9,last_9⟩:=s0
  unfold bu at h0
  try dsimp only at h0
  obtain⟨_,h0⟩|⟨_,h0⟩:=itP h0
  ·obtain⟨q41,l0,h0⟩:=af h0
   simp(config:=cS)only[go_sem, *]
   refine aq (m1:=.mk) (m2:=.mk) [.nf [1,3,4,5,6,31,32,33] [64,1216,1472]] (fy round_9 g.edges (g.edges.length:Int) g.nodes) l0 ?_ ?_
   ·simp(config:=cS)only[go_sem, *]
   have k0:=h0
   clear h0 l0
   intro _ s0 _ h0 gb0
   obtain⟨changed_10,v33_10,numbers_10,last_10⟩:=s0
   unfold br at h0
   try dsimp only at h0
   exact run
  cases h0
  obtain rfl:=(aX gb0).symm
  clear gb0
  have h0:=k0
  clear k0
  try dsimp only at h0
  obtain⟨_,h0⟩|⟨_,h0⟩:=itP h0
  ·exact run
  obtain⟨x42,_,_,_,h0⟩:=gtI h0
  obtain⟨q51,l0,h0⟩:=af h0
  simp(config:=cS)only[go_sem, *]
  refine aq (m1:=.mk) (m2:=.mk) [.nf [1,4,10,11] [64,1472]] (fA g.nodes g.edges last_9) l0 ?_ ?_
  ·simp(config:=cS)only[go_sem, *]
  have k0:=h0
  clear h0 l0
  intro _ s0 _ h0 gb0
  obtain⟨node_11,i_11⟩:=s0
  unfold bv at h0
  try dsimp only at h0
  obtain⟨_,h0⟩|⟨_,h0⟩:=itP h0
  ·exact run
  cases h0
  obtain rfl:=(aX gb0).symm
  clear gb0
  have h0:=k0
  clear k0
  try dsimp only at h0
  obtain⟨q50,l0,h0⟩:=af h0
  simp(config:=cS)only[go_sem, *]
  refine aq (m1:=.mk) (m2:=.mk) [.home 12,.nf [1,4,10,12,13] [64,1472,831]] (fB node_11 g.nodes g.edges last_9) l0 ?_ ?_
  ·simp(config:=cS)only[go_sem, *]
  have k0:=h0
  clear h0 l0
  intro _ s0 _ h0 gb0
  obtain⟨at__12,out_12⟩:=s0
  unfold bw at h0
  try dsimp only at h0
  obtain⟨_,h0⟩|⟨_,h0⟩:=itP h0
  ·exact run
  obtain⟨_,h0⟩|⟨_,h0⟩:=itP h0
  ·cases h0
   obtain rfl:=(aX gb0).symm
   clear gb0
   have h0:=k0
   clear k0
   try dsimp only at h0
   obtain⟨r47,g0,h0⟩:=af h0
   simp(config:=cS)only[go_sem, *]
   refine ar (iJ g0) ?_
   exact run
  exact run
 exact run⟩
instance k108 {s:GSimple}:Ctr (eD s) (fun (res:Bool)=>au prog 108 [.agg [.lit (.int .i64 s.events),.sl (ab GLink.enc s.links)]] [] (.lit (.bool res)) []):=⟨by
 intro res h0
 refine co (hi:=hi00) func108 rfl rfl ?_
 unfold eD at h0
 obtain⟨r01,g0,h0⟩:=af h0
 simp(config:=cS)only[go_sem, *]
 have g0:=ctr g0
 refine ar g0 ?_
 obtain⟨_,h0⟩|⟨_,h0⟩:=itB h0
 ·obtain⟨r02,g0,h0⟩:=af h0
  simp(config:=cS)only[go_sem, *]
  have g0:=ctr g0
  refine ar g0 ?_
  obtain⟨r03,g0,h0⟩:=af h0
  simp(config:=cS)only[go_sem, *]
  have g0:=ctr g0
  refine ar g0 ?_
  obtain⟨l1004,_,h0⟩|⟨_,h0⟩:=Eg h0
  ·exact run
  exact run
 exact run⟩
@[go_sem] def jb (round:Int)(v36:List GEdge)(v37 g_0:Int):(Bool × Int × (List Int) × (List Bool))→St
 | (changed,v38,out,known)=>⟨[(2,.ptr 128 1 0 0),(6,.ref 1664 1 0 out.length),(7,.ref 1856 1 0 known.length),(8,.lit (.int .i64 round)),(9,.lit (.bool changed)),(36,.sl (ab GEdge.enc v36)),(37,.lit (.int .i64 v37)),(38,.lit (.int .i64 v38))],[(128,1,.var [.lit (.int .i64 g_0),.sl (ab GEdge.enc v36)]),(1664,1,.row true (ab eI out)),(1856,1,.row true (ab eB known))],2⟩
@[go_sem] def jc (g_0:Int)(g_1:List GEdge):(Int × (List Int) × (List Bool))→St
 | (round,out,known)=>⟨[(2,.ptr 128 1 0 0),(6,.ref 1664 1 0 out.length),(7,.ref 1856 1 0 known.length),(8,.lit (.int .i64 round))],[(128,1,.var [.lit (.int .i64 g_0),.sl (ab GEdge.enc g_1)]),(1664,1,.row true (ab eI out)),(1856,1,.row true (ab eB known))],2⟩
@[go_sem] def jd (v89:Int)(known:List Bool):(Int × (List Int))→St
 | (v90,out)=>⟨[(6,.ref 1664 1 0 out.length),(7,.ref 1856 1 0 known.length),(89,.lit (.int .i64 v89)),(90,.lit (.int .i64 v90))],[(1664,1,.row true (ab eI out)),(1856,1,.row true (ab eB known))],2⟩
@[go_sem] def hi259_13:DT:=.r2 0 4 (.i1 4 (.i1 5 (.i2 6 (.i2 7 (.i0 8 [4,5] (.r2 9 3 .nil))))))
@[go_sem] def hi259_11:DT:=.r2 0 9 .nil
@[go_sem] def hi259_3:DT:=.i1 0 (.i1 1 (.i1 3 (.i1 4 (.fork (.i0 2 [3,4] (.i2 6 (.i0 5 [0,1] (.i2 7 .nil)))) (.i0 5 [0,1] (.i0 2 [3,4] (.i2 6 (.i2 7 .nil))))))))
def sy:Hint where
 acts:=fun _=>[]
 draws:=fun
  | 3=>⟨hi259_3,[[],[0],[0,1],[],[3],[3,4],[0,1,2],.range 7],.range 8⟩
  | 11=>⟨hi259_11,[[],[],[1],[0,1,2],[0,1,2,3],[],[5],.range 7,.range 8],.range 9⟩
  | 13=>⟨hi259_13,[[],[],[1],[],[],[4],[],[0,1,2,6],[0,1,2,6,7],.range 9,.range 10,.range 11],[0,1,2,6,7,8,3,4,5,9,10,11]⟩
  | _=>⟨.nil,[],[]⟩
theorem Mf (i:Nat):sy.acts i=[]:=rfl
theorem Mg (i:Nat):sy.views i=none:=rfl
attribute[go_sem] Mf Mg ntmps259 results259
@[go_sem] theorem OX:(sy.draws 3).order=hi259_3:=rfl
@[go_sem] theorem NT:(sy.draws 11).order=hi259_11:=rfl
@[go_sem] theorem NU:(sy.draws 13).order=hi259_13:=rfl
instance k259 {g:GGraph} {source:Int}:Ctr (eE g source) (fun (res:(List Int) × Bool)=>au prog 259 [.agg [.lit (.int .i64 g.nodes),.sl (ab GEdge.enc g.edges)],.lit (.int .i64 source)] [] (.tup [.ref 20000 1 0 res.1.length,.lit (.bool res.2)]) [(20000,1,.row true (ab eI res.1))]):=⟨by
 intro res h0
 refine bq (ra:=[.home 4]) (md:=mdT) hT (hi:=sy) func259 rfl rfl (by decide +kernel) (by simp) ?_
 unfold eE at h0
 obtain⟨r01,g0,h0⟩:=af h0
 simp(config:=cS)only[go_sem, *]
 have g0:=ctr g0
 refine ar g0 ?_
 obtain⟨_,h0⟩|⟨_,h0⟩:=itB h0
 ·obtain⟨r02,g0,h0⟩:=af h0
  simp(config:=cS)only[go_sem, *]
  have g0:=ctr g0
  refine ar g0 ?_
  obtain⟨_,h0⟩|⟨_,h0⟩:=itB h0
  ·obtain⟨_,h0⟩:=ckP h0
   obtain⟨_,h0⟩:=ckP h0
   obtain⟨_,h0⟩:=ckP h0
   obtain⟨_,h0⟩:=ckP h0
   try simp(config:=cS)only[go_sem, *]
   refine Bi ?_ ?_
   ·obtain⟨x03,_,_,_,h0⟩:=gtI h0
    obtain⟨q16,l0,h0⟩:=af h0
    simp(config:=cS)only[go_sem, *]
    refine aq (m1:=.mk) (m2:=.mk) [.nf [2,6,7,8] [128,1664,1856]] (jc g.nodes g.edges) l0 ?_ ?_
    ·simp(config:=cS)only[go_sem, *]
    have k0:=h0
    clear h0 l0
    intro _ s0 _ h0 gb0
    obtain⟨round_1,out_1,known_1⟩:=s0
    unfold aT at h0
    try dsimp only at h0
    obtain⟨q15,l0,h0⟩:=af h0
    simp(config:=cS)only[go_sem, *]
    refine aq (m1:=.mk) (m2:=.mk) [.nf [2,6,7,8,9,36,37,38] [128,1664,1856]] (jb round_1 g.edges (g.edges.length:Int) g.nodes) l0 ?_ ?_
    ·simp(config:=cS)only[go_sem, *]
    have k0:=h0
    clear h0 l0
    intro _ s0 _ h0 gb0
    obtain⟨changed_2,v38_2,out_2,known_2⟩:=s0
    unfold bS at h0
    try dsimp only at h0
    obtain⟨_,h0⟩|⟨_,h0⟩:=itP h0
    ·exact run
    cases h0
    obtain rfl:=(aX gb0).symm
    clear gb0
    have h0:=k0
    clear k0
    try dsimp only at h0
    obtain⟨_,h0⟩|⟨_,h0⟩:=itB h0
    ·exact run
    cases h0
    obtain rfl:=(aX gb0).symm
    clear gb0
    have h0:=k0
    clear k0
    try dsimp only at h0
    obtain⟨q14,l0,h0⟩:=af h0
    simp(config:=cS)only[go_sem, *]
    refine aq (m1:=.mk) (m2:=.mk) [.nf [6,7,89,90] [1664,1856]] (jd (out_2.length:Int) known_2) l0 ?_ ?_
    ·simp(config:=cS)only[go_sem, *]
    have k0:=h0
    clear h0 l0
    intro _ s0 _ h0 gb0
    obtain⟨v90_3,out_3⟩:=s0
    unfold bE at h0
    try dsimp only at h0
    exact run
   obtain⟨x17,_,_,_,h0⟩:=gtI h0
   obtain⟨q30,l0,h0⟩:=af h0
   simp(config:=cS)only[go_sem, *]
   refine aq (m1:=.mk) (m2:=.mk) [.nf [2,6,7,8] [128,1664,1856]] (jc g.nodes g.edges) l0 ?_ ?_
   ·simp(config:=cS)only[go_sem, *]
   have k0:=h0
   clear h0 l0
   intro _ s0 _ h0 gb0
   obtain⟨round_4,out_4,known_4⟩:=s0
   unfold aT at h0
   try dsimp only at h0
   obtain⟨q29,l0,h0⟩:=af h0
   simp(config:=cS)only[go_sem, *]
   refine aq (m1:=.mk) (m2:=.mk) [.nf [2,6,7,8,9,36,37,38] [128,1664,1856]] (jb round_4 g.edges (g.edges.length:Int) g.nodes) l0 ?_ ?_
   ·simp(config:=cS)only[go_sem, *]
   have k0:=h0
   clear h0 l0
   intro _ s0 _ h0 gb0
   obtain⟨changed_5,v38_5,out_5,known_5⟩:=s0
   unfold bS at h0
   try dsimp only at h0
   obtain⟨_,h0⟩|⟨_,h0⟩:=itP h0
   ·exact run
   cases h0
   obtain rfl:=(aX gb0).symm
   clear gb0
   have h0:=k0
   clear k0
   try dsimp only at h0
   obtain⟨_,h0⟩|⟨_,h0⟩:=itB h0
   ·exact run
   cases h0
   obtain rfl:=(aX gb0).symm
   clear gb0
   have h0:=k0
   clear k0
   try dsimp only at h0
   obtain⟨q28,l0,h0⟩:=af h0
   simp(config:=cS)only[go_sem, *]
   refine aq (m1:=.mk) (m2:=.mk) [.nf [6,7,89,90] [1664,1856]] (jd (out_5.length:Int) known_5) l0 ?_ ?_
   ·simp(config:=cS)only[go_sem, *]
   have k0:=h0
   clear h0 l0
   intro _ s0 _ h0 gb0
   obtain⟨v90_6,out_6⟩:=s0
   unfold bE at h0
   try dsimp only at h0
   exact run
  exact run
 exact run⟩
instance k260 {n:Int}:Ctr (fQ n) (fun (res:Int)=>au prog 260 [.lit (.int .i64 n)] [] (.lit (.int .i64 res)) []):=⟨by
 intro res h0
 refine co (hi:=hi00) func260 rfl rfl ?_
 unfold fQ at h0
 exact run⟩
@[go_sem] def ni (i v33 g_0:Int)(g_1:List GEdge)(v32:List Int):(Int × (List Int))→St
 | (v34,h100016385)=>⟨[(1,.ptr 64 1 0 0),(2,.ptr 128 1 0 0),(4,.ptr 256 1 0 0),(5,.lit (.int .i64 i)),(32,.ref 1664 1 0 v32.length),(33,.lit (.int .i64 v33)),(34,.lit (.int .i64 v34))],[(64,1,.var [.lit (.int .i64 g_0),.sl (ab GEdge.enc g_1)]),(128,1,.var [.lit (.int .i64 0),.lit (.slice none 0 0)]),(256,1,.var [.lit (.int .i64 g_0),.ref 100016385 1 0 h100016385.length]),(100016385,1,.row true (ab eI h100016385)),(1664,1,.row true (ab eI v32))],2⟩
@[go_sem] def nj (g_0:Int)(g_1:List GEdge):(Int × (List Int))→St
 | (i,h100016385)=>⟨[(1,.ptr 64 1 0 0),(2,.ptr 128 1 0 0),(4,.ptr 256 1 0 0),(5,.lit (.int .i64 i))],[(64,1,.var [.lit (.int .i64 g_0),.sl (ab GEdge.enc g_1)]),(128,1,.var [.lit (.int .i64 0),.lit (.slice none 0 0)]),(256,1,.var [.lit (.int .i64 g_0),.ref 100016385 1 0 h100016385.length]),(100016385,1,.row true (ab eI h100016385))],2⟩
@[go_sem] def hi174_13:DT:=.i1 0 (.i1 1 (.i2 2 (.i0 3 [0,1] (.i0 4 [0,1] (.r2 5 3 .nil)))))
def AK:Hint where
 acts:=fun _=>[]
 draws:=fun
  | 13=>⟨hi174_13,[[],[0],[],[2],[2,3],.range 5,.range 6,.range 7],.range 8⟩
  | _=>⟨.nil,[],[]⟩
theorem Mh (i:Nat):AK.acts i=[]:=rfl
theorem Mi (i:Nat):AK.views i=none:=rfl
attribute[go_sem] Mh Mi ntmps174 results174
@[go_sem] theorem NV:(AK.draws 13).order=hi174_13:=rfl
instance k174 {g:GGraph}:Ctr (fR g) (fun (res:az × Bool)=>au prog 174 [.agg [.lit (.int .i64 g.nodes),.sl (ab GEdge.enc g.edges)]] [] (.tup [.agg [.lit (.int .i64 res.1.size),.ref 20000 1 0 res.1.cells.length],.lit (.bool res.2)]) [(20000,1,.row true (ab eI res.1.cells))]):=⟨by
 intro res h0
 refine bq (ra:=[.homeCell 128 1]) (md:=mdT) hT (hi:=AK) func174 rfl rfl (by decide +kernel) (by simp) ?_
 unfold fR at h0
 obtain⟨r01,g0,h0⟩:=af h0
 simp(config:=cS)only[go_sem, *]
 have g0:=ctr g0
 refine ar g0 ?_
 obtain⟨_,h0⟩|⟨_,h0⟩:=itB h0
 ·obtain⟨q06,l0,h0⟩:=af h0
  simp(config:=cS)only[go_sem, *]
  refine aq (m1:=.mk) (m2:=.mk) [.homeCell 256 1,.nf [1,2,4,5] [64,128,256,100016385]] (nj g.nodes g.edges) l0 ?_ ?_
  ·simp(config:=cS)only[go_sem, *]
  have k0:=h0
  clear h0 l0
  intro _ s0 _ h0 gb0
  obtain⟨i_1,h100016385_1⟩:=s0
  unfold dc at h0
  try dsimp only at h0
  obtain⟨_,h0⟩|⟨_,h0⟩:=itP h0
  ·obtain⟨r02,g0,h0⟩:=af h0
   simp(config:=cS)only[go_sem, *]
   have g0:=ctr g0
   refine ar g0 ?_
   obtain⟨_,h0⟩|⟨_,h0⟩:=itB h0
   ·obtain⟨q05,l0,h0⟩:=af h0
    simp(config:=cS)only[go_sem, *]
    refine aq (m1:=.mk) (m2:=.mk) [.homeCell 256 1,.nf [1,2,4,5,32,33,34] [64,128,256,100016385,1664]] (ni i_1 (r02.1.length:Int) g.nodes g.edges r02.1) l0 ?_ ?_
    ·simp(config:=cS)only[go_sem, *]
    have k0:=h0
    clear h0 l0
    intro _ s0 _ h0 gb0
    obtain⟨v34_2,h100016385_2⟩:=s0
    unfold cA at h0
    try dsimp only at h0
    exact run
   exact run
  exact run
 exact run⟩
@[go_sem] def pm (v25:List Int)(v26 t_0 v27:Int):St:=⟨[(1,.ptr 64 1 0 0),(25,.sl (ab eI v25)),(26,.lit (.int .i64 v26)),(27,.lit (.int .i64 v27))],[(64,1,.var [.lit (.int .i64 t_0),.sl (ab eI v25)])],2⟩
@[go_sem] def hi262_6:DT:=.r2 0 21 .nil
def AL:Hint where
 acts:=fun _=>[]
 draws:=fun
  | 6=>⟨hi262_6,[[],[0],[0,1],[0,1,2],[0,1,2,3],.range 5,.range 6,.range 7,.range 7,[0,1,2,3,4,5,6,8],.range 10,.range 7,.range 7,[0,1,2,3,4,5,6,12],[0,1,2,3,4,5,6,11,12,13],.range 15,.range 16,.range 17,.range 18,.range 19,.range 20],.range 21⟩
  | _=>⟨.nil,[],[]⟩
theorem Mj (i:Nat):AL.acts i=[]:=rfl
theorem Ml (i:Nat):AL.views i=none:=rfl
attribute[go_sem] Mj Ml ntmps262 results262
@[go_sem] theorem OY:(AL.draws 6).order=hi262_6:=rfl
instance k262 {t:az}:Ctr (ix t) (fun (res:Bool)=>au prog 262 [.agg [.lit (.int .i64 t.size),.sl (ab eI t.cells)]] [] (.lit (.bool res)) []):=⟨by
 intro res h0
 refine co (hi:=AL) func262 rfl rfl ?_
 unfold ix at h0
 obtain⟨_,h0⟩|⟨_,h0⟩:=itP h0
 ·exact run
 obtain⟨_,h0⟩|⟨_,h0⟩:=itP h0
 ·exact run
 obtain⟨_,h0⟩|⟨_,h0⟩:=itP h0
 ·obtain⟨q02,l0,h0⟩:=af h0
  simp(config:=cS)only[go_sem, *]
  refine aq (m1:=.mk) (m2:=.mk) [.nf [1,25,26,27] [64]] (pm t.cells (t.cells.length:Int) t.size) l0 ?_ ?_
  ·simp(config:=cS)only[go_sem, *]
  have k0:=h0
  clear h0 l0
  intro _ v27_1 _ h0 gb0
  unfold eb at h0
  try dsimp only at h0
  exact run
 exact run⟩
instance k264 {t:az} {i:Int} {k:Int}:Ctr (fS t i k) (fun (res:Int)=>au prog 264 [.agg [.lit (.int .i64 t.size),.sl (ab eI t.cells)],.lit (.int .i64 i),.lit (.int .i64 k)] [] (.lit (.int .i64 res)) []):=⟨by
 intro res h0
 refine co (hi:=hi00) func264 rfl rfl ?_
 unfold fS at h0
 exact run⟩
instance k263 {i:aw} {ok:Bool}:Ctr (jB i ok) (fun (res:aw × Bool)=>au prog 263 [.agg [.lit (.int .i64 i.low),.lit (.int .i64 i.high)],.lit (.bool ok)] [] (.tup [.agg [.lit (.int .i64 res.1.low),.lit (.int .i64 res.1.high)],.lit (.bool res.2)]) []):=⟨by
 intro res h0
 refine co (hi:=hi00) func263 rfl rfl ?_
 unfold jB at h0
 exact run⟩
@[go_sem] def hi176_3:DT:=.r2 0 3 (.i1 5 (.i2 6 (.i2 7 (.i0 3 [5] (.i2 4 (.r2 8 7 .nil))))))
def AM:Hint where
 acts:=fun _=>[]
 draws:=fun
  | 3=>⟨hi176_3,[[],[],[],[0,1,2],[0,1,2,3],[],[],[],[0,1,2,3,5,6,7],.range 9,.range 10,.range 11,.range 11,.range 13,.range 14],.range 15⟩
  | _=>⟨.nil,[],[]⟩
theorem Mm (i:Nat):AM.acts i=[]:=rfl
theorem Mn (i:Nat):AM.views i=none:=rfl
attribute[go_sem] Mm Mn ntmps176 results176
@[go_sem] theorem OZ:(AM.draws 3).order=hi176_3:=rfl
instance k176 {t:az} {i:Int} {k:Int}:Ctr (fY t i k) (fun (res:aw × Bool)=>au prog 176 [.agg [.lit (.int .i64 t.size),.sl (ab eI t.cells)],.lit (.int .i64 i),.lit (.int .i64 k)] [] (.tup [.agg [.lit (.int .i64 res.1.low),.lit (.int .i64 res.1.high)],.lit (.bool res.2)]) []):=⟨by
 intro res h0
 refine co (hi:=AM) func176 rfl rfl ?_
 unfold fY at h0
 exact run⟩
instance k70 {s:GSimple} {event:Int}:Ctr (gY s event) (fun (res:aw × Bool)=>au prog 70 [.agg [.lit (.int .i64 s.events),.sl (ab GLink.enc s.links)],.lit (.int .i64 event)] [] (.tup [.agg [.lit (.int .i64 res.1.low),.lit (.int .i64 res.1.high)],.lit (.bool res.2)]) []):=⟨by
 intro res h0
 refine co (hi:=hi00) func70 rfl rfl ?_
 unfold gY at h0
 exact run⟩
@[go_sem] def pX (f_f:Nat)(k_f:List AV)(s_0:Int)(s_1:List GLink):(Int × (List Int))→St
 | (event,out)=>⟨[(1,.fn f_f k_f),(2,.ptr 128 1 0 0),(6,.ref 447 1 0 out.length),(7,.lit (.int .i64 event))],[(128,1,.var [.lit (.int .i64 s_0),.sl (ab GLink.enc s_1)]),(447,1,.row true (ab eI out))],2⟩
theorem zR {s:GSimple}{f:aw→Option Int}{f_f:Nat}{k_f:List AV}(hp_f:∀ y0 r,f y0=some r→au prog f_f ([.agg [.lit (.int .i64 y0.low),.lit (.int .i64 y0.high)]]++k_f) [] (.lit (.int .i64 r)) [])(hc_f:KC k_f)(hm_f:∀ a,mdT f_f a=⟨[],false⟩)(hk_f:spf f_f=false){res:(List Int) × Bool}(h:iS s f=some res):au prog 185 [.agg [.lit (.int .i64 s.events),.sl (ab GLink.enc s.links)],.fn f_f k_f] [] (.tup [.ref 20000 1 0 res.1.length,.lit (.bool res.2)]) [(20000,1,.row true (ab eI res.1))]:=by
 refine bq (ra:=[.home 4]) (md:=mdT) hT (hi:=hi00) func185 rfl rfl (by decide +kernel) (by simp) ?_
 unfold iS at h
 obtain⟨r01,g1,h⟩:=af h
 simp(config:=cS)only[go_sem,hc_f.1,hc_f.2,hm_f,hk_f]
 have g1:=ctr g1
 refine ar g1 ?_
 obtain⟨h2,h⟩|⟨h2,h⟩:=dj h
 ·obtain⟨q06,l3,h⟩:=af h
  simp(config:=cS)only[go_sem,hc_f.1,hc_f.2,hm_f,hk_f,eZt h2]
  refine aq (m1:=.mk) (m2:=.mk) [.home 6,.nf [1,2,6,7] [128,447]] (pX f_f k_f s.events s.links) l3 ?_ ?_
  ·simp(config:=cS)only[go_sem,hc_f.1,hc_f.2,hm_f,hk_f,eZt h2]
  intro nb4 sb4 bb4 b4 gb4
  obtain⟨event_1,out_1⟩:=sb4
  unfold gE at b4
  try dsimp only at b4
  obtain⟨h5,b4⟩|⟨h5,b4⟩:=dj b4
  ·obtain⟨r02,g6,b4⟩:=af b4
   simp(config:=cS)only[go_sem,hc_f.1,hc_f.2,hm_f,hk_f,eZt h2,eqT h5]
   have g6:=ctr g6
   refine ar g6 ?_
   obtain⟨h7,b4⟩|⟨h7,b4⟩:=dj b4
   ·obtain⟨r03,g8,b4⟩:=af b4
    simp(config:=cS)only[go_sem,hc_f.1,hc_f.2,hm_f,hk_f,eZt h2,eqT h5,eZt h7]
    refine ar (hp_f _ _ g8) ?_
    obtain⟨r04,g9,b4⟩:=af b4
    simp(config:=cS)only[go_sem,hc_f.1,hc_f.2,hm_f,hk_f,eZt h2,eqT h5,eZt h7]
    have g9:=ctr g9
    refine ar g9 ?_
    obtain⟨h10,b4⟩|⟨h10,b4⟩:=dj b4
    ·obtain⟨r05,g11,b4⟩:=af b4
     simp(config:=cS)only[go_sem,hc_f.1,hc_f.2,hm_f,hk_f,eZt h2,eqT h5,eZt h7,eZt h10]
     refine ar (hp_f _ _ g11) ?_
     obtain⟨h12,b4⟩:=hY b4
     obtain⟨h13,b4⟩:=hY b4
     cases b4
     simp(config:=cS)only[go_sem,hc_f.1,hc_f.2,hm_f,hk_f,eZt h2,eqT h5,eZt h7,eZt h10,eqT h12,eqT h13]
     refine kY gb4 ?_
     simp(config:=cS)only[go_sem,hc_f.1,hc_f.2,hm_f,hk_f,eZt h2,eqT h5,eZt h7,eZt h10,eqT h12,eqT h13]
    cases b4
    obtain rfl:=(aX gb4).symm
    try dsimp only at h
    cases h
    simp(config:=cS)only[go_sem,hc_f.1,hc_f.2,hm_f,hk_f,eZt h2,eqT h5,eZt h7,eZf h10]
   cases b4
   obtain rfl:=(aX gb4).symm
   try dsimp only at h
   cases h
   simp(config:=cS)only[go_sem,hc_f.1,hc_f.2,hm_f,hk_f,eZt h2,eqT h5,eZf h7]
  cases b4
  obtain rfl:=(aX gb4).symm
  try dsimp only at h
  cases h
  simp(config:=cS)only[go_sem,hc_f.1,hc_f.2,hm_f,hk_f,eZt h2,eqF h5]
 cases h
 simp(config:=cS)only[go_sem,hc_f.1,hc_f.2,hm_f,hk_f,eZf h2]
instance k186 {i:aw}:Ctr (di i) (fun (res:Int)=>au prog 186 [.agg [.lit (.int .i64 i.low),.lit (.int .i64 i.high)]] [] (.lit (.int .i64 res)) []):=⟨by
 intro res h0
 refine co (hi:=hi00) func186 rfl rfl ?_
 unfold di at h0
 exact run⟩
instance k82 {s:GSimple}:Ctr (dd s) (fun (res:(List Int) × Bool)=>au prog 82 [.agg [.lit (.int .i64 s.events),.sl (ab GLink.enc s.links)]] [] (.tup [.ref 20000 1 0 res.1.length,.lit (.bool res.2)]) [(20000,1,.row true (ab eI res.1))]):=⟨by
 intro res h0
 refine bq (ra:=[.home 2]) (md:=mdT) hT (hi:=hi00) func82 rfl rfl (by decide +kernel) (by simp) ?_
 unfold dd at h0
 obtain⟨r01,g0,h0⟩:=af h0
 simp(config:=cS)only[go_sem, *]
 refine ar (zR (by exact fun _ _ hr=>by have q:=ctr hr;exact q) (by refine⟨fun _=>?_,fun _=>?_⟩ <;> simp only[go_sem]) (fun _=>rfl) rfl g0) ?_
 exact run⟩
@[go_sem] def mW (v24:Int)(s_0:List GNode)(s_1:List GTie)(s_2:Int):(Int × (List Int))→St
 | (v25,v23)=>⟨[(1,.ptr 64 1 0 0),(6,.ref 1152 1 0 v23.length),(23,.ref 1152 1 0 v23.length),(24,.lit (.int .i64 v24)),(25,.lit (.int .i64 v25))],[(64,1,.var [.sl (ab GNode.encS s_0),.sl (ab GTie.enc s_1),.lit (.int .i64 s_2)]),(1152,1,.row true (ab eI v23))],2⟩
instance k23 {s:GShow}:Ctr (cW s) (fun (res:(List Int) × Bool)=>au prog 23 [.agg (GShow.encS s)] [] (.tup [.ref 20000 1 0 res.1.length,.lit (.bool res.2)]) [(20000,1,.row true (ab eI res.1))]):=⟨by
 intro res h0
 refine bq (ra:=[.home 2]) (md:=mdT) hT (hi:=hi00) func23 rfl rfl (by decide +kernel) (by simp) ?_
 unfold cW at h0
 obtain⟨r01,g0,h0⟩:=af h0
 simp(config:=cS)only[go_sem, *]
 have g0:=ctr g0
 refine ar g0 ?_
 obtain⟨_,h0⟩|⟨_,h0⟩:=itB h0
 ·obtain⟨r02,g0,h0⟩:=af h0
  simp(config:=cS)only[go_sem, *]
  have g0:=ctr g0
  refine ar g0 ?_
  obtain⟨_,h0⟩|⟨_,h0⟩:=itB h0
  ·obtain⟨q05,l0,h0⟩:=af h0
   simp(config:=cS)only[go_sem, *]
   refine aq (m1:=.mk) (m2:=.mk) [.nf [1,6,23,24,25] [64,1152]] (mW (r02.1.length:Int) s.nodes s.ties s.horizon) l0 ?_ ?_
   ·simp(config:=cS)only[go_sem, *]
   have k0:=h0
   clear h0 l0
   intro _ s0 _ h0 gb0
   obtain⟨v25_1,v23_1⟩:=s0
   unfold cP at h0
   try dsimp only at h0
   exact run
  exact run
 exact run⟩
@[go_sem] def ol (v7:List GTie)(v8:Int):(Int × (List Int))→St
 | (v9,out)=>⟨[(3,.ref 255 1 0 out.length),(7,.sl (ab GTie.enc v7)),(8,.lit (.int .i64 v8)),(9,.lit (.int .i64 v9))],[(255,1,.row true (ab eI out))],2⟩
instance k87 {s:GShow}:Ctr (cM s) (fun (res:List Int)=>au prog 87 [.agg (GShow.encS s)] [] (.ref 20000 1 0 res.length) [(20000,1,.row true (ab eI res))]):=⟨by
 intro res h0
 refine bq (ra:=[.home 2]) (md:=mdT) hT (hi:=hi00) func87 rfl rfl (by decide +kernel) (by simp) ?_
 unfold cM at h0
 obtain⟨q02,l0,h0⟩:=af h0
 simp(config:=cS)only[go_sem, *]
 refine aq (m1:=.mk) (m2:=.mk) [.home 3,.nf [3,7,8,9] [255]] (ol s.ties (s.ties.length:Int)) l0 ?_ ?_
 ·simp(config:=cS)only[go_sem, *]
 have k0:=h0
 clear h0 l0
 intro _ s0 _ h0 gb0
 obtain⟨v9_1,out_1⟩:=s0
 unfold fh at h0
 try dsimp only at h0
 exact run⟩
@[go_sem] def mA (v12:Int)(s_0:List GNode)(s_1:List GTie)(s_2:Int)(v11:List Int):(Int × Int)→St
 | (n,v13)=>⟨[(1,.ptr 64 1 0 0),(3,.lit (.int .i64 n)),(11,.ref 704 1 0 v11.length),(12,.lit (.int .i64 v12)),(13,.lit (.int .i64 v13))],[(64,1,.var [.sl (ab GNode.encS s_0),.sl (ab GTie.enc s_1),.lit (.int .i64 s_2)]),(704,1,.row true (ab eI v11))],2⟩
@[go_sem] def mB (s_0:List GNode)(s_1:List GTie)(s_2:Int):(Int × Int)→St
 | (n,p)=>⟨[(1,.ptr 64 1 0 0),(3,.lit (.int .i64 n)),(6,.lit (.int .i64 p))],[(64,1,.var [.sl (ab GNode.encS s_0),.sl (ab GTie.enc s_1),.lit (.int .i64 s_2)])],2⟩
@[go_sem] def hi25_7:DT:=.r2 0 17 .nil
def hi25:Hint where
 acts:=fun _=>[]
 draws:=fun
  | 7=>⟨hi25_7,[[],[],[1],[],[1,2,3],[1,2,3,4],[1,2,3,4,5],[],[7],[],[7,8,9],[7,8,9,10],[7,8,9,10,11],[1,2,3,4,5,6,7,8,9,10,11,12],[1,2,3,4,5,6,7,8,9,10,11,12,13],.range 15,.range 16],.range 17⟩
  | _=>⟨.nil,[],[]⟩
theorem Nq (i:Nat):hi25.acts i=[]:=rfl
theorem Nr (i:Nat):hi25.views i=none:=rfl
attribute[go_sem] Nq Nr ntmps25 results25
@[go_sem] theorem Pu:(hi25.draws 7).order=hi25_7:=rfl
instance k25 {s:GShow}:Ctr (bp s) (fun (res:Int)=>au prog 25 [.agg (GShow.encS s)] [] (.lit (.int .i64 res)) []):=⟨by
 intro res h0
 refine co (hi:=hi25) func25 rfl rfl ?_
 unfold bp at h0
 obtain⟨r01,g0,h0⟩:=af h0
 simp(config:=cS)only[go_sem, *]
 have g0:=ctr g0
 refine ar g0 ?_
 obtain⟨_,h0⟩|⟨_,h0⟩:=itB h0
 ·obtain⟨r02,g0,h0⟩:=af h0
  simp(config:=cS)only[go_sem, *]
  have g0:=ctr g0
  refine ar g0 ?_
  obtain⟨q07,l0,h0⟩:=af h0
  simp(config:=cS)only[go_sem, *]
  refine aq (m1:=.mk) (m2:=.mk) [.nf [1,3,11,12,13] [64,704]] (mA (r02.length:Int) s.nodes s.ties s.horizon r02) l0 ?_ ?_
  ·simp(config:=cS)only[go_sem, *]
  have k0:=h0
  clear h0 l0
  intro _ s0 _ h0 gb0
  obtain⟨n_1,v13_1⟩:=s0
  unfold bT at h0
  try dsimp only at h0
  obtain⟨_,h0⟩|⟨_,h0⟩:=itP h0
  ·exact run
  cases h0
  obtain rfl:=(aX gb0).symm
  clear gb0
  have h0:=k0
  clear k0
  try dsimp only at h0
  obtain⟨q06,l0,h0⟩:=af h0
  simp(config:=cS)only[go_sem, *]
  refine aq (m1:=.mk) (m2:=.mk) [.nf [1,3,6] [64]] (mB s.nodes s.ties s.horizon) l0 ?_ ?_
  ·simp(config:=cS)only[go_sem, *]
  have k0:=h0
  clear h0 l0
  intro _ s0 _ h0 gb0
  obtain⟨n_2,p_2⟩:=s0
  unfold bF at h0
  try dsimp only at h0
  exact run
 exact run⟩
@[go_sem] def om (v13:Int)(s_0:List GNode)(s_1:List GTie)(s_2:Int)(v12:List Int):(Int × Int × (List Int))→St
 | (n,v14,h100020480)=>⟨[(1,.lit (.int .i64 n)),(2,.ptr 128 1 0 0),(4,.ptr 256 1 0 0),(5,.ptr 320 1 0 0),(12,.ref 768 1 0 v12.length),(13,.lit (.int .i64 v13)),(14,.lit (.int .i64 v14))],[(128,1,.var [.sl (ab GNode.encS s_0),.sl (ab GTie.enc s_1),.lit (.int .i64 s_2)]),(256,1,.var [.lit (.slice none 0 0),.lit (.slice none 0 0)]),(320,1,.var [.ref 100020480 1 0 h100020480.length,.lit (.slice none 0 0)]),(100020480,1,.row true (ab eI h100020480)),(768,1,.row true (ab eI v12))],2⟩
@[go_sem] def oo (s_0:List GNode)(s_1:List GTie)(s_2:Int)(h100020480:List Int):(Int × Int × (List Int))→St
 | (n,p,h100020481)=>⟨[(1,.lit (.int .i64 n)),(2,.ptr 128 1 0 0),(4,.ptr 256 1 0 0),(5,.ptr 320 1 0 0),(9,.lit (.int .i64 p))],[(128,1,.var [.sl (ab GNode.encS s_0),.sl (ab GTie.enc s_1),.lit (.int .i64 s_2)]),(256,1,.var [.lit (.slice none 0 0),.lit (.slice none 0 0)]),(320,1,.var [.ref 100020480 1 0 h100020480.length,.ref 100020481 1 0 h100020481.length]),(100020480,1,.row true (ab eI h100020480)),(100020481,1,.row true (ab eI h100020481))],2⟩
@[go_sem] def hi89_6:DT:=.i1 0 (.i1 1 (.r2 2 10 (.i0 12 [0,1] (.r2 13 3 .nil))))
@[go_sem] def hi89_5:DT:=.r2 0 15 .nil
def hi89:Hint where
 acts:=fun _=>[]
 draws:=fun
  | 5=>⟨hi89_5,[[],[0],[],[0,1,2],[0,1,2,3],.range 5,[],[6],[],[6,7,8],[6,7,8,9],[6,7,8,9,10],.range 12,.range 13,.range 14],.range 15⟩
  | 6=>⟨hi89_6,[[],[0],[],[2],[],[2,3,4],[2,3,4,5],[2,3,4,5,6],[],[],[8,9],[2,3,4,5,6,7,8,9,10],[2,3,4,5,6,7,8,9,10,11],.range 13,.range 14,.range 15],.range 16⟩
  | _=>⟨.nil,[],[]⟩
theorem Ns (i:Nat):hi89.acts i=[]:=rfl
theorem Nt (i:Nat):hi89.views i=none:=rfl
attribute[go_sem] Ns Nt ntmps89 results89
@[go_sem] theorem Pv:(hi89.draws 5).order=hi89_5:=rfl
@[go_sem] theorem Pw:(hi89.draws 6).order=hi89_6:=rfl
instance k89 {s:GShow} {n:Int}:Ctr (bQ s n) (fun (res:GChoice)=>au prog 89 [.agg (GShow.encS s),.lit (.int .i64 n)] [] (.agg [.ref 20000 1 0 res.lengths.length,.ref 20001 1 0 res.values.length]) [(20000,1,.row true (ab eI res.lengths)),(20001,1,.row true (ab eI res.values))]):=⟨by
 intro res h0
 refine bq (ra:=[.homeCell 256 0,.homeCell 256 1]) (md:=mdT) hT (hi:=hi89) func89 rfl rfl (by decide +kernel) (by simp) ?_
 unfold bQ at h0
 obtain⟨r01,g0,h0⟩:=af h0
 simp(config:=cS)only[go_sem, *]
 have g0:=ctr g0
 refine ar g0 ?_
 obtain⟨q06,l0,h0⟩:=af h0
 simp(config:=cS)only[go_sem, *]
 refine aq (m1:=.mk) (m2:=.mk) [.homeCell 320 0,.nf [1,2,4,5,12,13,14] [128,256,320,100020480,768]] (om (r01.length:Int) s.nodes s.ties s.horizon r01) l0 ?_ ?_
 ·simp(config:=cS)only[go_sem, *]
 have k0:=h0
 clear h0 l0
 intro _ s0 _ h0 gb0
 obtain⟨n_1,v14_1,h100020480_1⟩:=s0
 unfold ck at h0
 try dsimp only at h0
 obtain⟨_,h0⟩|⟨_,h0⟩:=itP h0
 ·exact run
 cases h0
 obtain rfl:=(aX gb0).symm
 clear gb0
 have h0:=k0
 clear k0
 try dsimp only at h0
 obtain⟨q05,l0,h0⟩:=af h0
 simp(config:=cS)only[go_sem, *]
 refine aq (m1:=.mk) (m2:=.mk) [.homeCell 320 1,.nf [1,2,4,5,9] [128,256,320,100020480,100020481]] (oo s.nodes s.ties s.horizon h100020480_1) l0 ?_ ?_
 ·simp(config:=cS)only[go_sem, *]
 have k0:=h0
 clear h0 l0
 intro _ s0 _ h0 gb0
 obtain⟨n_2,p_2,h100020481_2⟩:=s0
 unfold dE at h0
 try dsimp only at h0
 exact run⟩
instance k26 {s:GShow} {n:Int}:Ctr (dU s n) (fun (res:GChoice × Bool)=>au prog 26 [.agg (GShow.encS s),.lit (.int .i64 n)] [] (.tup [.agg [.ref 20000 1 0 res.1.lengths.length,.ref 20001 1 0 res.1.values.length],.lit (.bool res.2)]) [(20000,1,.row true (ab eI res.1.lengths)),(20001,1,.row true (ab eI res.1.values))]):=⟨by
 intro res h0
 refine bq (ra:=[.homeCell 256 0,.homeCell 256 1]) (md:=mdT) hT (hi:=hi00) func26 rfl rfl (by decide +kernel) (by simp) ?_
 unfold dU at h0
 exact run⟩
@[go_sem] def oq (v25:Int)(s_0:List GNode)(s_1:List GTie)(s_2:Int)(v3_0 v3_1 v24:List Int)(v26:Int):St:=⟨[(2,.ptr 128 1 0 0),(3,.ptr 192 1 0 0),(24,.ref 704 1 0 v24.length),(25,.lit (.int .i64 v25)),(26,.lit (.int .i64 v26))],[(128,1,.var [.sl (ab GNode.encS s_0),.sl (ab GTie.enc s_1),.lit (.int .i64 s_2)]),(192,1,.var [.sl (ab eI v3_0),.sl (ab eI v3_1)]),(704,1,.row true (ab eI v24))],2⟩
@[go_sem] def ot (v59:List Int)(v60:Int)(s_0:List GNode)(s_1:List GTie)(s_2 v61:Int):St:=⟨[(2,.ptr 128 1 0 0),(59,.sl (ab eI v59)),(60,.lit (.int .i64 v60)),(61,.lit (.int .i64 v61))],[(128,1,.var [.sl (ab GNode.encS s_0),.sl (ab GTie.enc s_1),.lit (.int .i64 s_2)])],2⟩
@[go_sem] def hi103_7:DT:=.r2 0 26 .nil
def AN:Hint where
 acts:=fun _=>[]
 draws:=fun
  | 7=>⟨hi103_7,[[],[0],[],[0,1,2],[0,1,2,3],[],[5],[],[5,6,7],[5,6,7,8],[5,6,7,8,9],.range 11,.range 12,.range 13,.range 14,.range 13,.range 16,.range 17,.range 13,[0,1,2,3,4,5,6,7,8,9,10,11,12,18],.range 13,[0,1,2,3,4,5,6,7,8,9,10,11,12,18,19,20],[0,1,2,3,4,5,6,7,8,9,10,11,12,18,19,20,21],[0,1,2,3,4,5,6,7,8,9,10,11,12,18,19,20,21,22],.range 24,.range 25],.range 26⟩
  | _=>⟨.nil,[],[]⟩
theorem Mo (i:Nat):AN.acts i=[]:=rfl
theorem Mp (i:Nat):AN.views i=none:=rfl
attribute[go_sem] Mo Mp ntmps103 results103
@[go_sem] theorem Pa:(AN.draws 7).order=hi103_7:=rfl
instance k103 {s:GShow} {v1:GChoice}:Ctr (gV s v1) (fun (res:Bool)=>au prog 103 [.agg (GShow.encS s),.agg [.sl (ab eI v1.lengths),.sl (ab eI v1.values)]] [] (.lit (.bool res)) []):=⟨by
 intro res h0
 refine co (hi:=AN) func103 rfl rfl ?_
 unfold gV at h0
 obtain⟨r01,g0,h0⟩:=af h0
 simp(config:=cS)only[go_sem, *]
 have g0:=ctr g0
 refine ar g0 ?_
 obtain⟨_,h0⟩|⟨_,h0⟩:=itP h0
 ·obtain⟨_,h0⟩|⟨_,h0⟩:=itP h0
  ·obtain⟨q09,l0,h0⟩:=af h0
   simp(config:=cS)only[go_sem, *]
   refine aq (m1:=.mk) (m2:=.mk) [.nf [2,3,24,25,26] [128,192,704]] (oq (r01.length:Int) s.nodes s.ties s.horizon v1.lengths v1.values r01) l0 ?_ ?_
   ·simp(config:=cS)only[go_sem, *]
   have k0:=h0
   clear h0 l0
   intro _ v26_1 _ h0 gb0
   unfold dC at h0
   try dsimp only at h0
   obtain⟨_,h0⟩|⟨_,h0⟩:=itP h0
   ·exact run
   cases h0
   obtain rfl:=(aX gb0).symm
   clear gb0
   have h0:=k0
   clear k0
   try dsimp only at h0
   obtain⟨q08,l0,h0⟩:=af h0
   simp(config:=cS)only[go_sem, *]
   refine aq (m1:=.mk) (m2:=.mk) [.nf [2,59,60,61] [128]] (ot v1.values (v1.values.length:Int) s.nodes s.ties s.horizon) l0 ?_ ?_
   ·simp(config:=cS)only[go_sem, *]
   have k0:=h0
   clear h0 l0
   intro _ v61_2 _ h0 gb0
   unfold dD at h0
   try dsimp only at h0
   exact run
  exact run
 exact run⟩
instance k90 {s:GShow} {v1:GChoice}:Ctr (dO s v1) (fun (res:Bool)=>au prog 90 [.agg (GShow.encS s),.agg [.sl (ab eI v1.lengths),.sl (ab eI v1.values)]] [] (.lit (.bool res)) []):=⟨by
 intro res h0
 refine co (hi:=hi00) func90 rfl rfl ?_
 unfold dO at h0
 exact run⟩
@[go_sem] def ou (times:List Int)(v37 v38 v52:Int)(s_0:List GNode)(s_1:List GTie)(s_2:Int)(v4_0 v4_1 out free v51:List Int):(Int × Int)→St
 | (n,v53)=>⟨[(2,.sl (ab eI times)),(3,.ptr 192 1 0 0),(4,.ptr 256 1 0 0),(8,.ref 2176 1 0 free.length),(9,.ref 639 1 0 out.length),(13,.lit (.int .i64 n)),(37,.lit (.int .i64 v37)),(38,.lit (.int .i64 v38)),(51,.ref 2816 1 0 v51.length),(52,.lit (.int .i64 v52)),(53,.lit (.int .i64 v53))],[(192,1,.var [.sl (ab GNode.encS s_0),.sl (ab GTie.enc s_1),.lit (.int .i64 s_2)]),(256,1,.var [.sl (ab eI v4_0),.sl (ab eI v4_1)]),(2176,1,.row true (ab eI free)),(639,1,.row true (ab eI out)),(2816,1,.row true (ab eI v51))],2⟩
@[go_sem] def ov (times:List Int)(v37:Int)(s_0:List GNode)(s_1:List GTie)(s_2:Int)(v4_0 v4_1 free:List Int):(Int × (List Int))→St
 | (v38,out)=>⟨[(2,.sl (ab eI times)),(3,.ptr 192 1 0 0),(4,.ptr 256 1 0 0),(8,.ref 2176 1 0 free.length),(9,.ref 639 1 0 out.length),(37,.lit (.int .i64 v37)),(38,.lit (.int .i64 v38))],[(192,1,.var [.sl (ab GNode.encS s_0),.sl (ab GTie.enc s_1),.lit (.int .i64 s_2)]),(256,1,.var [.sl (ab eI v4_0),.sl (ab eI v4_1)]),(2176,1,.row true (ab eI free)),(639,1,.row true (ab eI out))],2⟩
@[go_sem] def hi27_13:DT:=.i2 0 (.i1 1 (.i1 2 (.i2 3 (.i2 4 (.i0 5 [1,2] (.r2 6 4 .nil))))))
def hi27:Hint where
 acts:=fun _=>[]
 draws:=fun
  | 13=>⟨hi27_13,[[],[],[1],[],[],[3,4],[1,2,3,4,5],[1,2,3,4,5,6],.range 8,.range 9],.range 10⟩
  | _=>⟨.nil,[],[]⟩
theorem Nu (i:Nat):hi27.acts i=[]:=rfl
theorem Nv (i:Nat):hi27.views i=none:=rfl
attribute[go_sem] Nu Nv ntmps27 results27
@[go_sem] theorem Pb:(hi27.draws 13).order=hi27_13:=rfl
instance k27 {s:GShow} {v1:GChoice} {times:List Int}:Ctr (dV s v1 times) (fun (res:(List Int) × Bool)=>au prog 27 [.agg (GShow.encS s),.agg [.sl (ab eI v1.lengths),.sl (ab eI v1.values)],.sl (ab eI times)] [] (.tup [.ref 20000 1 0 res.1.length,.lit (.bool res.2)]) [(20000,1,.row true (ab eI res.1))]):=⟨by
 intro res h0
 refine bq (ra:=[.home 6]) (md:=mdT) hT (hi:=hi27) func27 rfl rfl (by decide +kernel) (by simp) ?_
 unfold dV at h0
 obtain⟨r01,g0,h0⟩:=af h0
 simp(config:=cS)only[go_sem, *]
 have g0:=ctr g0
 refine ar g0 ?_
 obtain⟨_,h0⟩|⟨_,h0⟩:=itB h0
 ·obtain⟨_,h0⟩|⟨_,h0⟩:=itP h0
  ·obtain⟨r02,g0,h0⟩:=af h0
   simp(config:=cS)only[go_sem, *]
   have g0:=ctr g0
   refine ar g0 ?_
   obtain⟨_,h0⟩|⟨_,h0⟩:=itB h0
   ·obtain⟨r03,g0,h0⟩:=af h0
    simp(config:=cS)only[go_sem, *]
    have g0:=ctr g0
    refine ar g0 ?_
    obtain⟨q10,l0,h0⟩:=af h0
    simp(config:=cS)only[go_sem, *]
    refine aq (m1:=.mk) (m2:=.mk) [.home 9,.nf [2,3,4,8,9,37,38] [192,256,2176,639]] (ov times (s.nodes.length:Int) s.nodes s.ties s.horizon v1.lengths v1.values r03) l0 ?_ ?_
    ·simp(config:=cS)only[go_sem, *]
    have k0:=h0
    clear h0 l0
    intro _ s0 _ h0 gb0
    obtain⟨v38_1,out_1⟩:=s0
    unfold dF at h0
    try dsimp only at h0
    obtain⟨_,h0⟩|⟨_,h0⟩:=itP h0
    ·obtain⟨r04,g0,h0⟩:=af h0
     simp(config:=cS)only[go_sem, *]
     have g0:=ctr g0
     refine ar g0 ?_
     obtain⟨x05,_,_,_,h0⟩:=gtI h0
     obtain⟨q09,l0,h0⟩:=af h0
     simp(config:=cS)only[go_sem, *]
     refine aq (m1:=.mk) (m2:=.mk) [.nf [2,3,4,8,9,13,37,38,51,52,53] [192,256,2176,639,2816]] (ou times (s.nodes.length:Int) v38_1 (r04.2.length:Int) s.nodes s.ties s.horizon v1.lengths v1.values out_1 r03 r04.2) l0 ?_ ?_
     ·simp(config:=cS)only[go_sem, *]
     have k0:=h0
     clear h0 l0
     intro _ s0 _ h0 gb0
     obtain⟨n_2,v53_2⟩:=s0
     unfold bR at h0
     try dsimp only at h0
     exact run
    exact run
   exact run
  exact run
 exact run⟩
instance k94 {v0:List Int}:Ctr (fm v0) (fun (res:List Int)=>au prog 94 [.sl (ab eI v0)] [] (.ref 20000 1 0 res.length) [(20000,1,.row true (ab eI res))]):=⟨by
 intro res h0
 refine bq (ra:=[.home 2]) (md:=mdT) hT (hi:=hi00) func94 rfl rfl (by decide +kernel) (by simp) ?_
 unfold fm at h0
 obtain⟨_,h0,_⟩|⟨a0,h0⟩:=Fy h0
 ·exact run
 have:=fun (e:_→List AV)=>Ef (e:=e) a0
 exact run⟩
instance k308 {n:Int}:Ctr (gW n) (fun (res:Bool)=>au prog 308 [.lit (.int .i64 n)] [] (.lit (.bool res)) []):=⟨by
 intro res h0
 refine co (hi:=hi00) func308 rfl rfl ?_
 unfold gW at h0
 exact run⟩
instance k256 {v:List Int}:Ctr (gX v) (fun (res:Bool)=>au prog 256 [.sl (ab eI v)] [] (.lit (.bool res)) []):=⟨by
 intro res h0
 refine co (hi:=hi00) func256 rfl rfl ?_
 unfold gX at h0
 obtain⟨_,h0⟩|⟨_,h0⟩:=itP h0
 ·obtain⟨r01,g0,h0⟩:=af h0
  simp(config:=cS)only[go_sem, *]
  refine ar (dJ (by exact fun _ _ hr=>by have q:=ctr hr;exact q) (by refine⟨fun _=>?_,fun _=>?_⟩ <;> simp only[go_sem]) (fun _=>rfl) rfl g0) ?_
  exact run
 exact run⟩
instance k257 {l:Int} {v:List Int}:Ctr (jn l v) (fun (res:Int)=>au prog 257 [.lit (.int .i64 l),.sl (ab eI v)] [] (.lit (.int .i64 res)) []):=⟨by
 intro res h0
 refine co (hi:=hi00) func257 rfl rfl ?_
 unfold jn at h0
 exact run⟩
@[go_sem] def nk (v v16:List Int)(v17:Int):(Int × Int)→St
 | (out,v18)=>⟨[(1,.sl (ab eI v)),(5,.lit (.int .i64 out)),(16,.sl (ab eI v16)),(17,.lit (.int .i64 v17)),(18,.lit (.int .i64 v18))],[],2⟩
instance k173 {l:List Int} {v:List Int}:Ctr (fJ l v) (fun (res:Int)=>au prog 173 [.sl (ab eI l),.sl (ab eI v)] [] (.lit (.int .i64 res)) []):=⟨by
 intro res h0
 refine co (hi:=hi00) func173 rfl rfl ?_
 unfold fJ at h0
 obtain⟨r01,g0,h0⟩:=af h0
 simp(config:=cS)only[go_sem, *]
 have g0:=ctr g0
 refine ar g0 ?_
 obtain⟨_,h0⟩|⟨_,h0⟩:=itB h0
 ·obtain⟨r02,g0,h0⟩:=af h0
  simp(config:=cS)only[go_sem, *]
  have g0:=ctr g0
  refine ar g0 ?_
  obtain⟨_,h0⟩|⟨_,h0⟩:=itB h0
  ·obtain⟨q05,l0,h0⟩:=af h0
   simp(config:=cS)only[go_sem, *]
   refine aq (m1:=.mk) (m2:=.mk) [.nf [1,5,16,17,18] []] (nk v l (l.length:Int)) l0 ?_ ?_
   ·simp(config:=cS)only[go_sem, *]
   have k0:=h0
   clear h0 l0
   intro _ s0 _ h0 gb0
   obtain⟨out_1,v18_1⟩:=s0
   unfold dP at h0
   try dsimp only at h0
   exact run
  exact run
 exact run⟩
@[go_sem] def hi69_1:DT:=.r2 0 11 .nil
def hi69:Hint where
 acts:=fun _=>[]
 draws:=fun
  | 1=>⟨hi69_1,[[],[0],[],[0,1,2],[0,1,2,3],.range 5,[],[6],.range 8,.range 9,.range 10],.range 11⟩
  | _=>⟨.nil,[],[]⟩
theorem Nw (i:Nat):hi69.acts i=[]:=rfl
theorem Nx (i:Nat):hi69.views i=none:=rfl
attribute[go_sem] Nw Nx ntmps69 results69
@[go_sem] theorem Px:(hi69.draws 1).order=hi69_1:=rfl
instance k69 {s:GShow} {v1:GChoice} {node:Int}:Ctr (cF s v1 node) (fun (res:Bool)=>au prog 69 [.agg (GShow.encS s),.agg [.sl (ab eI v1.lengths),.sl (ab eI v1.values)],.lit (.int .i64 node)] [] (.lit (.bool res)) []):=⟨by
 intro res h0
 refine co (hi:=hi69) func69 rfl rfl ?_
 unfold cF at h0
 exact run⟩
instance k252 {from_:Int} {to:Int} {low:Int} {high:Int} {reason:ByteArray} {out:GSimple} {reasons:List ByteArray}:Ctr (ca from_ to low high reason out reasons) (fun (res:GSimple × (List ByteArray))=>au prog 252 [.lit (.int .i64 from_),.lit (.int .i64 to),.lit (.int .i64 low),.lit (.int .i64 high),.lit (.string reason),.ptr 10000 0 0 0,.ptr 10002 0 0 0] [(10000,0,.var [.lit (.int .i64 out.events),.ref 10001 0 0 out.links.length]),(10001,0,.row true (ab GLink.enc out.links)),(10002,0,.var [.ref 10003 0 0 reasons.length]),(10003,0,.row true (ab eS reasons))] (.tup []) [(10000,0,.var [.lit (.int .i64 res.1.events),.ref 20000 1 0 res.1.links.length]),(10002,0,.var [.ref 20001 1 0 res.2.length]),(20000,1,.row true (ab GLink.enc res.1.links)),(20001,1,.row true (ab eS res.2))]):=⟨by
 intro res h0
 refine co (hi:=hi00) func252 rfl rfl ?_
 unfold ca at h0
 exact run⟩
instance k110 {n:Int}:Ctr (cV n) (fun (res:ByteArray)=>au prog 110 [.lit (.int .i64 n)] [] (.lit (.string res)) []):=⟨by
 intro res h0
 refine co (hi:=hi00) func110 rfl rfl ?_
 unfold cV at h0
 obtain⟨r01,g0,h0⟩:=af h0
 simp(config:=cS)only[go_sem, *]
 refine ar (zg g0) ?_
 exact run⟩
instance k113 {l:List ByteArray} {by_:ByteArray}:Ctr (ia l by_) (fun (res:ByteArray)=>au prog 113 [.sl (ab eS l),.lit (.string by_)] [] (.lit (.string res)) []):=⟨by
 intro res h0
 refine co (hi:=hi00) func113 rfl rfl ?_
 unfold ia at h0
 obtain⟨r01,g0,h0⟩:=af h0
 simp(config:=cS)only[go_sem, *]
 refine ar (zh g0) ?_
 exact run⟩
@[go_sem] def hi253_5:DT:=.i2 0 (.i1 1 (.i1 2 (.i1 3 (.i1 4 (.i1 5 (.i1 6 (.i1 7 (.i1 8 (.i1 9 (.i1 10 (.i1 11 (.i1 12 (.i1 13 (.i1 14 (.i2 15 (.i2 16 (.i1 18 (.i1 19 (.i0 17 [1,2,3,4,5,6,7,8,9,10,11,12,13,14,18,19] (.i0 20 [1,2,3,4,5,6,7,8,9,10,11,12,13,14] (.r2 21 3 .nil)))))))))))))))))))))
def AO:Hint where
 acts:=fun _=>[]
 draws:=fun
  | 5=>⟨hi253_5,[[],[],[1],[],[3],[1,2,3,4],[1,2,3,4,5],[1,2,3,4,5,6],[],[8],[],[10],[8,9,10,11],[8,9,10,11,12],[8,9,10,11,12,13],[],[15],[15,16],[],[18],[15,16,17,18,19],.range 21,.range 22,.range 23],.range 24⟩
  | _=>⟨.nil,[],[]⟩
theorem Mq (i:Nat):AO.acts i=[]:=rfl
theorem Mr (i:Nat):AO.views i=none:=rfl
attribute[go_sem] Mq Mr ntmps253 results253
@[go_sem] theorem Pc:(AO.draws 5).order=hi253_5:=rfl
instance k253 {s:GShow} {i:Int}:Ctr (gm s i) (fun (res:ByteArray)=>au prog 253 [.agg (GShow.encS s),.lit (.int .i64 i)] [] (.lit (.string res)) []):=⟨by
 intro res h0
 refine co (hi:=AO) func253 rfl rfl ?_
 unfold gm at h0
 exact run⟩
@[go_sem] def pn (v28:List GNode)(v29:Int)(s_1:List GTie)(s_2:Int)(v3_0 v3_1:List Int):(Int × Int × (List GLink) × (List ByteArray))→St
 | (v30,out_0,h100024577,h100028672)=>⟨[(2,.ptr 128 1 0 0),(3,.ptr 192 1 0 0),(4,.ptr 256 1 0 0),(6,.ptr 384 1 0 0),(7,.ptr 448 1 0 0),(8,.fn 252 [.ptr 384 1 0 0,.ptr 448 1 0 0]),(28,.sl (ab GNode.encS v28)),(29,.lit (.int .i64 v29)),(30,.lit (.int .i64 v30))],[(128,1,.var [.sl (ab GNode.encS v28),.sl (ab GTie.enc s_1),.lit (.int .i64 s_2)]),(192,1,.var [.sl (ab eI v3_0),.sl (ab eI v3_1)]),(256,1,.var [.lit (.int .i64 0),.lit (.slice none 0 0)]),(384,1,.var [.lit (.int .i64 out_0),.ref 100024577 1 0 h100024577.length]),(100024577,1,.row true (ab GLink.enc h100024577)),(448,1,.var [.ref 100028672 1 0 h100028672.length]),(100028672,1,.row true (ab eS h100028672))],2⟩
@[go_sem] def po (v51:List GTie)(v52:Int)(s_0:List GNode)(s_2:Int)(v3_0 v3_1 free:List Int):(Int × Int × (List GLink) × (List ByteArray))→St
 | (v53,out_0,h100024577,h100028672)=>⟨[(2,.ptr 128 1 0 0),(3,.ptr 192 1 0 0),(4,.ptr 256 1 0 0),(6,.ptr 384 1 0 0),(7,.ptr 448 1 0 0),(8,.fn 252 [.ptr 384 1 0 0,.ptr 448 1 0 0]),(11,.ref 3136 1 0 free.length),(51,.sl (ab GTie.enc v51)),(52,.lit (.int .i64 v52)),(53,.lit (.int .i64 v53))],[(128,1,.var [.sl (ab GNode.encS s_0),.sl (ab GTie.enc v51),.lit (.int .i64 s_2)]),(192,1,.var [.sl (ab eI v3_0),.sl (ab eI v3_1)]),(256,1,.var [.lit (.int .i64 0),.lit (.slice none 0 0)]),(384,1,.var [.lit (.int .i64 out_0),.ref 100024577 1 0 h100024577.length]),(100024577,1,.row true (ab GLink.enc h100024577)),(448,1,.var [.ref 100028672 1 0 h100028672.length]),(100028672,1,.row true (ab eS h100028672)),(3136,1,.row true (ab eI free))],2⟩
@[go_sem] def pq (v100:Int)(s_0:List GNode)(s_1:List GTie)(s_2:Int)(v3_0 v3_1:List Int):(Int × Int × (List GLink) × (List ByteArray))→St
 | (v101,out_0,h100024577,h100028672)=>⟨[(2,.ptr 128 1 0 0),(3,.ptr 192 1 0 0),(4,.ptr 256 1 0 0),(6,.ptr 384 1 0 0),(7,.ptr 448 1 0 0),(8,.fn 252 [.ptr 384 1 0 0,.ptr 448 1 0 0]),(100,.lit (.int .i64 v100)),(101,.lit (.int .i64 v101))],[(128,1,.var [.sl (ab GNode.encS s_0),.sl (ab GTie.enc s_1),.lit (.int .i64 s_2)]),(192,1,.var [.sl (ab eI v3_0),.sl (ab eI v3_1)]),(256,1,.var [.lit (.int .i64 0),.lit (.slice none 0 0)]),(384,1,.var [.lit (.int .i64 out_0),.ref 100024577 1 0 h100024577.length]),(100024577,1,.row true (ab GLink.enc h100024577)),(448,1,.var [.ref 100028672 1 0 h100028672.length]),(100028672,1,.row true (ab eS h100028672))],2⟩
@[go_sem] def pt (i:Int)(v114:List GNode)(v115:Int)(v122:List Int)(v123:Int)(s_1:List GTie)(s_2:Int)(v3_0 v3_1:List Int)(n_0:ByteArray)(n_2:Int):(Int × Int × (List GLink) × (List ByteArray))→St
 | (v124,out_0,h100024577,h100028672)=>⟨[(2,.ptr 128 1 0 0),(3,.ptr 192 1 0 0),(4,.ptr 256 1 0 0),(6,.ptr 384 1 0 0),(7,.ptr 448 1 0 0),(8,.fn 252 [.ptr 384 1 0 0,.ptr 448 1 0 0]),(17,.lit (.int .i64 i)),(18,.ptr 1152 1 0 0),(114,.sl (ab GNode.encS v114)),(115,.lit (.int .i64 v115)),(116,.lit (.int .i64 i)),(122,.sl (ab eI v122)),(123,.lit (.int .i64 v123)),(124,.lit (.int .i64 v124))],[(128,1,.var [.sl (ab GNode.encS v114),.sl (ab GTie.enc s_1),.lit (.int .i64 s_2)]),(192,1,.var [.sl (ab eI v3_0),.sl (ab eI v3_1)]),(256,1,.var [.lit (.int .i64 0),.lit (.slice none 0 0)]),(384,1,.var [.lit (.int .i64 out_0),.ref 100024577 1 0 h100024577.length]),(100024577,1,.row true (ab GLink.enc h100024577)),(448,1,.var [.ref 100028672 1 0 h100028672.length]),(100028672,1,.row true (ab eS h100028672)),(1152,1,.var [.lit (.string n_0),.sl (ab eI v122),.lit (.int .i64 n_2)])],2⟩
@[go_sem] def pu (v114:List GNode)(v115:Int)(s_1:List GTie)(s_2:Int)(v3_0 v3_1:List Int):(Int × Int × (List GLink) × (List ByteArray))→St
 | (v116,out_0,h100024577,h100028672)=>⟨[(2,.ptr 128 1 0 0),(3,.ptr 192 1 0 0),(4,.ptr 256 1 0 0),(6,.ptr 384 1 0 0),(7,.ptr 448 1 0 0),(8,.fn 252 [.ptr 384 1 0 0,.ptr 448 1 0 0]),(114,.sl (ab GNode.encS v114)),(115,.lit (.int .i64 v115)),(116,.lit (.int .i64 v116))],[(128,1,.var [.sl (ab GNode.encS v114),.sl (ab GTie.enc s_1),.lit (.int .i64 s_2)]),(192,1,.var [.sl (ab eI v3_0),.sl (ab eI v3_1)]),(256,1,.var [.lit (.int .i64 0),.lit (.slice none 0 0)]),(384,1,.var [.lit (.int .i64 out_0),.ref 100024577 1 0 h100024577.length]),(100024577,1,.row true (ab GLink.enc h100024577)),(448,1,.var [.ref 100028672 1 0 h100028672.length]),(100028672,1,.row true (ab eS h100028672))],2⟩
@[go_sem] def hi171_38:DT:=.i2 0 (.i1 1 (.i0 2 [1] (.i2 3 .nil)))
@[go_sem] def hi171_35:DT:=.r2 0 15 .nil
@[go_sem] def hi171_34:DT:=.i1 0 (.i2 1 (.i0 2 [0] (.i2 3 (.i2 4 .nil))))
@[go_sem] def hi171_19:DT:=.i2 0 (.i1 1 (.i1 2 (.i1 3 (.i1 4 (.r2 5 4 (.i0 9 [1,2,3,4] (.i2 10 .nil)))))))
@[go_sem] def hi171_17:DT:=.i1 0 (.i1 1 (.i2 2 (.i2 3 (.i0 4 [0,1] (.r2 5 3 .nil)))))
@[go_sem] def hi171_15:DT:=.r2 0 6 .nil
def ba:Hint where
 acts:=fun i=>match i with|8=>[.homeCell 384 1,.homeCell 448 0]|_=>[]
 draws:=fun
  | 15=>⟨hi171_15,[[],[0],[],[2],[0,1],.range 5],[0,1,3,4,2,5]⟩
  | 17=>⟨hi171_17,[[],[0],[],[],[2,3],.range 5,.range 6,.range 7],.range 8⟩
  | 19=>⟨hi171_19,[[],[],[1],[],[3],[],[],[],[],[7,8],.range 10],.range 11⟩
  | 34=>⟨hi171_34,[[],[],[1],[0,1,2],[0,1,2,3]],.range 5⟩
  | 35=>⟨hi171_35,[[],[],[],[],[3],[],[3,4,5],[3,4,5,6],[3,4,5,6,7],[3,4,5,6,7,8],[3,4,5,6,7,8,9],[],[11],[3,4,5,6,7,8,9,10,11,12],.range 14],.range 15⟩
  | 38=>⟨hi171_38,[[],[],[0],[0,1,2]],[0,2,1,3]⟩
  | _=>⟨.nil,[],[]⟩
@[go_sem] theorem Pd:ba.acts 0=[]:=rfl
@[go_sem] theorem Pe:ba.acts 1=[]:=rfl
@[go_sem] theorem Pf:ba.acts 2=[]:=rfl
@[go_sem] theorem Pg:ba.acts 3=[]:=rfl
@[go_sem] theorem Ph:ba.acts 4=[]:=rfl
@[go_sem] theorem Pi:ba.acts 5=[]:=rfl
@[go_sem] theorem Pj:ba.acts 6=[]:=rfl
@[go_sem] theorem Pk:ba.acts 7=[]:=rfl
@[go_sem] theorem Pl:ba.acts 8=[.homeCell 384 1,.homeCell 448 0]:=rfl
@[go_sem] theorem Pm:ba.acts 9=[]:=rfl
@[go_sem] theorem NW:ba.acts 10=[]:=rfl
@[go_sem] theorem NX:ba.acts 11=[]:=rfl
@[go_sem] theorem NY:ba.acts 12=[]:=rfl
@[go_sem] theorem NZ:ba.acts 13=[]:=rfl
@[go_sem] theorem Oa:ba.acts 14=[]:=rfl
@[go_sem] theorem Ob:ba.acts 15=[]:=rfl
@[go_sem] theorem Oc:ba.acts 16=[]:=rfl
@[go_sem] theorem Od:ba.acts 17=[]:=rfl
@[go_sem] theorem Oe:ba.acts 18=[]:=rfl
@[go_sem] theorem Of:ba.acts 19=[]:=rfl
@[go_sem] theorem Og:ba.acts 20=[]:=rfl
@[go_sem] theorem Oh:ba.acts 21=[]:=rfl
@[go_sem] theorem Oi:ba.acts 22=[]:=rfl
@[go_sem] theorem Oj:ba.acts 23=[]:=rfl
@[go_sem] theorem Ok:ba.acts 24=[]:=rfl
@[go_sem] theorem Ol:ba.acts 25=[]:=rfl
@[go_sem] theorem Om:ba.acts 26=[]:=rfl
@[go_sem] theorem On:ba.acts 27=[]:=rfl
@[go_sem] theorem Oo:ba.acts 28=[]:=rfl
@[go_sem] theorem Oq:ba.acts 29=[]:=rfl
@[go_sem] theorem Ot:ba.acts 30=[]:=rfl
@[go_sem] theorem Ou:ba.acts 31=[]:=rfl
@[go_sem] theorem Ov:ba.acts 32=[]:=rfl
@[go_sem] theorem Ow:ba.acts 33=[]:=rfl
@[go_sem] theorem Ox:ba.acts 34=[]:=rfl
@[go_sem] theorem Oy:ba.acts 35=[]:=rfl
@[go_sem] theorem Oz:ba.acts 36=[]:=rfl
@[go_sem] theorem OA:ba.acts 37=[]:=rfl
@[go_sem] theorem OB:ba.acts 38=[]:=rfl
theorem Ms (i:Nat):ba.views i=none:=rfl
attribute[go_sem] Ms ntmps171 results171
@[go_sem] theorem OC:(ba.draws 15).order=hi171_15:=rfl
@[go_sem] theorem OD:(ba.draws 17).order=hi171_17:=rfl
@[go_sem] theorem OE:(ba.draws 19).order=hi171_19:=rfl
@[go_sem] theorem OF:(ba.draws 34).order=hi171_34:=rfl
@[go_sem] theorem OG:(ba.draws 35).order=hi171_35:=rfl
@[go_sem] theorem OH:(ba.draws 38).order=hi171_38:=rfl
instance k171 {s:GShow} {v1:GChoice}:Ctr (iu s v1) (fun (res:GSimple × (List ByteArray))=>au prog 171 [.agg (GShow.encS s),.agg [.sl (ab eI v1.lengths),.sl (ab eI v1.values)]] [] (.tup [.agg [.lit (.int .i64 res.1.events),.ref 20000 1 0 res.1.links.length],.ref 20001 1 0 res.2.length]) [(20000,1,.row true (ab GLink.enc res.1.links)),(20001,1,.row true (ab eS res.2))]):=⟨by
 intro res h0
 refine bq (ra:=[.homeCell 256 1,.home 5]) (md:=mdT) hT (hi:=ba) func171 rfl rfl (by decide +kernel) (by simp) ?_
 unfold iu at h0
 obtain⟨q27,l0,h0⟩:=af h0
 simp(config:=cS)only[go_sem, *]
 refine aq (m1:=.mk) (m2:=.mk) [.homeCell 384 1,.homeCell 448 0,.nfp [2,3,4,6,7,8,28,29,30] [(128,128),(192,192),(256,256),(384,384),(2944,100024577),(100024577,100024577),(448,448),(2945,100028672),(100028672,100028672)] []] (pn s.nodes (s.nodes.length:Int) s.ties s.horizon v1.lengths v1.values) l0 ?_ ?_
 ·simp(config:=cS)only[go_sem, *]
 have k0:=h0
 clear h0 l0
 intro _ s0 _ h0 gb0
 obtain⟨v30_1,out_0_1,h100024577_1,h100028672_1⟩:=s0
 unfold fK at h0
 try dsimp only at h0
 obtain⟨_,h0⟩|⟨_,h0⟩:=itP h0
 ·exact run
 cases h0
 obtain rfl:=(aX gb0).symm
 clear gb0
 have h0:=k0
 clear k0
 try dsimp only at h0
 obtain⟨r04,g0,h0⟩:=af h0
 simp(config:=cS)only[go_sem, *]
 have g0:=ctr g0
 refine ar g0 ?_
 obtain⟨q26,l0,h0⟩:=af h0
 simp(config:=cS)only[go_sem, *]
 refine aq (m1:=.mk) (m2:=.mk) [.nfp [2,3,4,6,7,8,11,51,52,53] [(128,128),(192,192),(256,256),(384,384),(6144,100024577),(100024577,100024577),(448,448),(6145,100028672),(100028672,100028672),(3136,3136)] []] (po s.ties (s.ties.length:Int) s.nodes s.horizon v1.lengths v1.values r04) l0 ?_ ?_
 ·simp(config:=cS)only[go_sem, *]
 have k0:=h0
 clear h0 l0
 intro _ s0 _ h0 gb0
 obtain⟨v53_2,out_0_2,h100024577_2,h100028672_2⟩:=s0
 unfold fL at h0
 try dsimp only at h0
 obtain⟨_,h0⟩|⟨_,h0⟩:=itP h0
 ·exact run
 cases h0
 obtain rfl:=(aX gb0).symm
 clear gb0
 have h0:=k0
 clear k0
 try dsimp only at h0
 obtain⟨q25,l0,h0⟩:=af h0
 simp(config:=cS)only[go_sem, *]
 refine aq (m1:=.mk) (m2:=.mk) [.nfp [2,3,4,6,7,8,100,101] [(128,128),(192,192),(256,256),(384,384),(7104,100024577),(100024577,100024577),(448,448),(7105,100028672),(100028672,100028672)] []] (pq (s.nodes.length:Int) s.nodes s.ties s.horizon v1.lengths v1.values) l0 ?_ ?_
 ·simp(config:=cS)only[go_sem, *]
 have k0:=h0
 clear h0 l0
 intro _ s0 _ h0 gb0
 obtain⟨v101_3,out_0_3,h100024577_3,h100028672_3⟩:=s0
 unfold fM at h0
 try dsimp only at h0
 obtain⟨_,h0⟩|⟨_,h0⟩:=itP h0
 ·exact run
 cases h0
 obtain rfl:=(aX gb0).symm
 clear gb0
 have h0:=k0
 clear k0
 try dsimp only at h0
 obtain⟨q24,l0,h0⟩:=af h0
 simp(config:=cS)only[go_sem, *]
 refine aq (m1:=.mk) (m2:=.mk) [.nf [2,3,4,6,7,8,114,115,116] [128,192,256,384,100024577,448,100028672]] (pu s.nodes (s.nodes.length:Int) s.ties s.horizon v1.lengths v1.values) l0 ?_ ?_
 ·simp(config:=cS)only[go_sem, *]
 have k0:=h0
 clear h0 l0
 intro _ s0 _ h0 gb0
 obtain⟨v116_4,out_0_4,h100024577_4,h100028672_4⟩:=s0
 unfold fO at h0
 try dsimp only at h0
 obtain⟨_,h0⟩|⟨_,h0⟩:=itP h0
 ·obtain⟨x16,_,_,_,h0⟩:=gtI h0
  obtain⟨q23,l0,h0⟩:=af h0
  simp(config:=cS)only[go_sem, *]
  refine aq (m1:=.mk) (m2:=.mk) [.nfp [2,3,4,6,7,8,17,18,114,115,116,122,123,124] [(128,128),(192,192),(256,256),(384,384),(9600,100024577),(100024577,100024577),(448,448),(9601,100028672),(100028672,100028672),(1152,1152)] []] (pt v116_4 s.nodes (s.nodes.length:Int) x16.label (x16.label.length:Int) s.ties s.horizon v1.lengths v1.values x16.name x16.watch) l0 ?_ ?_
  ·simp(config:=cS)only[go_sem, *]
  have k0:=h0
  clear h0 l0
  intro _ s0 _ h0 gb0
  obtain⟨v124_5,out_0_5,h100024577_5,h100028672_5⟩:=s0
  unfold fN at h0
  try dsimp only at h0
  obtain⟨_,h0⟩|⟨_,h0⟩:=itP h0
  ·obtain⟨x17,_,_,_,h0⟩:=gtI h0
   obtain⟨r18,g0,h0⟩:=af h0
   simp(config:=cS)only[go_sem, *]
   have g0:=ctr g0
   refine ar g0 ?_
   obtain⟨_,h0⟩|⟨_,h0⟩:=itB h0
   ·obtain⟨r19,g0,h0⟩:=af h0
    simp(config:=cS)only[go_sem, *]
    have g0:=ctr g0
    refine ar g0 ?_
    obtain⟨r20,g0,h0⟩:=af h0
    simp(config:=cS)only[go_sem, *]
    have g0:=ctr g0
    refine ar g0 ?_
    obtain⟨x21,_,_,_,h0⟩:=gtI h0
    obtain⟨_,h0⟩:=ckP h0
    obtain⟨a1,h0⟩:=ckP h0
    try simp(config:=cS)only[go_sem]at a1
    obtain⟨a2,h0⟩:=ckP h0
    try simp(config:=cS)only[go_sem]at a2
    exact run
   exact run
  exact run
 exact run⟩
instance k68 {s:GShow} {v1:GChoice}:Ctr (fj s v1) (fun (res:GSimple × Bool)=>au prog 68 [.agg (GShow.encS s),.agg [.sl (ab eI v1.lengths),.sl (ab eI v1.values)]] [] (.tup [.agg [.lit (.int .i64 res.1.events),.ref 20000 1 0 res.1.links.length],.lit (.bool res.2)]) [(20000,1,.row true (ab GLink.enc res.1.links))]):=⟨by
 intro res h0
 refine bq (ra:=[.homeCell 256 1]) (md:=mdT) hT (hi:=hi00) func68 rfl rfl (by decide +kernel) (by simp) ?_
 unfold fj at h0
 exact run⟩
instance k271 {n:Int}:Ctr (hM n) (fun (res:Bool)=>au prog 271 [.lit (.int .i64 n)] [] (.lit (.bool res)) []):=⟨by
 intro res h0
 refine co (hi:=hi00) func271 rfl rfl ?_
 unfold hM at h0
 exact run⟩
instance k196 {s:GSimple} {times:List Int}:Ctr (fq s times) (fun (res:Bool)=>au prog 196 [.agg [.lit (.int .i64 s.events),.sl (ab GLink.enc s.links)],.sl (ab eI times)] [] (.lit (.bool res)) []):=⟨by
 intro res h0
 refine co (hi:=hi00) func196 rfl rfl ?_
 unfold fq at h0
 obtain⟨r01,g0,h0⟩:=af h0
 simp(config:=cS)only[go_sem, *]
 have g0:=ctr g0
 refine ar g0 ?_
 obtain⟨_,h0⟩|⟨_,h0⟩:=itB h0
 ·obtain⟨_,h0⟩|⟨_,h0⟩:=itP h0
  ·obtain⟨r02,g0,h0⟩:=af h0
   simp(config:=cS)only[go_sem, *]
   refine ar (dJ (by exact fun _ _ hr=>by have q:=ctr hr;exact q) (by refine⟨fun _=>?_,fun _=>?_⟩ <;> simp only[go_sem]) (fun _=>rfl) rfl g0) ?_
   exact run
  exact run
 exact run⟩
instance k274 {i:aw} {n:Int}:Ctr (hN i n) (fun (res:Bool)=>au prog 274 [.agg [.lit (.int .i64 i.low),.lit (.int .i64 i.high)],.lit (.int .i64 n)] [] (.lit (.bool res)) []):=⟨by
 intro res h0
 refine co (hi:=hi00) func274 rfl rfl ?_
 unfold hN at h0
 exact run⟩
@[go_sem] def hi273_1:DT:=.r2 0 16 .nil
def AP:Hint where
 acts:=fun _=>[]
 draws:=fun
  | 1=>⟨hi273_1,[[],[0],[],[],[3],[2,3,4],[2,3,4,5],[],[],[8],[7,8,9],[7,8,9,10],[2,3,4,5,6,7,8,9,10,11],.range 13,.range 14,.range 15],.range 16⟩
  | _=>⟨.nil,[],[]⟩
theorem Mt (i:Nat):AP.acts i=[]:=rfl
theorem Mu (i:Nat):AP.views i=none:=rfl
attribute[go_sem] Mt Mu ntmps273 results273
@[go_sem] theorem Pn:(AP.draws 1).order=hi273_1:=rfl
instance k273 {l:GLink} {times:List Int}:Ctr (fZ l times) (fun (res:Bool)=>au prog 273 [.agg (GLink.enc l),.loc [.sl (ab eI times)]] [] (.lit (.bool res)) []):=⟨by
 intro res h0
 refine co (hi:=AP) func273 rfl rfl ?_
 unfold fZ at h0
 exact run⟩
instance k197 {s:GSimple} {times:List Int}:Ctr (fU s times) (fun (res:Int)=>au prog 197 [.agg [.lit (.int .i64 s.events),.sl (ab GLink.enc s.links)],.sl (ab eI times)] [] (.lit (.int .i64 res)) []):=⟨by
 intro res h0
 refine co (hi:=hi00) func197 rfl rfl ?_
 unfold fU at h0
 obtain⟨r01,g0,h0⟩:=af h0
 simp(config:=cS)only[go_sem, *]
 have g0:=ctr g0
 refine ar g0 ?_
 obtain⟨_,h0⟩|⟨_,h0⟩:=itB h0
 ·obtain⟨r02,g0,h0⟩:=af h0
  simp(config:=cS)only[go_sem, *]
  refine ar (jG (by exact fun _ _ hr=>by have q:=ctr hr;exact q) (by refine⟨fun _=>?_,fun _=>?_⟩ <;> simp only[go_sem]) (fun _=>rfl) rfl g0) ?_
  exact run
 exact run⟩
instance k95 {s:GSimple} {times:List Int}:Ctr (fV s times) (fun (res:Bool)=>au prog 95 [.agg [.lit (.int .i64 s.events),.sl (ab GLink.enc s.links)],.sl (ab eI times)] [] (.lit (.bool res)) []):=⟨by
 intro res h0
 refine co (hi:=hi00) func95 rfl rfl ?_
 unfold fV at h0
 obtain⟨r01,g0,h0⟩:=af h0
 simp(config:=cS)only[go_sem, *]
 have g0:=ctr g0
 refine ar g0 ?_
 obtain⟨_,h0⟩|⟨_,h0⟩:=itB h0
 ·obtain⟨x02,g1,h0⟩:=af h0
  have:=uo (k:=0) g1
  exact run
 exact run⟩
@[go_sem] def ow (v26:List Int)(v27:Int)(s_0:List GNode)(s_1:List GTie)(s_2:Int)(v4_0 v4_1:List Int):(Int × (List Int))→St
 | (v28,filled)=>⟨[(3,.ptr 192 1 0 0),(4,.ptr 256 1 0 0),(7,.ref 1600 1 0 filled.length),(26,.sl (ab eI v26)),(27,.lit (.int .i64 v27)),(28,.lit (.int .i64 v28))],[(192,1,.var [.sl (ab GNode.encS s_0),.sl (ab GTie.enc s_1),.lit (.int .i64 s_2)]),(256,1,.var [.sl (ab eI v4_0),.sl (ab eI v4_1)]),(1600,1,.row true (ab eI filled))],2⟩
instance k28 {s:GShow} {v1:GChoice} {times:List Int}:Ctr (dW s v1 times) (fun (res:Bool)=>au prog 28 [.agg (GShow.encS s),.agg [.sl (ab eI v1.lengths),.sl (ab eI v1.values)],.sl (ab eI times)] [] (.lit (.bool res)) []):=⟨by
 intro res h0
 refine co (hi:=hi00) func28 rfl rfl ?_
 unfold dW at h0
 obtain⟨r01,g0,h0⟩:=af h0
 simp(config:=cS)only[go_sem, *]
 have g0:=ctr g0
 refine ar g0 ?_
 obtain⟨_,h0⟩|⟨_,h0⟩:=itB h0
 ·obtain⟨_,h0⟩|⟨_,h0⟩:=itP h0
  ·obtain⟨r02,g0,h0⟩:=af h0
   simp(config:=cS)only[go_sem, *]
   have g0:=ctr g0
   refine ar g0 ?_
   obtain⟨q08,l0,h0⟩:=af h0
   simp(config:=cS)only[go_sem, *]
   refine aq (m1:=.mk) (m2:=.mk) [.nf [3,4,7,26,27,28] [192,256,1600]] (ow times (times.length:Int) s.nodes s.ties s.horizon v1.lengths v1.values) l0 ?_ ?_
   ·simp(config:=cS)only[go_sem, *]
   have k0:=h0
   clear h0 l0
   intro _ s0 _ h0 gb0
   obtain⟨v28_1,filled_1⟩:=s0
   unfold cX at h0
   try dsimp only at h0
   obtain⟨_,h0⟩|⟨_,h0⟩:=itP h0
   ·obtain⟨x03,_,_,_,h0⟩:=gtI h0
    obtain⟨r04,g0,h0⟩:=af h0
    simp(config:=cS)only[go_sem, *]
    have g0:=ctr g0
    refine ar g0 ?_
    obtain⟨_,h0⟩|⟨_,h0⟩:=itP h0
    ·simp(config:=cS)only[go_sem, *]
     exact run
    exact run
   exact run
  exact run
 exact run⟩
instance k29 {s:GShow}:Ctr (fw s) (fun (res:Bool)=>au prog 29 [.agg (GShow.encS s)] [] (.lit (.bool res)) []):=⟨by
 intro res h0
 refine co (hi:=hi00) func29 rfl rfl ?_
 unfold fw at h0
 exact run⟩
@[go_sem] def pY (n:Int):(Int × (List Int) × Int × Int)→St
 | (i,v5_0,v5_1,v5_2)=>⟨[(1,.lit (.int .i64 n)),(5,.ptr 512 1 0 0),(6,.lit (.int .i64 i))],[(512,1,.var [.sl (ab (eK .u8) v5_0),.lit (.int .i64 v5_1),.lit (.int .i64 v5_2)])],2⟩
instance k84 {code:List Int} {n:Int}:Ctr (iT code n) (fun (res:GL01Cur)=>au prog 84 [.sl (ab (eK .u8) code),.lit (.int .i64 n)] [] (.ptr 20000 1 0 0) [(20000,1,.var [.sl (ab (eK .u8) res.b),.lit (.int .i64 res.i),.lit (.int .i64 res.h)])]):=⟨by
 intro res h0
 refine co (hi:=hi00) func84 rfl rfl ?_
 unfold iT at h0
 obtain⟨r01,g0,h0⟩:=af h0
 simp(config:=cS)only[go_sem, *]
 have g0:=ctr g0
 refine ar g0 ?_
 obtain⟨q03,l0,h0⟩:=af h0
 simp(config:=cS)only[go_sem, *]
 refine aq (m1:=.mk) (m2:=.mk) [.nf [1,5,6] [512]] (pY n) l0 ?_ ?_
 ·simp(config:=cS)only[go_sem, *]
 have k0:=h0
 clear h0 l0
 intro _ s0 _ h0 gb0
 obtain⟨i_1,v5_0_1,v5_1_1,v5_2_1⟩:=s0
 unfold gF at h0
 try dsimp only at h0
 exact run⟩
@[go_sem] def nP (n:Int):((List Int) × Int × Int × (List Int))→St
 | (v7_0,v7_1,v7_2,t)=>⟨[(2,.lit (.int .i64 n)),(7,.ptr 704 1 0 0),(8,.ref 768 1 0 t.length)],[(704,1,.var [.sl (ab (eK .u8) v7_0),.lit (.int .i64 v7_1),.lit (.int .i64 v7_2)]),(768,1,.row true (ab eI t))],2⟩
instance k24 {code:List Int} {at_:Int} {n:Int}:Ctr (gG code at_ n) (fun (res:List Int)=>au prog 24 [.sl (ab (eK .u8) code),.lit (.int .i64 at_),.lit (.int .i64 n)] [] (.ref 20000 1 0 res.length) [(20000,1,.row true (ab eI res))]):=⟨by
 intro res h0
 refine bq (ra:=[.home 6]) (md:=mdT) hT (hi:=hi00) func24 rfl rfl (by decide +kernel) (by simp) ?_
 unfold gG at h0
 obtain⟨r01,g0,h0⟩:=af h0
 simp(config:=cS)only[go_sem, *]
 have g0:=ctr g0
 refine ar g0 ?_
 obtain⟨q03,l0,h0⟩:=af h0
 simp(config:=cS)only[go_sem, *]
 refine aq (m1:=.mk) (m2:=.mk) [.nf [2,7,8] [704,768]] (nP n) l0 ?_ ?_
 ·simp(config:=cS)only[go_sem, *]
 have k0:=h0
 clear h0 l0
 intro _ s0 _ h0 gb0
 obtain⟨v7_0_1,v7_1_1,v7_2_1,t_1⟩:=s0
 unfold eF at h0
 try dsimp only at h0
 exact run⟩
@[go_sem] def oz (ok:Bool)(s_2:Int)(h1024:List GNode)(h1025:List GTie)(t:List Int):(Bool × Int)→St
 | (all,n)=>⟨[(3,.ptr 192 1 0 0),(4,.ref 1216 1 0 t.length),(5,.lit (.bool ok)),(6,.lit (.bool all)),(7,.lit (.int .i64 n))],[(192,1,.var [.ref 1024 1 0 h1024.length,.ref 1025 1 0 h1025.length,.lit (.int .i64 s_2)]),(1024,1,.row true (ab GNode.encO h1024)),(1025,1,.row true (ab GTie.enc h1025)),(1216,1,.row true (ab eI t))],2⟩
@[go_sem] def oA (ok:Bool)(s_2:Int)(h1024:List GNode)(h1025:List GTie)(t:List Int):(Bool × Int)→St
 | (all,n)=>⟨[(3,.ptr 192 1 0 0),(4,.ref 1792 1 0 t.length),(5,.lit (.bool ok)),(6,.lit (.bool all)),(7,.lit (.int .i64 n))],[(192,1,.var [.ref 1024 1 0 h1024.length,.ref 1025 1 0 h1025.length,.lit (.int .i64 s_2)]),(1024,1,.row true (ab GNode.encO h1024)),(1025,1,.row true (ab GTie.enc h1025)),(1792,1,.row true (ab eI t))],2⟩
theorem wD {code:List Int}{res:Bool}(h0:je code=some res):au prog 4 [.sl (ab (eK .u8) code)] [] (.lit (.bool res)) []:=by
 refine co (hi:=hi00) func4 rfl rfl ?_
 unfold je at h0
 obtain⟨_,h0⟩|⟨_,h0⟩:=itP h0
 ·exact run
 obtain⟨r01,g0,h0⟩:=af h0
 simp(config:=cS)only[go_sem, *]
 have g0:=ctr g0
 refine ar g0 ?_
 obtain⟨r02,g0,h0⟩:=af h0
 simp(config:=cS)only[go_sem, *]
 have g0:=ctr g0
 refine ar g0 ?_
 obtain⟨_,h0⟩|⟨_,h0⟩:=itB h0
 ·obtain⟨q08,l0,h0⟩:=af h0
  simp(config:=cS)only[go_sem, *]
  refine aq (m1:=.mk) (m2:=.mk) [.nf [3,4,5,6,7] [192,1024,1025,1216]] (oz r02.2 r01.horizon r01.nodes r01.ties r02.1) l0 ?_ ?_
  ·simp(config:=cS)only[go_sem, *]
  have k0:=h0
  clear h0 l0
  intro _ s0 _ h0 gb0
  obtain⟨all_1,n_1⟩:=s0
  unfold dG at h0
  try dsimp only at h0
  exact run
 obtain⟨r09,g0,h0⟩:=af h0
 simp(config:=cS)only[go_sem, *]
 have g0:=ctr g0
 refine ar g0 ?_
 obtain⟨q15,l0,h0⟩:=af h0
 simp(config:=cS)only[go_sem, *]
 refine aq (m1:=.mk) (m2:=.mk) [.nf [3,4,5,6,7] [192,1024,1025,1792]] (oA r02.2 r01.horizon r01.nodes r01.ties r09) l0 ?_ ?_
 ·simp(config:=cS)only[go_sem, *]
 have k0:=h0
 clear h0 l0
 intro _ s0 _ h0 gb0
 obtain⟨all_2,n_2⟩:=s0
 unfold dH at h0
 try dsimp only at h0
 exact run
end Go.Proofs.Qj
