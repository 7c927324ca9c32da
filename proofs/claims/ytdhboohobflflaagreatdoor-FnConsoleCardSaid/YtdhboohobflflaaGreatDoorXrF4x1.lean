/- Functions. -/
import Derived.Test.YtdhboohobflflaaGreatDoorXrF4x0
set_option linter.all false
set_option maxRecDepth 100000
set_option maxHeartbeats 4000000
namespace Go.Proofs.Qr
open Go Tryz
@[go_sem] def hi299_3:DT:=.r2 0 3 (.i1 5 (.i2 6 (.i2 7 (.i0 3 [5] (.i2 4 (.r2 8 7 .nil))))))
def DB:Hint where
 acts:=fun _=>[]
 draws:=fun
  | 3=>⟨hi299_3,[[],[],[],[0,1,2],[0,1,2,3],[],[],[],[0,1,2,3,5,6,7],.range 9,.range 10,.range 11,.range 11,.range 13,.range 14],.range 15⟩
  | _=>⟨.nil,[],[]⟩
theorem JZ (i:Nat):DB.acts i=[]:=rfl
attribute[go_sem] JZ ntmps299 results299
@[go_sem] theorem Wo:(DB.draws 3).order=hi299_3:=rfl
instance k299 {t:az} {i:Int} {k:Int}:Ctr (gw t i k) (fun (res:ar × Bool)=>ai prog 299 [.agg [.lit (.int .i64 t.size),.sl (ab eI t.cells)],.lit (.int .i64 i),.lit (.int .i64 k)] [] (.tup [.agg [.lit (.int .i64 res.1.low),.lit (.int .i64 res.1.high)],.lit (.bool res.2)]) []):=⟨by
 intro res h0
 refine co (hi:=DB) func299 rfl rfl ?_
 unfold gw at h0
 exact run⟩
attribute[go_sem] ntmps290 results290 ntmps268 results268 ntmps269 results269 ntmps230 results230 ntmps172 results172 ntmps134 results134 ntmps75 results75 ntmps63 results63 ntmps62 results62 ntmps231 results231 ntmps64 results64 ntmps117 results117 ntmps248 results248 ntmps186 results186 ntmps282 results282 ntmps250 results250 ntmps188 results188 ntmps71 results71 ntmps66 results66 ntmps41 results41 ntmps67 results67 ntmps37 results37 ntmps71 results71 ntmps40 results40 ntmps255 results255 ntmps196 results196 ntmps132 results132 ntmps198 results198 ntmps199 results199 ntmps133 results133 ntmps23 results23 ntmps12 results12 ntmps8 results8 ntmps6 results6 ntmps4 results4
instance k290 {s:ap} {event:Int}:Ctr (ls s event) (fun (res:ar × Bool)=>ai prog 290 [.agg [.lit (.int .i64 s.events),.sl (ab aA.enc s.links)],.lit (.int .i64 event)] [] (.tup [.agg [.lit (.int .i64 res.1.low),.lit (.int .i64 res.1.high)],.lit (.bool res.2)]) []):=⟨by
 intro res h0
 refine co (hi:=hi00) func290 rfl rfl ?_
 unfold ls at h0
 exact run⟩
@[go_sem] def rT (f_f:Nat)(k_f:List AV)(s_0:Int)(s_1:List aA):(Int × (List Int))→St
 | (event,out)=>⟨[(1,.fn f_f k_f),(2,.ptr 128 1 0 0),(6,.ref 447 1 0 out.length),(7,.lit (.int .i64 event))],[(128,1,.var [.lit (.int .i64 s_0),.sl (ab aA.enc s_1)]),(447,1,.row true (ab eI out))],2⟩
theorem Ac {s:ap}{f:ar→Option Int}{f_f:Nat}{k_f:List AV}(hp_f:∀ y0 r,f y0=some r→ai prog f_f ([.agg [.lit (.int .i64 y0.low),.lit (.int .i64 y0.high)]]++k_f) [] (.lit (.int .i64 r)) [])(hc_f:KC k_f)(hm_f:∀ a,mdT f_f a=⟨[],false⟩)(hk_f:spf f_f=false){res:(List Int) × Bool}(h:nI s f=some res):ai prog 268 [.agg [.lit (.int .i64 s.events),.sl (ab aA.enc s.links)],.fn f_f k_f] [] (.tup [.ref 20000 1 0 res.1.length,.lit (.bool res.2)]) [(20000,1,.row true (ab eI res.1))]:=by
 refine ao (ra:=[.home 4]) (md:=mdT) hT (hi:=hi00) func268 rfl rfl (by decide +kernel) (by simp) ?_
 unfold nI at h
 obtain⟨r01,g1,h⟩:=ae h
 simp(config:=cS)only[go_sem,hc_f.1,hc_f.2,hm_f,hk_f]
 have g1:=ctr g1
 refine af g1 ?_
 obtain⟨h2,h⟩|⟨h2,h⟩:=aN h
 ·obtain⟨q06,l3,h⟩:=ae h
  simp(config:=cS)only[go_sem,hc_f.1,hc_f.2,hm_f,hk_f,eZt h2]
  refine aj (m1:=.mk) (m2:=.mk) [.home 6,.nf [1,2,6,7] [128,447]] (rT f_f k_f s.events s.links) l3 ?_ ?_
  ·simp(config:=cS)only[go_sem,hc_f.1,hc_f.2,hm_f,hk_f,eZt h2]
  intro nb4 sb4 bb4 b4 gb4
  obtain⟨event_1,out_1⟩:=sb4
  unfold pv at b4
  try dsimp only at b4
  obtain⟨h5,b4⟩|⟨h5,b4⟩:=aN b4
  ·obtain⟨r02,g6,b4⟩:=ae b4
   simp(config:=cS)only[go_sem,hc_f.1,hc_f.2,hm_f,hk_f,eZt h2,eqT h5]
   have g6:=ctr g6
   refine af g6 ?_
   obtain⟨h7,b4⟩|⟨h7,b4⟩:=aN b4
   ·obtain⟨r03,g8,b4⟩:=ae b4
    simp(config:=cS)only[go_sem,hc_f.1,hc_f.2,hm_f,hk_f,eZt h2,eqT h5,eZt h7]
    refine af (hp_f _ _ g8) ?_
    obtain⟨r04,g9,b4⟩:=ae b4
    simp(config:=cS)only[go_sem,hc_f.1,hc_f.2,hm_f,hk_f,eZt h2,eqT h5,eZt h7]
    have g9:=ctr g9
    refine af g9 ?_
    obtain⟨h10,b4⟩|⟨h10,b4⟩:=aN b4
    ·obtain⟨r05,g11,b4⟩:=ae b4
     simp(config:=cS)only[go_sem,hc_f.1,hc_f.2,hm_f,hk_f,eZt h2,eqT h5,eZt h7,eZt h10]
     refine af (hp_f _ _ g11) ?_
     obtain⟨h12,b4⟩:=cN b4
     obtain⟨h13,b4⟩:=cN b4
     cases b4
     simp(config:=cS)only[go_sem,hc_f.1,hc_f.2,hm_f,hk_f,eZt h2,eqT h5,eZt h7,eZt h10,eqT h12,eqT h13]
     refine cy gb4 ?_
     simp(config:=cS)only[go_sem,hc_f.1,hc_f.2,hm_f,hk_f,eZt h2,eqT h5,eZt h7,eZt h10,eqT h12,eqT h13]
    cases b4
    obtain rfl:=(aG gb4).symm
    try dsimp only at h
    cases h
    simp(config:=cS)only[go_sem,hc_f.1,hc_f.2,hm_f,hk_f,eZt h2,eqT h5,eZt h7,eZf h10]
   cases b4
   obtain rfl:=(aG gb4).symm
   try dsimp only at h
   cases h
   simp(config:=cS)only[go_sem,hc_f.1,hc_f.2,hm_f,hk_f,eZt h2,eqT h5,eZf h7]
  cases b4
  obtain rfl:=(aG gb4).symm
  try dsimp only at h
  cases h
  simp(config:=cS)only[go_sem,hc_f.1,hc_f.2,hm_f,hk_f,eZt h2,eqF h5]
 cases h
 simp(config:=cS)only[go_sem,hc_f.1,hc_f.2,hm_f,hk_f,eZf h2]
instance k269 {i:ar}:Ctr (fa i) (fun (res:Int)=>ai prog 269 [.agg [.lit (.int .i64 i.low),.lit (.int .i64 i.high)]] [] (.lit (.int .i64 res)) []):=⟨by
 intro res h0
 refine co (hi:=hi00) func269 rfl rfl ?_
 unfold fa at h0
 exact run⟩
instance k230 {s:ap}:Ctr (gx s) (fun (res:(List Int) × Bool)=>ai prog 230 [.agg [.lit (.int .i64 s.events),.sl (ab aA.enc s.links)]] [] (.tup [.ref 20000 1 0 res.1.length,.lit (.bool res.2)]) [(20000,1,.row true (ab eI res.1))]):=⟨by
 intro res h0
 refine ao (ra:=[.home 2]) (md:=mdT) hT (hi:=hi00) func230 rfl rfl (by decide +kernel) (by simp) ?_
 unfold gx at h0
 obtain⟨r01,g0,h0⟩:=ae h0
 simp(config:=cS)only[go_sem, *]
 refine af (Ac (by exact fun _ _ hr=>by have q:=ctr hr;exact q) (by refine⟨fun _=>?_,fun _=>?_⟩ <;> simp only[go_sem]) (fun _=>rfl) rfl g0) ?_
 exact run⟩
@[go_sem] def oZ (v24:Int)(s_0:List ag)(s_1:List GTie)(s_2:Int):(Int × (List Int))→St
 | (v25,v23)=>⟨[(1,.ptr 64 1 0 0),(6,.ref 1152 1 0 v23.length),(23,.ref 1152 1 0 v23.length),(24,.lit (.int .i64 v24)),(25,.lit (.int .i64 v25))],[(64,1,.var [.sl (ab ag.encS s_0),.sl (ab GTie.enc s_1),.lit (.int .i64 s_2)]),(1152,1,.row true (ab eI v23))],2⟩
instance k172 {s:GShow}:Ctr (fm s) (fun (res:(List Int) × Bool)=>ai prog 172 [.agg (GShow.encS s)] [] (.tup [.ref 20000 1 0 res.1.length,.lit (.bool res.2)]) [(20000,1,.row true (ab eI res.1))]):=⟨by
 intro res h0
 refine ao (ra:=[.home 2]) (md:=mdT) hT (hi:=hi00) func172 rfl rfl (by decide +kernel) (by simp) ?_
 unfold fm at h0
 obtain⟨r01,g0,h0⟩:=ae h0
 simp(config:=cS)only[go_sem, *]
 have g0:=ctr g0
 refine af g0 ?_
 obtain⟨_,h0⟩|⟨_,h0⟩:=itB h0
 ·obtain⟨r02,g0,h0⟩:=ae h0
  simp(config:=cS)only[go_sem, *]
  have g0:=ctr g0
  refine af g0 ?_
  obtain⟨_,h0⟩|⟨_,h0⟩:=itB h0
  ·obtain⟨q05,l0,h0⟩:=ae h0
   simp(config:=cS)only[go_sem, *]
   refine aj (m1:=.mk) (m2:=.mk) [.nf [1,6,23,24,25] [64,1152]] (oZ (r02.1.length:Int) s.nodes s.ties s.horizon) l0 ?_ ?_
   ·simp(config:=cS)only[go_sem, *]
   have k0:=h0
   clear h0 l0
   intro _ s0 _ h0 gb0
   obtain⟨v25_1,v23_1⟩:=s0
   unfold kJ at h0
   try dsimp only at h0
   exact run
  exact run
 exact run⟩
instance k134 {s:GShow}:Ctr (lu s) (fun (res:Bool)=>ai prog 134 [.agg (GShow.encS s)] [] (.lit (.bool res)) []):=⟨by
 intro res h0
 refine co (hi:=hi00) func134 rfl rfl ?_
 unfold lu at h0
 exact run⟩
@[go_sem] def hi190_1:DT:=.r2 0 5 (.i1 6 (.i0 5 [6] (.r2 7 3 .nil)))
def DC:Hint where
 acts:=fun _=>[]
 draws:=fun
  | 1=>⟨hi190_1,[[],[],[0,1],[0,1,2],[0,1,2,3],.range 5,[0,1,2,3],.range 7,.range 8,.range 9],.range 10⟩
  | _=>⟨.nil,[],[]⟩
theorem Ka (i:Nat):DC.acts i=[]:=rfl
attribute[go_sem] Ka ntmps190 results190
@[go_sem] theorem Wp:(DC.draws 1).order=hi190_1:=rfl
instance k190 {s:GShow} {v1:GState}:Ctr (nJ s v1) (fun (res:Bool)=>ai prog 190 [.agg (GShow.encS s),.agg (GState.encS v1)] [] (.lit (.bool res)) []):=⟨by
 intro res h0
 refine co (hi:=DC) func190 rfl rfl ?_
 unfold nJ at h0
 obtain⟨r01,g0,h0⟩:=ae h0
 simp(config:=cS)only[go_sem, *]
 have g0:=ctr g0
 refine af g0 ?_
 obtain⟨_,h0⟩|⟨_,h0⟩:=itB h0
 ·obtain⟨r02,g0,h0⟩:=ae h0
  simp(config:=cS)only[go_sem, *]
  have g0:=ctr g0
  refine af g0 ?_
  obtain⟨r03,g0,h0⟩:=ae h0
  simp(config:=cS)only[go_sem, *]
  refine af (kh g0) ?_
  exact run
 exact run⟩
@[go_sem] def hi122_1:DT:=.i1 0 (.i2 1 (.i0 2 [0] (.i2 3 (.i2 4 .nil))))
def DD:Hint where
 acts:=fun _=>[]
 draws:=fun
  | 1=>⟨hi122_1,[[],[],[1],[0,1,2],[0,1,2,3]],.range 5⟩
  | _=>⟨.nil,[],[]⟩
theorem Kb (i:Nat):DD.acts i=[]:=rfl
attribute[go_sem] Kb ntmps122 results122
@[go_sem] theorem Wq:(DD.draws 1).order=hi122_1:=rfl
instance k122 {s:GShow}:Ctr (dF s) (fun (res:Bool)=>ai prog 122 [.agg (GShow.encS s)] [] (.lit (.bool res)) []):=⟨by
 intro res h0
 refine co (hi:=DD) func122 rfl rfl ?_
 unfold dF at h0
 exact run⟩
instance k75 {s:GShow}:Ctr (ga s) (fun (res:Int)=>ai prog 75 [.agg (GShow.encS s)] [] (.lit (.int .i64 res)) []):=⟨by
 intro res h0
 refine co (hi:=hi00) func75 rfl rfl ?_
 unfold ga at h0
 exact run⟩
instance k63 {t:GSheet}:Ctr (gV t) (fun (res:Int)=>ai prog 63 [.agg (GSheet.encS t)] [] (.lit (.int .i64 res)) []):=⟨by
 intro res h0
 refine co (hi:=hi00) func63 rfl rfl ?_
 unfold gV at h0
 exact run⟩
instance k62 {class_:Int}:Ctr (eJ class_) (fun (res:ByteArray)=>ai prog 62 [.lit (.int .i64 class_)] [] (.lit (.string res)) []):=⟨by
 intro res h0
 refine co (hi:=hi00) func62 rfl rfl ?_
 unfold eJ at h0
 obtain⟨_,h0⟩|⟨_,h0⟩:=itP h0
 ·exact run
 obtain⟨_,h0⟩|⟨_,h0⟩:=itP h0
 ·exact run
 obtain⟨x01,a1,a2,a3,h0⟩:=gtI h0
 try simp only[List.length_append,List.length_cons,List.length_nil,Nat.zero_add,Nat.reduceAdd]at a1
 try simp only[List.length_append,List.length_cons,List.length_nil,Nat.zero_add,Nat.reduceAdd]at a2
 try simp only[List.length_append,List.length_cons,List.length_nil,Nat.zero_add,Nat.reduceAdd]at a3
 exact run⟩
@[go_sem] def pb (v19:List Int)(v20:Int)(s_0:List ag)(s_1:List GTie)(s_2:Int):(Int × (List ByteArray))→St
 | (v21,parts)=>⟨[(2,.ptr 128 1 0 0),(5,.ref 383 1 0 parts.length),(19,.sl (ab eI v19)),(20,.lit (.int .i64 v20)),(21,.lit (.int .i64 v21))],[(128,1,.var [.sl (ab ag.encS s_0),.sl (ab GTie.enc s_1),.lit (.int .i64 s_2)]),(383,1,.row true (ab eS parts))],2⟩
@[go_sem] def hi173_8:DT:=.i2 0 (.i1 1 (.i1 2 (.i2 3 (.i1 4 (.i1 5 (.i1 6 (.i2 7 (.i2 8 (.i0 9 [1,2,4,5,6] (.r2 10 4 .nil))))))))))
def DE:Hint where
 acts:=fun _=>[]
 draws:=fun
  | 8=>⟨hi173_8,[[],[],[1],[],[1,2,3],[1,2,3,4],[1,2,3,4,5],[1,2,3,4,5,6],[],[8],[1,2,3,4,5,6,7,8,9],[1,2,3,4,5,6,7,8,9,10],.range 12,.range 13],.range 14⟩
  | _=>⟨.nil,[],[]⟩
theorem Kc (i:Nat):DE.acts i=[]:=rfl
attribute[go_sem] Kc ntmps173 results173
@[go_sem] theorem Wr:(DE.draws 8).order=hi173_8:=rfl
instance k173 {s:GShow} {times:List Int}:Ctr (fo s times) (fun (res:ByteArray)=>ai prog 173 [.agg (GShow.encS s),.sl (ab eI times)] [] (.lit (.string res)) []):=⟨by
 intro res h0
 refine co (hi:=DE) func173 rfl rfl ?_
 unfold fo at h0
 obtain⟨r01,g0,h0⟩:=ae h0
 simp(config:=cS)only[go_sem, *]
 have g0:=ctr g0
 refine af g0 ?_
 obtain⟨_,h0⟩|⟨_,h0⟩:=itB h0
 ·obtain⟨_,h0⟩|⟨_,h0⟩:=itP h0
  ·obtain⟨q06,l0,h0⟩:=ae h0
   simp(config:=cS)only[go_sem, *]
   refine aj (m1:=.mk) (m2:=.mk) [.home 5,.nf [2,5,19,20,21] [128,383]] (pb times (times.length:Int) s.nodes s.ties s.horizon) l0 ?_ ?_
   ·simp(config:=cS)only[go_sem, *]
   have k0:=h0
   clear h0 l0
   intro _ s0 _ h0 gb0
   obtain⟨v21_1,parts_1⟩:=s0
   unfold kK at h0
   try dsimp only at h0
   obtain⟨_,h0⟩|⟨_,h0⟩:=itP h0
   ·obtain⟨x02,_,_,_,h0⟩:=gtI h0
    obtain⟨_,h0⟩|⟨_,h0⟩:=itP h0
    ·exact run
    obtain⟨x03,_,_,_,h0⟩:=gtI h0
    obtain⟨_,h0⟩:=ckP h0
    obtain⟨r04,g0,h0⟩:=ae h0
    simp(config:=cS)only[go_sem, *]
    have g0:=ctr g0
    refine af g0 ?_
    obtain⟨a1,h0⟩:=ckP h0
    try simp(config:=cS)only[go_sem]at a1
    exact run
   exact run
  exact run
 exact run⟩
instance k231 {s:GShow} {v1:GState}:Ctr (lv s v1) (fun (res:Bool)=>ai prog 231 [.agg (GShow.encS s),.agg (GState.encS v1)] [] (.lit (.bool res)) []):=⟨by
 intro res h0
 refine co (hi:=hi00) func231 rfl rfl ?_
 unfold lv at h0
 exact run⟩
@[go_sem] def hi174_3:DT:=.i2 0 (.i1 2 (.i0 1 [2] (.r2 3 5 .nil)))
def DF:Hint where
 acts:=fun _=>[]
 draws:=fun
  | 3=>⟨hi174_3,[[],[0],[],[0,1,2],[0,1,2,3],[0,1,2,3],.range 6,.range 7],.range 8⟩
  | _=>⟨.nil,[],[]⟩
theorem Kd (i:Nat):DF.acts i=[]:=rfl
attribute[go_sem] Kd ntmps174 results174
@[go_sem] theorem Ws:(DF.draws 3).order=hi174_3:=rfl
instance k174 {s:GShow} {v1:GState}:Ctr (gW s v1) (fun (res:(List Int) × Bool)=>ai prog 174 [.agg (GShow.encS s),.agg (GState.encS v1)] [] (.tup [.sl (ab eI res.1),.lit (.bool res.2)]) []):=⟨by
 intro res h0
 refine ao (ra:=[.nilSl 4]) (md:=mdT) hT (hi:=DF) func174 rfl rfl (by decide +kernel) (by simp) ?_
 unfold gW at h0
 obtain⟨r01,g0,h0⟩:=ae h0
 simp(config:=cS)only[go_sem, *]
 have g0:=ctr g0
 refine af g0 ?_
 obtain⟨_,h0⟩|⟨_,h0⟩:=itB h0
 ·obtain⟨r02,g0,h0⟩:=ae h0
  simp(config:=cS)only[go_sem, *]
  have g0:=ctr g0
  refine af g0 ?_
  obtain⟨r03,g0,h0⟩:=ae h0
  simp(config:=cS)only[go_sem, *]
  refine af (nO g0) ?_
  exact run
 exact run⟩
@[go_sem] def hi114_15:DT:=.i2 0 (.i2 1 (.i1 6 (.i1 7 (.i2 8 (.i0 2 [6,7] (.i2 3 (.i0 4 [6,7] (.i0 5 [6,7] (.i0 9 [6] (.r2 10 3 .nil))))))))))
@[go_sem] def hi114_8:DT:=.i1 0 (.i2 1 (.i0 2 [0] (.r2 3 6 .nil)))
def AO:Hint where
 acts:=fun _=>[]
 draws:=fun
  | 8=>⟨hi114_8,[[],[],[1],[0,1,2],[0,1,2,3],.range 5,.range 5,.range 6,.range 8],[0,1,2,3,4,5,7,6,8]⟩
  | 15=>⟨hi114_15,[[],[],[1],[1,2],[1,2,3],.range 5,[],[],[],[0,1,2,3,4,5,7,8],.range 10,.range 11,.range 12],.range 13⟩
  | _=>⟨.nil,[],[]⟩
theorem Ke (i:Nat):AO.acts i=[]:=rfl
attribute[go_sem] Ke ntmps114 results114
@[go_sem] theorem Wt:(AO.draws 8).order=hi114_8:=rfl
@[go_sem] theorem VB:(AO.draws 15).order=hi114_15:=rfl
instance k114 {s:GShow}:Ctr (iL s) (fun (res:List ByteArray)=>ai prog 114 [.agg (GShow.encS s)] [] (.ref 20000 1 0 res.length) [(20000,1,.row true (ab eS res))]):=⟨by
 intro res h0
 refine ao (ra:=[.home 2]) (md:=mdT) hT (hi:=AO) func114 rfl rfl (by decide +kernel) (by simp) ?_
 unfold iL at h0
 exact run⟩
instance k64 {v0:GConsole}:Ctr (gb v0) (fun (res:ByteArray × GConsole)=>ai prog 64 [.ptr 10000 0 0 0] [(10000,0,.var [.sl (ab GCue.enc v0.sheet.cues),.sl (ab eI v0.sheet.prep),.lit (.int .i64 v0.sheet.horizon),.sl (ab ag.encS v0.desk.show_.nodes),.sl (ab GTie.enc v0.desk.show_.ties),.lit (.int .i64 v0.desk.show_.horizon),.lit (.int .i64 v0.desk.state.now),.sl (ab eI v0.desk.state.times),.sl (ab eI v0.desk.state.values),.lit (.bool v0.desk.lazy),.sl (ab GEntry.encS v0.desk.log),.sl (ab GTake.enc v0.takes)])] (.lit (.string res.1)) [(10000,0,.var [.sl (ab GCue.enc res.2.sheet.cues),.sl (ab eI res.2.sheet.prep),.lit (.int .i64 res.2.sheet.horizon),.sl (ab ag.encS res.2.desk.show_.nodes),.sl (ab GTie.enc res.2.desk.show_.ties),.lit (.int .i64 res.2.desk.show_.horizon),.lit (.int .i64 res.2.desk.state.now),.sl (ab eI res.2.desk.state.times),.sl (ab eI res.2.desk.state.values),.lit (.bool res.2.desk.lazy),.sl (ab GEntry.encS res.2.desk.log),.sl (ab GTake.enc res.2.takes)])]):=⟨by
 intro res h0
 refine ao (ra:=[.homeCell 10000 0,.freeze [100640000],.sliC 10000 0,.homeCell 10000 1,.freeze [100640001],.sliC 10000 1,.homeCell 10000 3,.freeze [100640003],.sliC 10000 3,.homeCell 10000 4,.freeze [100640004],.sliC 10000 4,.homeCell 10000 7,.freeze [100640007],.sliC 10000 7,.homeCell 10000 8,.freeze [100640008],.sliC 10000 8,.homeCell 10000 10,.freeze [100640010],.sliC 10000 10,.homeCell 10000 11,.freeze [100640011],.sliC 10000 11]) (md:=mdT) hT (hi:=hi00) func64 rfl rfl (by decide +kernel) (by simp) ?_
 unfold gb at h0
 exact run⟩
@[go_sem] def pc (v13:List Int)(v14:Int)(s_0:List ag)(s_1:List GTie)(s_2 v3_0:Int)(v3_1:List Int):(Int × (List Int))→St
 | (v15,label)=>⟨[(2,.ptr 128 1 0 0),(3,.ptr 192 1 0 0),(5,.ref 383 1 0 label.length),(13,.sl (ab eI v13)),(14,.lit (.int .i64 v14)),(15,.lit (.int .i64 v15))],[(128,1,.var [.sl (ab ag.encS s_0),.sl (ab GTie.enc s_1),.lit (.int .i64 s_2)]),(192,1,.var [.lit (.int .i64 v3_0),.sl (ab eI v3_1),.sl (ab eI v13)]),(383,1,.row true (ab eI label))],2⟩
@[go_sem] def hi116_10:DT:=.i2 0 (.i2 1 (.i1 4 (.i1 5 (.i1 6 (.i2 10 (.i0 2 [4,5,6] (.i2 3 (.r2 7 3 (.r2 11 3 .nil)))))))))
def DG:Hint where
 acts:=fun _=>[]
 draws:=fun
  | 10=>⟨hi116_10,[[],[0],[0,1],[0,1,2],[],[],[5],[0,1,2,4,5,6],.range 8,.range 9,[],[0,1,2,4,5,6,7,10],.range 12,.range 13],.range 14⟩
  | _=>⟨.nil,[],[]⟩
theorem Kf (i:Nat):DG.acts i=[]:=rfl
attribute[go_sem] Kf ntmps116 results116
@[go_sem] theorem VC:(DG.draws 10).order=hi116_10:=rfl
instance k116 {s:GShow} {v1:GState}:Ctr (iM s v1) (fun (res:ByteArray)=>ai prog 116 [.agg (GShow.encS s),.agg (GState.encS v1)] [] (.lit (.string res)) []):=⟨by
 intro res h0
 refine co (hi:=DG) func116 rfl rfl ?_
 unfold iM at h0
 obtain⟨r01,g0,h0⟩:=ae h0
 simp(config:=cS)only[go_sem, *]
 have g0:=ctr g0
 refine af g0 ?_
 obtain⟨_,h0⟩|⟨_,h0⟩:=itB h0
 ·obtain⟨q06,l0,h0⟩:=ae h0
  simp(config:=cS)only[go_sem, *]
  refine aj (m1:=.mk) (m2:=.mk) [.home 5,.nf [2,3,5,13,14,15] [128,192,383]] (pc v1.values (v1.values.length:Int) s.nodes s.ties s.horizon v1.now v1.times) l0 ?_ ?_
  ·simp(config:=cS)only[go_sem, *]
  have k0:=h0
  clear h0 l0
  intro _ s0 _ h0 gb0
  obtain⟨v15_1,label_1⟩:=s0
  unfold kL at h0
  try dsimp only at h0
  obtain⟨_,h0⟩|⟨_,h0⟩:=itP h0
  ·exact run
  cases h0
  obtain rfl:=(aG gb0).symm
  clear gb0
  have h0:=k0
  clear k0
  try dsimp only at h0
  obtain⟨r03,g0,h0⟩:=ae h0
  simp(config:=cS)only[go_sem, *]
  have g0:=ctr g0
  refine af g0 ?_
  obtain⟨_,h0⟩:=ckP h0
  obtain⟨r04,g0,h0⟩:=ae h0
  simp(config:=cS)only[go_sem, *]
  have g0:=ctr g0
  refine af g0 ?_
  obtain⟨a1,h0⟩:=ckP h0
  try simp(config:=cS)only[go_sem]at a1
  obtain⟨a2,h0⟩:=ckP h0
  try simp(config:=cS)only[go_sem]at a2
  obtain⟨r05,g0,h0⟩:=ae h0
  simp(config:=cS)only[go_sem, *]
  have g0:=ctr g0
  refine af g0 ?_
  obtain⟨a3,h0⟩:=ckP h0
  try simp(config:=cS)only[go_sem]at a3
  exact run
 exact run⟩
@[go_sem] def qe (v15:List Int)(v16:Int)(s_0:List ag)(s_1:List GTie)(s_2 e_0:Int)(e_2 e_3:List Int):(ByteArray × Int)→St
 | (out,v17)=>⟨[(2,.ptr 128 1 0 0),(3,.ptr 192 1 0 0),(5,.lit (.string out)),(15,.sl (ab eI v15)),(16,.lit (.int .i64 v16)),(17,.lit (.int .i64 v17))],[(128,1,.var [.sl (ab ag.encS s_0),.sl (ab GTie.enc s_1),.lit (.int .i64 s_2)]),(192,1,.var [.lit (.int .i64 e_0),.sl (ab eI v15),.sl (ab eI e_2),.sl (ab eI e_3)])],2⟩
@[go_sem] def qf (v37:List Int)(v38:Int)(s_0:List ag)(s_1:List GTie)(s_2 e_0:Int)(e_1 e_3:List Int):(ByteArray × Int)→St
 | (out,v39)=>⟨[(2,.ptr 128 1 0 0),(3,.ptr 192 1 0 0),(5,.lit (.string out)),(37,.sl (ab eI v37)),(38,.lit (.int .i64 v38)),(39,.lit (.int .i64 v39))],[(128,1,.var [.sl (ab ag.encS s_0),.sl (ab GTie.enc s_1),.lit (.int .i64 s_2)]),(192,1,.var [.lit (.int .i64 e_0),.sl (ab eI e_1),.sl (ab eI v37),.sl (ab eI e_3)])],2⟩
@[go_sem] def hi185_5:DT:=.r2 0 15 .nil
def DI:Hint where
 acts:=fun _=>[]
 draws:=fun
  | 5=>⟨hi185_5,[[],[],[1],[],[3],[],[3,4,5],[3,4,5,6],[3,4,5,6,7],[1,2,3,4,5,6,7,8],[1,2,3,4,5,6,7,8,9],[1,2,3,4,5,6,7,8,9,10],[1,2,3,4,5,6,7,8,9,10,11],.range 13,.range 14],.range 15⟩
  | _=>⟨.nil,[],[]⟩
theorem Kg (i:Nat):DI.acts i=[]:=rfl
attribute[go_sem] Kg ntmps185 results185
@[go_sem] theorem Wu:(DI.draws 5).order=hi185_5:=rfl
instance k185 {s:GShow} {e:GEntry}:Ctr (km s e) (fun (res:ByteArray)=>ai prog 185 [.agg (GShow.encS s),.agg (GEntry.encS e)] [] (.lit (.string res)) []):=⟨by
 intro res h0
 refine co (hi:=DI) func185 rfl rfl ?_
 unfold km at h0
 obtain⟨r01,g0,h0⟩:=ae h0
 simp(config:=cS)only[go_sem, *]
 have g0:=ctr g0
 refine af g0 ?_
 obtain⟨_,h0⟩:=ckP h0
 obtain⟨q09,l0,h0⟩:=ae h0
 simp(config:=cS)only[go_sem, *]
 refine aj (m1:=.mk) (m2:=.mk) [.nf [2,3,5,15,16,17] [128,192]] (qe e.ties (e.ties.length:Int) s.nodes s.ties s.horizon e.now e.nodes e.values) l0 ?_ ?_
 ·simp(config:=cS)only[go_sem, *]
 have k0:=h0
 clear h0 l0
 intro _ s0 _ h0 gb0
 obtain⟨out_1,v17_1⟩:=s0
 unfold lN at h0
 try dsimp only at h0
 obtain⟨_,h0⟩|⟨_,h0⟩:=itP h0
 ·obtain⟨x02,_,_,_,h0⟩:=gtI h0
  obtain⟨x03,_,_,_,h0⟩:=gtI h0
  obtain⟨x04,_,_,_,h0⟩:=gtI h0
  obtain⟨_,h0⟩:=ckP h0
  obtain⟨a1,h0⟩:=ckP h0
  try simp(config:=cS)only[go_sem]at a1
  exact run
 cases h0
 obtain rfl:=(aG gb0).symm
 clear gb0
 have h0:=k0
 clear k0
 try dsimp only at h0
 obtain⟨q08,l0,h0⟩:=ae h0
 simp(config:=cS)only[go_sem, *]
 refine aj (m1:=.mk) (m2:=.mk) [.nf [2,3,5,37,38,39] [128,192]] (qf e.nodes (e.nodes.length:Int) s.nodes s.ties s.horizon e.now e.ties e.values) l0 ?_ ?_
 ·simp(config:=cS)only[go_sem, *]
 have k0:=h0
 clear h0 l0
 intro _ s0 _ h0 gb0
 obtain⟨out_2,v39_2⟩:=s0
 unfold lO at h0
 try dsimp only at h0
 obtain⟨_,h0⟩|⟨_,h0⟩:=itP h0
 ·obtain⟨x05,_,_,_,h0⟩:=gtI h0
  obtain⟨x06,_,_,_,h0⟩:=gtI h0
  obtain⟨_,h0⟩:=ckP h0
  obtain⟨a2,h0⟩:=ckP h0
  try simp(config:=cS)only[go_sem]at a2
  exact run
 cases h0
 obtain rfl:=(aG gb0).symm
 clear gb0
 have h0:=k0
 clear k0
 try dsimp only at h0
 obtain⟨_,h0⟩|⟨_,h0⟩:=itP h0
 ·obtain⟨r07,g0,h0⟩:=ae h0
  simp(config:=cS)only[go_sem, *]
  have g0:=ctr g0
  refine af g0 ?_
  obtain⟨_,h0⟩:=ckP h0
  obtain⟨a3,h0⟩:=ckP h0
  try simp(config:=cS)only[go_sem]at a3
  exact run
 exact run⟩
@[go_sem] def qg (v18:List GEntry)(v19:Int)(s_0:List ag)(s_1:List GTie)(s_2:Int):(Int × (List ByteArray))→St
 | (v20,out)=>⟨[(2,.ptr 128 1 0 0),(7,.ref 511 1 0 out.length),(18,.sl (ab GEntry.encS v18)),(19,.lit (.int .i64 v19)),(20,.lit (.int .i64 v20))],[(128,1,.var [.sl (ab ag.encS s_0),.sl (ab GTie.enc s_1),.lit (.int .i64 s_2)]),(511,1,.row true (ab eS out))],2⟩
instance k117 {s:GShow} {log:List GEntry}:Ctr (ko s log) (fun (res:List ByteArray)=>ai prog 117 [.agg (GShow.encS s),.sl (ab GEntry.encS log)] [] (.ref 20000 1 0 res.length) [(20000,1,.row true (ab eS res))]):=⟨by
 intro res h0
 refine ao (ra:=[.home 4]) (md:=mdT) hT (hi:=hi00) func117 rfl rfl (by decide +kernel) (by simp) ?_
 unfold ko at h0
 obtain⟨r01,g0,h0⟩:=ae h0
 simp(config:=cS)only[go_sem, *]
 have g0:=ctr g0
 refine af g0 ?_
 obtain⟨_,h0⟩|⟨_,h0⟩:=itB h0
 ·obtain⟨q04,l0,h0⟩:=ae h0
  simp(config:=cS)only[go_sem, *]
  refine aj (m1:=.mk) (m2:=.mk) [.home 7,.nf [2,7,18,19,20] [128,511]] (qg log (log.length:Int) s.nodes s.ties s.horizon) l0 ?_ ?_
  ·simp(config:=cS)only[go_sem, *]
  have k0:=h0
  clear h0 l0
  intro _ s0 _ h0 gb0
  obtain⟨v20_1,out_1⟩:=s0
  unfold lP at h0
  try dsimp only at h0
  exact run
 exact run⟩
@[go_sem] def rg (v13:List GTie)(v14 v3_0:Int)(v3_1 v3_2:List Int):(Int × (List GTake))→St
 | (v15,out)=>⟨[(3,.ptr 192 1 0 0),(5,.ref 383 1 0 out.length),(13,.sl (ab GTie.enc v13)),(14,.lit (.int .i64 v14)),(15,.lit (.int .i64 v15))],[(192,1,.var [.lit (.int .i64 v3_0),.sl (ab eI v3_1),.sl (ab eI v3_2)]),(383,1,.row true (ab GTake.enc out))],2⟩
@[go_sem] def hi187_8:DT:=.r2 0 19 .nil
def DJ:Hint where
 acts:=fun _=>[]
 draws:=fun
  | 8=>⟨hi187_8,[[],[],[],[2],[],[4],[2,3,4,5],[2,3,4,5,6],[],[8],[],[10],[8,9,10,11],[8,9,10,11,12],[2,3,4,5,6,7,8,9,10,11,12,13],[1,2,3,4,5,6,7,8,9,10,11,12,13,14],[1,2,3,4,5,6,7,8,9,10,11,12,13,14,15],.range 17,.range 18],.range 19⟩
  | _=>⟨.nil,[],[]⟩
theorem Kh (i:Nat):DJ.acts i=[]:=rfl
attribute[go_sem] Kh ntmps187 results187
@[go_sem] theorem Wv:(DJ.draws 8).order=hi187_8:=rfl
instance k187 {s:GShow} {v1:GState}:Ctr (mt s v1) (fun (res:List GTake)=>ai prog 187 [.agg (GShow.encS s),.agg (GState.encS v1)] [] (.ref 20000 1 0 res.length) [(20000,1,.row true (ab GTake.enc res))]):=⟨by
 intro res h0
 refine ao (ra:=[.home 4]) (md:=mdT) hT (hi:=DJ) func187 rfl rfl (by decide +kernel) (by simp) ?_
 unfold mt at h0
 obtain⟨r01,g0,h0⟩:=ae h0
 simp(config:=cS)only[go_sem, *]
 have g0:=ctr g0
 refine af g0 ?_
 obtain⟨_,h0⟩|⟨_,h0⟩:=itB h0
 ·obtain⟨q05,l0,h0⟩:=ae h0
  simp(config:=cS)only[go_sem, *]
  refine aj (m1:=.mk) (m2:=.mk) [.home 5,.nf [3,5,13,14,15] [192,383]] (rg s.ties (s.ties.length:Int) v1.now v1.times v1.values) l0 ?_ ?_
  ·simp(config:=cS)only[go_sem, *]
  have k0:=h0
  clear h0 l0
  intro _ s0 _ h0 gb0
  obtain⟨v15_1,out_1⟩:=s0
  unfold ol at h0
  try dsimp only at h0
  exact run
 exact run⟩
instance k248 {v1:Int}:Ctr (iN v1) (fun (res:List GTake × Nat)=>ai prog 248 [.lit (.slice none 0 0),.lit (.int .i64 v1)] [] (.ref 20000 1 0 res.2) [(20000,1,.row true (ab GTake.enc res.1))]):=⟨by
 intro res h0
 refine ao (ra:=[.home 4]) (md:=mdT) hT (hi:=hi00) func248 rfl rfl (by decide +kernel) (by simp) ?_
 unfold iN at h0
 exact run⟩
@[go_sem] def np (v0:List (List GTake))(v10:Int):(Int × Int)→St
 | (v3,v11)=>⟨[(0,.sl (ab (eLS GTake.enc) v0)),(3,.lit (.int .i64 v3)),(9,.sl (ab (eLS GTake.enc) v0)),(10,.lit (.int .i64 v10)),(11,.lit (.int .i64 v11))],[],2⟩
@[go_sem] def nq (v25:List (List GTake))(v26:Int):(Nat × Int × (List GTake))→St
 | (v6_n,v27,v6)=>⟨[(6,.ref 1536 1 0 v6_n),(25,.sl (ab (eLS GTake.enc) v25)),(26,.lit (.int .i64 v26)),(27,.lit (.int .i64 v27))],[(1536,1,.row true (ab GTake.enc v6))],2⟩
instance k186 {v0:List (List GTake)}:Ctr (gy v0) (fun (res:List GTake)=>ai prog 186 [.sl (ab (eLS GTake.enc) v0)] [] (.ref 20000 1 0 res.length) [(20000,1,.row true (ab GTake.enc res))]):=⟨by
 intro res h0
 refine ao (ra:=[.home 2,.trimT 2]) (md:=mdT) hT (hi:=hi00) func186 rfl rfl (by decide +kernel) (by simp) ?_
 unfold gy at h0
 obtain⟨q05,l0,h0⟩:=ae h0
 simp(config:=cS)only[go_sem, *]
 refine aj (m1:=.mk) (m2:=.mk) [.nf [0,3,9,10,11] []] (np v0 (v0.length:Int)) l0 ?_ ?_
 ·simp(config:=cS)only[go_sem, *]
 have k0:=h0
 clear h0 l0
 intro _ s0 _ h0 gb0
 obtain⟨v3_1,v11_1⟩:=s0
 unfold jo at h0
 try dsimp only at h0
 obtain⟨_,h0⟩|⟨_,h0⟩:=itP h0
 ·exact run
 cases h0
 obtain rfl:=(aG gb0).symm
 clear gb0
 have h0:=k0
 clear k0
 try dsimp only at h0
 obtain⟨r02,g0,h0⟩:=ae h0
 simp(config:=cS)only[go_sem, *]
 have g0:=ctr g0
 refine af g0 ?_
 obtain⟨q04,l0,h0⟩:=ae h0
 simp(config:=cS)only[go_sem, *]
 refine aj (m1:=.mk) (m2:=.mk) [.nf [6,25,26,27] [1536]] (nq v0 (v0.length:Int)) l0 ?_ ?_
 ·simp(config:=cS)only[go_sem, *]
 have k0:=h0
 clear h0 l0
 intro _ s0 _ h0 gb0
 obtain⟨v6_n_2,v27_2,v6_2⟩:=s0
 unfold jp at h0
 try dsimp only at h0
 exact run⟩
@[go_sem] def hi118_1:DT:=.i2 0 (.i1 1 (.i1 2 (.i1 3 (.r2 4 10 (.i0 14 [1,2,3] (.r2 15 3 .nil))))))
def DK:Hint where
 acts:=fun _=>[]
 draws:=fun
  | 1=>⟨hi118_1,[[],[0],[0,1],[0,1,2],[],[4],[4,5],[4,5,6],[4,5,6,7],[],[9],[9,10],[9,10,11],[9,10,11,12],[4,5,6,7,8,9,10,11,12,13],.range 15,.range 16,.range 17],.range 18⟩
  | _=>⟨.nil,[],[]⟩
theorem Ki (i:Nat):DK.acts i=[]:=rfl
attribute[go_sem] Ki ntmps118 results118
@[go_sem] theorem Ww:(DK.draws 1).order=hi118_1:=rfl
instance k118 {v0:GConsole}:Ctr (fb v0) (fun (res:ByteArray × GConsole)=>ai prog 118 [.ptr 10000 0 0 0] [(10000,0,.var [.sl (ab GCue.enc v0.sheet.cues),.sl (ab eI v0.sheet.prep),.lit (.int .i64 v0.sheet.horizon),.sl (ab ag.encS v0.desk.show_.nodes),.sl (ab GTie.enc v0.desk.show_.ties),.lit (.int .i64 v0.desk.show_.horizon),.lit (.int .i64 v0.desk.state.now),.sl (ab eI v0.desk.state.times),.sl (ab eI v0.desk.state.values),.lit (.bool v0.desk.lazy),.sl (ab GEntry.encS v0.desk.log),.sl (ab GTake.enc v0.takes)])] (.lit (.string res.1)) [(10000,0,.var [.sl (ab GCue.enc res.2.sheet.cues),.sl (ab eI res.2.sheet.prep),.lit (.int .i64 res.2.sheet.horizon),.sl (ab ag.encS res.2.desk.show_.nodes),.sl (ab GTie.enc res.2.desk.show_.ties),.lit (.int .i64 res.2.desk.show_.horizon),.lit (.int .i64 res.2.desk.state.now),.sl (ab eI res.2.desk.state.times),.sl (ab eI res.2.desk.state.values),.lit (.bool res.2.desk.lazy),.sl (ab GEntry.encS res.2.desk.log),.sl (ab GTake.enc res.2.takes)])]):=⟨by
 intro res h0
 refine ao (ra:=[.homeCell 10000 0,.freeze [100640000],.sliC 10000 0,.homeCell 10000 1,.freeze [100640001],.sliC 10000 1,.homeCell 10000 3,.freeze [100640003],.sliC 10000 3,.homeCell 10000 4,.freeze [100640004],.sliC 10000 4,.homeCell 10000 7,.freeze [100640007],.sliC 10000 7,.homeCell 10000 8,.freeze [100640008],.sliC 10000 8,.homeCell 10000 10,.freeze [100640010],.sliC 10000 10,.homeCell 10000 11,.freeze [1280,100640011],.sliC 10000 11]) (md:=mdT) hT (hi:=DK) func118 rfl rfl (by decide +kernel) (by simp) ?_
 unfold fb at h0
 exact run⟩
@[go_sem] def qA (v13:Int)(v12:List ByteArray):(Int × (List Int))→St
 | (v14,out)=>⟨[(4,.ref 319 1 0 out.length),(12,.ref 768 1 0 v12.length),(13,.lit (.int .i64 v13)),(14,.lit (.int .i64 v14))],[(319,1,.row true (ab eI out)),(768,1,.row true (ab eS v12))],2⟩
instance k282 {s:ByteArray}:Ctr (fv s) (fun (res:(List Int) × Bool)=>ai prog 282 [.lit (.string s)] [] (.tup [.ref 20000 1 0 res.1.length,.lit (.bool res.2)]) [(20000,1,.row true (ab eI res.1))]):=⟨by
 intro res h0
 refine ao (ra:=[.home 2]) (md:=mdT) hT (hi:=hi00) func282 rfl rfl (by decide +kernel) (by simp) ?_
 unfold fv at h0
 obtain⟨_,h0⟩|⟨_,h0⟩:=itP h0
 ·exact run
 obtain⟨r01,g0,h0⟩:=ae h0
 simp(config:=cS)only[go_sem, *]
 have g0:=ctr g0
 refine af g0 ?_
 obtain⟨q04,l0,h0⟩:=ae h0
 simp(config:=cS)only[go_sem, *]
 refine aj (m1:=.mk) (m2:=.mk) [.home 4,.nf [4,12,13,14] [319,768]] (qA (r01.length:Int) r01) l0 ?_ ?_
 ·simp(config:=cS)only[go_sem, *]
 have k0:=h0
 clear h0 l0
 intro _ s0 _ h0 gb0
 obtain⟨v14_1,out_1⟩:=s0
 unfold mS at h0
 try dsimp only at h0
 obtain⟨_,h0⟩|⟨_,h0⟩:=itP h0
 ·obtain⟨x02,_,_,_,h0⟩:=gtI h0
  obtain⟨r03,g0,h0⟩:=ae h0
  simp(config:=cS)only[go_sem, *]
  refine af (cw g0) ?_
  exact run
 exact run⟩
instance k250 {line:ByteArray}:Ctr (jI line) (fun (res:GEntry × Bool)=>ai prog 250 [.lit (.string line)] [] (.tup [.agg [.lit (.int .i64 res.1.now),.ref 20000 1 0 res.1.ties.length,.ref 20001 1 0 res.1.nodes.length,.ref 20002 1 0 res.1.values.length],.lit (.bool res.2)]) [(20000,1,.row true (ab eI res.1.ties)),(20001,1,.row true (ab eI res.1.nodes)),(20002,1,.row true (ab eI res.1.values))]):=⟨by
 intro res h0
 refine ao (ra:=[.homeCell 128 1,.homeCell 128 2,.homeCell 128 3]) (md:=mdT) hT (hi:=hi00) func250 rfl rfl (by decide +kernel) (by simp) ?_
 unfold jI at h0
 obtain⟨r01,g0,h0⟩:=ae h0
 simp(config:=cS)only[go_sem, *]
 have g0:=ctr g0
 refine af g0 ?_
 obtain⟨_,h0⟩|⟨_,h0⟩:=itP h0
 ·obtain⟨x02,g1,h0⟩:=ae h0
  have:=aR (k:=0) g1
  obtain⟨r03,g0,h0⟩:=ae h0
  simp(config:=cS)only[go_sem, *]
  refine af (cw g0) ?_
  obtain⟨x04,g2,h0⟩:=ae h0
  have:=aR (k:=1) g2
  obtain⟨r05,g0,h0⟩:=ae h0
  simp(config:=cS)only[go_sem, *]
  have g0:=ctr g0
  refine af g0 ?_
  obtain⟨x06,g3,h0⟩:=ae h0
  have:=aR (k:=2) g3
  obtain⟨r07,g0,h0⟩:=ae h0
  simp(config:=cS)only[go_sem, *]
  have g0:=ctr g0
  refine af g0 ?_
  obtain⟨x08,g4,h0⟩:=ae h0
  have:=aR (k:=3) g4
  exact run
 exact run⟩
@[go_sem] def pd  : (ByteArray × (List GEntry))→St
 | (text,out)=>⟨[(0,.lit (.string text)),(4,.ref 319 1 0 out.length)],[(319,1,.row true (ab GEntry.encO out))],2⟩
instance k188 {text:ByteArray}:Ctr (iO text) (fun (res:(List GEntry) × Int)=>ai prog 188 [.lit (.string text)] [] (.tup [.ref 20000 1 0 res.1.length,.lit (.int .i64 res.2)]) [(20000,1,.row true (ab GEntry.encO res.1))]):=⟨by
 intro res h0
 refine ao (ra:=[.home 2]) (md:=mdT) hT (hi:=hi00) func188 rfl rfl (by decide +kernel) (by simp) ?_
 unfold iO at h0
 obtain⟨q03,l0,h0⟩:=ae h0
 simp(config:=cS)only[go_sem, *]
 refine aj (m1:=.mk) (m2:=.mk) [.home 4,.nf [0,4] [319]] (pd) l0 ?_ ?_
 ·simp(config:=cS)only[go_sem, *]
 have k0:=h0
 clear h0 l0
 intro _ s0 _ h0 gb0
 obtain⟨text_1,out_1⟩:=s0
 unfold kM at h0
 try dsimp only at h0
 obtain⟨r01,g0,h0⟩:=ae h0
 simp(config:=cS)only[go_sem, *]
 refine af (AB g0) ?_
 exact run⟩
@[go_sem] def hi119_5:DT:=.i2 0 (.i1 2 (.i2 3 (.i2 4 (.i0 1 [2] (.r2 5 3 .nil)))))
def DL:Hint where
 acts:=fun _=>[]
 draws:=fun
  | 5=>⟨hi119_5,[[],[0],[],[],[],.range 5,.range 6,.range 7],.range 8⟩
  | _=>⟨.nil,[],[]⟩
theorem Kj (i:Nat):DL.acts i=[]:=rfl
attribute[go_sem] Kj ntmps119 results119
@[go_sem] theorem Wx:(DL.draws 5).order=hi119_5:=rfl
instance k119 {s:GShow} {text:ByteArray} {lazy:Bool}:Ctr (lw s text lazy) (fun (res:GDesk × Bool)=>ai prog 119 [.agg (GShow.encS s),.lit (.string text),.lit (.bool lazy)] [] (.tup [.agg [.ref 20000 1 0 res.1.show_.nodes.length,.ref 20001 1 0 res.1.show_.ties.length,.lit (.int .i64 res.1.show_.horizon),.lit (.int .i64 res.1.state.now),.ref 20002 1 0 res.1.state.times.length,.ref 20003 1 0 res.1.state.values.length,.lit (.bool res.1.lazy),.ref 20004 1 0 res.1.log.length],.lit (.bool res.2)]) [(20000,1,.row true (ab ag.encO res.1.show_.nodes)),(20001,1,.row true (ab GTie.enc res.1.show_.ties)),(20002,1,.row true (ab eI res.1.state.times)),(20003,1,.row true (ab eI res.1.state.values)),(20004,1,.row true (ab GEntry.encO res.1.log))]):=⟨by
 intro res h0
 refine ao (ra:=[.homeCell 384 0,.homeCell 384 1,.homeCell 384 4,.homeCell 384 5,.homeCell 384 7]) (md:=mdT) hT (hi:=DL) func119 rfl rfl (by decide +kernel) (by simp) ?_
 unfold lw at h0
 exact run⟩
@[go_sem] def hi65_10:DT:=.i2 0 (.i1 1 (.i1 2 (.i1 3 (.i1 4 (.i2 5 (.i1 6 (.i1 7 (.i1 8 (.i2 10 (.i1 11 (.i1 12 (.i1 13 (.i1 14 (.fork (.i0 9 [1,2,3,4,11,12,13,14] (.fork (.i2 15 (.i2 16 (.i2 17 (.i2 18 (.i0 19 [1,2,3,4,6,7,8,11,12,13,14] (.i2 20 (.i2 21 .nil))))))) (.i0 19 [1,2,3,4,6,7,8,11,12,13,14] (.i2 15 (.i2 16 (.i2 17 (.i2 18 (.i2 20 (.i2 21 .nil))))))))) (.i0 19 [1,2,3,4,6,7,8,11,12,13,14] (.i0 9 [1,2,3,4,11,12,13,14] (.i2 15 (.i2 16 (.i2 17 (.i2 18 (.i2 20 (.i2 21 .nil))))))))))))))))))))))
@[go_sem] def hi65_7:DT:=.r2 0 13 .nil
@[go_sem] def hi65_5:DT:=.r2 0 12 .nil
def hi65:Hint where
 acts:=fun _=>[]
 draws:=fun
  | 5=>⟨hi65_5,[[],[0],[0,1],[0,1,2],[0,1,2,3],[],[5],[5,6],[5,6,7],[5,6,7,8],.range 10,.range 11],.range 12⟩
  | 7=>⟨hi65_7,[[],[0],[0,1],[0,1,2],[0,1,2,3],[],[5],[5,6],[5,6,7],[5,6,7,8],.range 10,.range 11,.range 12],.range 13⟩
  | 10=>⟨hi65_10,[[],[0],[0,1],[0,1,2],[0,1,2,3],[],[5],[5,6],[5,6,7],[5,6,7,8],[],[10],[10,11],[10,11,12],[10,11,12,13],.range 15,.range 16,.range 17,.range 17,[],[0,1,2,3,4,5,6,7,8,9,10,11,12,13,14,15,16,17,19],.range 21],[0,1,2,3,4,5,6,7,8,9,10,11,12,13,14,15,16,17,20,18,19,21]⟩
  | _=>⟨.nil,[],[]⟩
theorem LW (i:Nat):hi65.acts i=[]:=rfl
attribute[go_sem] LW ntmps65 results65
@[go_sem] theorem Xr:(hi65.draws 5).order=hi65_5:=rfl
@[go_sem] theorem Xs:(hi65.draws 7).order=hi65_7:=rfl
@[go_sem] theorem Wy:(hi65.draws 10).order=hi65_10:=rfl
instance k65 {v0:GConsole} {word:ByteArray}:Ctr (bY v0 word) (fun (res:ByteArray × GConsole)=>ai prog 65 [.ptr 10000 0 0 0,.lit (.string word)] [(10000,0,.var [.sl (ab GCue.enc v0.sheet.cues),.sl (ab eI v0.sheet.prep),.lit (.int .i64 v0.sheet.horizon),.sl (ab ag.encS v0.desk.show_.nodes),.sl (ab GTie.enc v0.desk.show_.ties),.lit (.int .i64 v0.desk.show_.horizon),.lit (.int .i64 v0.desk.state.now),.sl (ab eI v0.desk.state.times),.sl (ab eI v0.desk.state.values),.lit (.bool v0.desk.lazy),.sl (ab GEntry.encS v0.desk.log),.sl (ab GTake.enc v0.takes)])] (.lit (.string res.1)) [(10000,0,.var [.sl (ab GCue.enc res.2.sheet.cues),.sl (ab eI res.2.sheet.prep),.lit (.int .i64 res.2.sheet.horizon),.sl (ab ag.encS res.2.desk.show_.nodes),.sl (ab GTie.enc res.2.desk.show_.ties),.lit (.int .i64 res.2.desk.show_.horizon),.lit (.int .i64 res.2.desk.state.now),.sl (ab eI res.2.desk.state.times),.sl (ab eI res.2.desk.state.values),.lit (.bool res.2.desk.lazy),.sl (ab GEntry.encS res.2.desk.log),.sl (ab GTake.enc res.2.takes)])]):=⟨by
 intro res h0
 refine ao (ra:=[.homeCell 10000 0,.freeze [100640000],.sliC 10000 0,.homeCell 10000 1,.freeze [100640001],.sliC 10000 1,.homeCell 10000 3,.freeze [3968,100640003],.sliC 10000 3,.homeCell 10000 4,.freeze [3969,100640004],.sliC 10000 4,.homeCell 10000 7,.freeze [3970,100640007],.sliC 10000 7,.homeCell 10000 8,.freeze [3971,100640008],.sliC 10000 8,.homeCell 10000 10,.freeze [3972,100640010],.sliC 10000 10,.homeCell 10000 11,.freeze [100640011],.sliC 10000 11]) (md:=mdT) hT (hi:=hi65) func65 rfl rfl (by decide +kernel) (by simp) ?_
 unfold bY at h0
 obtain⟨r01,g0,h0⟩:=ae h0
 simp(config:=cS)only[go_sem, *]
 have g0:=ctr g0
 refine af g0 ?_
 obtain⟨_,h0⟩|⟨_,h0⟩:=itB h0
 ·obtain⟨_,h0⟩|⟨_,h0⟩:=itP h0
  ·exact run
  obtain⟨_,h0⟩|⟨_,h0⟩:=itP h0
  ·exact run
  obtain⟨_,h0⟩|⟨_,h0⟩:=itP h0
  ·exact run
  try simp(config:=cS)only[go_sem, *]
  refine bC ?_ ?_
  ·obtain⟨r06,g0,h0⟩:=ae h0
   simp(config:=cS)only[go_sem, *]
   refine af (lG g0) ?_
   try simp(config:=cS)only[go_sem, *]
   refine bC ?_ ?_
   ·exact run
   exact run
  obtain⟨r09,g0,h0⟩:=ae h0
  simp(config:=cS)only[go_sem, *]
  refine af (lG g0) ?_
  exact run
 exact run⟩
@[go_sem] def jt (most by_ v25:Int)(s_0:List ag)(s_1:List GTie)(s_2:Int)(_:Unit):St:=⟨[(1,.lit (.int .i64 most)),(2,.fn 121 []),(3,.ptr 192 1 0 0),(9,.lit (.int .i64 by_)),(25,.lit (.int .i64 v25)),(26,.lit (.int .i64 0))],[(192,1,.var [.sl (ab ag.encS s_0),.sl (ab GTie.enc s_1),.lit (.int .i64 s_2)])],2⟩
@[go_sem] def ju (most:Int)(s_0:List ag)(s_1:List GTie)(s_2 by_:Int):St:=⟨[(1,.lit (.int .i64 most)),(2,.fn 121 []),(3,.ptr 192 1 0 0),(9,.lit (.int .i64 by_))],[(192,1,.var [.sl (ab ag.encS s_0),.sl (ab GTie.enc s_1),.lit (.int .i64 s_2)])],2⟩
instance k71_s121 {s:GShow} {most:Int}:Ctr (dG s most) (fun (res:Int × Int × Bool)=>ai prog 71 [.agg (GShow.encS s),.lit (.int .i64 most),.fn 121 []] [] (.tup [.lit (.int .i64 res.1),.lit (.int .i64 res.2.1),.lit (.bool res.2.2)]) []):=⟨by
 intro res h0
 refine co (hi:=hi00) func71 rfl rfl ?_
 unfold dG at h0
 obtain⟨r01,g0,h0⟩:=ae h0
 simp(config:=cS)only[go_sem, *]
 have g0:=ctr g0
 refine af g0 ?_
 obtain⟨_,h0⟩|⟨_,h0⟩:=itB h0
 ·obtain⟨r02,g0,h0⟩:=ae h0
  simp(config:=cS)only[go_sem, *]
  have g0:=ctr g0
  refine af g0 ?_
  obtain⟨_,h0⟩|⟨_,h0⟩:=itB h0
  ·exact run
  obtain⟨q04,l0,h0⟩:=ae h0
  simp(config:=cS)only[go_sem, *]
  refine aj (m1:=.mk) (m2:=.mk) [.nf [1,2,3,9] [192]] (ju most s.nodes s.ties s.horizon) l0 ?_ ?_
  ·simp(config:=cS)only[go_sem, *]
  have k0:=h0
  clear h0 l0
  intro _ by__1 _ h0 gb0
  unfold eU at h0
  try dsimp only at h0
  obtain⟨_,h0⟩|⟨_,h0⟩:=itP h0
  ·obtain⟨q03,l0,h0⟩:=ae h0
   simp(config:=cS)only[go_sem, *]
   refine aj (m1:=.mk) (m2:=.mk) [.nf [1,2,3,9,25,26] [192]] (jt most by__1 (s.ties.length:Int) s.nodes s.ties s.horizon) l0 ?_ ?_
   ·simp(config:=cS)only[go_sem, *]
   have k0:=h0
   clear h0 l0
   intro _ s0 _ h0 gb0
   unfold eR at h0
   try dsimp only at h0
   exact run
  exact run
 exact run⟩
instance k66 {s:GShow}:Ctr (jJ s) (fun (res:Int × Int × Bool)=>ai prog 66 [.agg (GShow.encS s)] [] (.tup [.lit (.int .i64 res.1),.lit (.int .i64 res.2.1),.lit (.bool res.2.2)]) []):=⟨by
 intro res h0
 refine co (hi:=hi00) func66 rfl rfl ?_
 unfold jJ at h0
 exact run⟩
instance k41 {v0:GConsole} {sign:ByteArray} {tie:Int} {by_:Int} {ok:Bool}:Ctr (dT v0 sign tie by_ ok) (fun (res:ByteArray × GConsole)=>ai prog 41 [.ptr 10000 0 0 0,.lit (.string sign),.lit (.int .i64 tie),.lit (.int .i64 by_),.lit (.bool ok)] [(10000,0,.var [.sl (ab GCue.enc v0.sheet.cues),.sl (ab eI v0.sheet.prep),.lit (.int .i64 v0.sheet.horizon),.sl (ab ag.encS v0.desk.show_.nodes),.sl (ab GTie.enc v0.desk.show_.ties),.lit (.int .i64 v0.desk.show_.horizon),.lit (.int .i64 v0.desk.state.now),.sl (ab eI v0.desk.state.times),.sl (ab eI v0.desk.state.values),.lit (.bool v0.desk.lazy),.sl (ab GEntry.encS v0.desk.log),.sl (ab GTake.enc v0.takes)])] (.lit (.string res.1)) [(10000,0,.var [.sl (ab GCue.enc res.2.sheet.cues),.sl (ab eI res.2.sheet.prep),.lit (.int .i64 res.2.sheet.horizon),.sl (ab ag.encS res.2.desk.show_.nodes),.sl (ab GTie.enc res.2.desk.show_.ties),.lit (.int .i64 res.2.desk.show_.horizon),.lit (.int .i64 res.2.desk.state.now),.sl (ab eI res.2.desk.state.times),.sl (ab eI res.2.desk.state.values),.lit (.bool res.2.desk.lazy),.sl (ab GEntry.encS res.2.desk.log),.sl (ab GTake.enc res.2.takes)])]):=⟨by
 intro res h0
 refine ao (ra:=[.homeCell 10000 0,.freeze [100640000],.sliC 10000 0,.homeCell 10000 1,.freeze [100640001],.sliC 10000 1,.homeCell 10000 3,.freeze [100640003],.sliC 10000 3,.homeCell 10000 4,.freeze [100640004],.sliC 10000 4,.homeCell 10000 7,.freeze [100640007],.sliC 10000 7,.homeCell 10000 8,.freeze [100640008],.sliC 10000 8,.homeCell 10000 10,.freeze [100640010],.sliC 10000 10,.homeCell 10000 11,.freeze [100640011],.sliC 10000 11]) (md:=mdT) hT (hi:=hi00) func41 rfl rfl (by decide +kernel) (by simp) ?_
 unfold dT at h0
 exact run⟩
@[go_sem] def qB (s_0:List ag)(s_1:List GTie)(s_2:Int)(h512:List ag)(h513:List GTie)(v3_2:Int):St:=⟨[(1,.ptr 64 1 0 0),(3,.ptr 192 1 0 0)],[(64,1,.var [.sl (ab ag.encS s_0),.sl (ab GTie.enc s_1),.lit (.int .i64 s_2)]),(192,1,.var [.ref 512 1 0 h512.length,.ref 513 1 0 h513.length,.lit (.int .i64 v3_2)]),(512,1,.row true (ab ag.encO h512)),(513,1,.row true (ab GTie.enc h513))],2⟩
instance k67 {s:GShow}:Ctr (lx s) (fun (res:Int)=>ai prog 67 [.agg (GShow.encS s)] [] (.lit (.int .i64 res)) []):=⟨by
 intro res h0
 refine co (hi:=hi00) func67 rfl rfl ?_
 unfold lx at h0
 obtain⟨r01,g0,h0⟩:=ae h0
 simp(config:=cS)only[go_sem, *]
 have g0:=ctr g0
 refine af g0 ?_
 obtain⟨_,h0⟩|⟨_,h0⟩:=itB h0
 ·obtain⟨r02,g0,h0⟩:=ae h0
  simp(config:=cS)only[go_sem, *]
  have g0:=ctr g0
  refine af g0 ?_
  obtain⟨q04,l0,h0⟩:=ae h0
  simp(config:=cS)only[go_sem, *]
  refine aj (m1:=.mk) (m2:=.mk) [.nf [1,3] [64,192,512,513]] (qB s.nodes s.ties s.horizon r02.nodes r02.ties) l0 ?_ ?_
  ·simp(config:=cS)only[go_sem, *]
  have k0:=h0
  clear h0 l0
  intro _ v3_2_1 _ h0 gb0
  unfold mT at h0
  try dsimp only at h0
  exact run
 exact run⟩
instance k37 {v0:GConsole} {word:ByteArray}:Ctr (gY v0 word) (fun (res:ByteArray × GConsole)=>ai prog 37 [.ptr 10000 0 0 0,.lit (.string word)] [(10000,0,.var [.sl (ab GCue.enc v0.sheet.cues),.sl (ab eI v0.sheet.prep),.lit (.int .i64 v0.sheet.horizon),.sl (ab ag.encS v0.desk.show_.nodes),.sl (ab GTie.enc v0.desk.show_.ties),.lit (.int .i64 v0.desk.show_.horizon),.lit (.int .i64 v0.desk.state.now),.sl (ab eI v0.desk.state.times),.sl (ab eI v0.desk.state.values),.lit (.bool v0.desk.lazy),.sl (ab GEntry.encS v0.desk.log),.sl (ab GTake.enc v0.takes)])] (.lit (.string res.1)) [(10000,0,.var [.sl (ab GCue.enc res.2.sheet.cues),.sl (ab eI res.2.sheet.prep),.lit (.int .i64 res.2.sheet.horizon),.sl (ab ag.encS res.2.desk.show_.nodes),.sl (ab GTie.enc res.2.desk.show_.ties),.lit (.int .i64 res.2.desk.show_.horizon),.lit (.int .i64 res.2.desk.state.now),.sl (ab eI res.2.desk.state.times),.sl (ab eI res.2.desk.state.values),.lit (.bool res.2.desk.lazy),.sl (ab GEntry.encS res.2.desk.log),.sl (ab GTake.enc res.2.takes)])]):=⟨by
 intro res h0
 refine ao (ra:=[.homeCell 10000 0,.freeze [100640000],.sliC 10000 0,.homeCell 10000 1,.freeze [100640001],.sliC 10000 1,.homeCell 10000 3,.freeze [100640003],.sliC 10000 3,.homeCell 10000 4,.freeze [100640004],.sliC 10000 4,.homeCell 10000 7,.freeze [100640007],.sliC 10000 7,.homeCell 10000 8,.freeze [100640008],.sliC 10000 8,.homeCell 10000 10,.freeze [100640010],.sliC 10000 10,.homeCell 10000 11,.freeze [100640011],.sliC 10000 11]) (md:=mdT) hT (hi:=hi00) func37 rfl rfl (by decide +kernel) (by simp) ?_
 unfold gY at h0
 exact run⟩
@[go_sem] def jv (most by_ v25:Int)(s_0:List ag)(s_1:List GTie)(s_2:Int)(_:Unit):St:=⟨[(1,.lit (.int .i64 most)),(2,.fn 72 []),(3,.ptr 192 1 0 0),(9,.lit (.int .i64 by_)),(25,.lit (.int .i64 v25)),(26,.lit (.int .i64 0))],[(192,1,.var [.sl (ab ag.encS s_0),.sl (ab GTie.enc s_1),.lit (.int .i64 s_2)])],2⟩
@[go_sem] def jw (most:Int)(s_0:List ag)(s_1:List GTie)(s_2 by_:Int):St:=⟨[(1,.lit (.int .i64 most)),(2,.fn 72 []),(3,.ptr 192 1 0 0),(9,.lit (.int .i64 by_))],[(192,1,.var [.sl (ab ag.encS s_0),.sl (ab GTie.enc s_1),.lit (.int .i64 s_2)])],2⟩
instance k71_s72 {s:GShow} {most:Int}:Ctr (dH s most) (fun (res:Int × Int × Bool)=>ai prog 71 [.agg (GShow.encS s),.lit (.int .i64 most),.fn 72 []] [] (.tup [.lit (.int .i64 res.1),.lit (.int .i64 res.2.1),.lit (.bool res.2.2)]) []):=⟨by
 intro res h0
 refine co (hi:=hi00) func71 rfl rfl ?_
 unfold dH at h0
 obtain⟨r01,g0,h0⟩:=ae h0
 simp(config:=cS)only[go_sem, *]
 have g0:=ctr g0
 refine af g0 ?_
 obtain⟨_,h0⟩|⟨_,h0⟩:=itB h0
 ·obtain⟨r02,g0,h0⟩:=ae h0
  simp(config:=cS)only[go_sem, *]
  have g0:=ctr g0
  refine af g0 ?_
  obtain⟨_,h0⟩|⟨_,h0⟩:=itB h0
  ·exact run
  obtain⟨q04,l0,h0⟩:=ae h0
  simp(config:=cS)only[go_sem, *]
  refine aj (m1:=.mk) (m2:=.mk) [.nf [1,2,3,9] [192]] (jw most s.nodes s.ties s.horizon) l0 ?_ ?_
  ·simp(config:=cS)only[go_sem, *]
  have k0:=h0
  clear h0 l0
  intro _ by__1 _ h0 gb0
  unfold eW at h0
  try dsimp only at h0
  obtain⟨_,h0⟩|⟨_,h0⟩:=itP h0
  ·obtain⟨q03,l0,h0⟩:=ae h0
   simp(config:=cS)only[go_sem, *]
   refine aj (m1:=.mk) (m2:=.mk) [.nf [1,2,3,9,25,26] [192]] (jv most by__1 (s.ties.length:Int) s.nodes s.ties s.horizon) l0 ?_ ?_
   ·simp(config:=cS)only[go_sem, *]
   have k0:=h0
   clear h0 l0
   intro _ s0 _ h0 gb0
   unfold eV at h0
   try dsimp only at h0
   exact run
  exact run
 exact run⟩
instance k40 {s:GShow} {most:Int}:Ctr (fF s most) (fun (res:Int × Int × Bool)=>ai prog 40 [.agg (GShow.encS s),.lit (.int .i64 most)] [] (.tup [.lit (.int .i64 res.1),.lit (.int .i64 res.2.1),.lit (.bool res.2.2)]) []):=⟨by
 intro res h0
 refine co (hi:=hi00) func40 rfl rfl ?_
 unfold fF at h0
 exact run⟩
@[go_sem] def lB (v0:List GTake)(f_v1:Nat)(k_v1:List AV)(v7 v8:Int):St:=⟨[(0,.sl (ab GTake.enc v0)),(1,.fn f_v1 k_v1),(7,.lit (.int .i64 v7)),(8,.lit (.int .i64 v8))],[],2⟩
theorem pE {v0:List GTake}{v1:GTake→Option Bool}{f_v1:Nat}{k_v1:List AV}(hp_v1:∀ y0 r,v1 y0=some r→ai prog f_v1 ([.agg [.lit (.int .i64 y0.tie),.lit (.int .i64 y0.length)]]++k_v1) [] (.lit (.bool r)) [])(hc_v1:KC k_v1)(hm_v1:∀ a,mdT f_v1 a=⟨[],false⟩)(hk_v1:spf f_v1=false){res:Int}(h:fc v0 v1=some res):ai prog 255 [.sl (ab GTake.enc v0),.fn f_v1 k_v1] [] (.lit (.int .i64 res)) []:=by
 refine co (hi:=hi00) func255 rfl rfl ?_
 unfold fc at h
 obtain⟨q03,l1,h⟩:=ae h
 simp(config:=cS)only[go_sem,hc_v1.1,hc_v1.2,hm_v1,hk_v1]
 refine aj (m1:=.mk) (m2:=.mk) [.nf [0,1,7,8] []] (lB v0 f_v1 k_v1 (v0.length:Int)) l1 ?_ ?_
 ·simp(config:=cS)only[go_sem,hc_v1.1,hc_v1.2,hm_v1,hk_v1]
 intro nb2 v8_1 bb2 b2 gb2
 unfold gL at b2
 try dsimp only at b2
 obtain⟨h3,b2⟩|⟨h3,b2⟩:=aN b2
 ·obtain⟨x01,g4,b2⟩:=ae b2
  obtain⟨h5,h6,h7⟩:=bz g4
  obtain⟨r02,g8,b2⟩:=ae b2
  simp(config:=cS)only[go_sem,hc_v1.1,hc_v1.2,hm_v1,hk_v1,eqT h3,h5,h6,h7]
  refine af (hp_v1 _ _ g8) ?_
  obtain⟨h9,b2⟩|⟨h9,b2⟩:=aN b2
  ·cases b2
   obtain rfl:=(aG gb2).symm
   try dsimp only at h
   cases h
   simp(config:=cS)only[go_sem,hc_v1.1,hc_v1.2,hm_v1,hk_v1,eqT h3,h5,h6,h7,eZt h9]
  cases b2
  simp(config:=cS)only[go_sem,hc_v1.1,hc_v1.2,hm_v1,hk_v1,eqT h3,h5,h6,h7,eZf h9]
  refine cy gb2 ?_
  simp(config:=cS)only[go_sem,hc_v1.1,hc_v1.2,hm_v1,hk_v1,eqT h3,h5,h6,h7,eZf h9]
 cases b2
 obtain rfl:=(aG gb2).symm
 try dsimp only at h
 cases h
 simp(config:=cS)only[go_sem,hc_v1.1,hc_v1.2,hm_v1,hk_v1,eqF h3]
theorem nr {v0:List GTake}{v1:GTake→Option Bool}{f_v1:Nat}{k_v1:List AV}(hp_v1:∀ y0 r,v1 y0=some r→ai prog f_v1 ([.agg [.lit (.int .i64 y0.tie),.lit (.int .i64 y0.length)]]++k_v1) [] (.lit (.bool r)) [])(hc_v1:KC k_v1)(hm_v1:∀ a,mdT f_v1 a=⟨[],false⟩)(hk_v1:spf f_v1=false){res:Bool}(h:ec v0 v1=some res):ai prog 196 [.sl (ab GTake.enc v0),.fn f_v1 k_v1] [] (.lit (.bool res)) []:=by
 refine co (hi:=hi00) func196 rfl rfl ?_
 unfold ec at h
 obtain⟨r01,g1,h⟩:=ae h
 simp(config:=cS)only[go_sem,hc_v1.1,hc_v1.2,hm_v1,hk_v1]
 refine af (pE hp_v1 hc_v1 hm_v1 hk_v1 g1) ?_
 cases h
 simp(config:=cS)only[go_sem,hc_v1.1,hc_v1.2,hm_v1,hk_v1]
@[go_sem] def hi197_1:DT:=.r2 0 42 .nil
def DM:Hint where
 acts:=fun _=>[]
 draws:=fun
  | 1=>⟨hi197_1,[[],[0],[0,1],[],[3],.range 5,.range 6,.range 7,.range 8,.range 9,.range 8,[0,1,2,3,4,5,6,7,10],.range 12,.range 13,.range 14,.range 15,.range 16,.range 17,.range 18,.range 19,.range 18,[0,1,2,3,4,5,6,7,8,9,10,11,12,13,14,15,16,17,20],.range 18,[0,1,2,3,4,5,6,7,8,9,10,11,12,13,14,15,16,17,22],[0,1,2,3,4,5,6,7,8,9,10,11,12,13,14,15,16,17,20,21,22,23],[0,1,2,3,4,5,6,7,8,9,10,11,12,13,14,15,16,17,20,21,22,23,24],[0,1,2,3,4,5,6,7,8,9,10,11,12,13,14,15,16,17,20,21,22,23,24,25],.range 27,.range 28,.range 29,.range 30,.range 31,.range 30,[0,1,2,3,4,5,6,7,8,9,10,11,12,13,14,15,16,17,18,19,20,21,22,23,24,25,26,27,28,29,32],.range 30,[0,1,2,3,4,5,6,7,8,9,10,11,12,13,14,15,16,17,18,19,20,21,22,23,24,25,26,27,28,29,34],[0,1,2,3,4,5,6,7,8,9,10,11,12,13,14,15,16,17,18,19,20,21,22,23,24,25,26,27,28,29,32,33,34,35],[0,1,2,3,4,5,6,7,8,9,10,11,12,13,14,15,16,17,18,19,20,21,22,23,24,25,26,27,28,29,32,33,34,35,36],[0,1,2,3,4,5,6,7,8,9,10,11,12,13,14,15,16,17,18,19,20,21,22,23,24,25,26,27,28,29,32,33,34,35,36,37],.range 39,.range 40,.range 41],.range 42⟩
  | _=>⟨.nil,[],[]⟩
theorem Kk (i:Nat):DM.acts i=[]:=rfl
attribute[go_sem] Kk ntmps197 results197
@[go_sem] theorem Wz:(DM.draws 1).order=hi197_1:=rfl
instance k197 {t:GTake} {s:GShow}:Ctr (jK t s) (fun (res:Bool)=>ai prog 197 [.agg [.lit (.int .i64 t.tie),.lit (.int .i64 t.length)],.loc [.sl (ab ag.encS s.nodes),.sl (ab GTie.enc s.ties),.lit (.int .i64 s.horizon)]] [] (.lit (.bool res)) []):=⟨by
 intro res h0
 refine co (hi:=DM) func197 rfl rfl ?_
 unfold jK at h0
 exact run⟩
instance k132 {s:GShow} {list:List GTake}:Ctr (je s list) (fun (res:Bool)=>ai prog 132 [.agg (GShow.encS s),.sl (ab GTake.enc list)] [] (.lit (.bool res)) []):=⟨by
 intro res h0
 refine co (hi:=hi00) func132 rfl rfl ?_
 unfold je at h0
 obtain⟨r01,g0,h0⟩:=ae h0
 simp(config:=cS)only[go_sem, *]
 have g0:=ctr g0
 refine af g0 ?_
 obtain⟨_,h0⟩|⟨_,h0⟩:=itB h0
 ·obtain⟨_,h0⟩|⟨_,h0⟩:=itP h0
  ·exact run
  obtain⟨r02,g0,h0⟩:=ae h0
  simp(config:=cS)only[go_sem, *]
  refine af (nr (by exact fun _ _ hr=>by have q:=ctr hr;exact q) (by refine⟨fun _=>?_,fun _=>?_⟩ <;> simp only[go_sem]) (fun _=>rfl) rfl g0) ?_
  exact run
 exact run⟩
@[go_sem] def qh (v0:List Int):(Int × Int)→St
 | (v3,v4)=>⟨[(0,.sl (ab eI v0)),(3,.lit (.int .i64 v3)),(4,.lit (.int .i64 v4))],[],2⟩
instance k198 {v0:List Int}:Ctr (kq v0) (fun (res:Int)=>ai prog 198 [.sl (ab eI v0)] [] (.lit (.int .i64 res)) []):=⟨by
 intro res h0
 refine co (hi:=hi00) func198 rfl rfl ?_
 unfold kq at h0
 obtain⟨_,h0⟩|⟨_,h0⟩:=itP h0
 ·exact run
 obtain⟨x01,g1,h0⟩:=ae h0
 have:=aR (k:=0) g1
 obtain⟨q03,l0,h0⟩:=ae h0
 simp(config:=cS)only[go_sem, *]
 refine aj (m1:=.mk) (m2:=.mk) [.nf [0,3,4] []] (qh v0) l0 ?_ ?_
 ·simp(config:=cS)only[go_sem, *]
 have k0:=h0
 clear h0 l0
 intro _ s0 _ h0 gb0
 obtain⟨v3_1,v4_1⟩:=s0
 unfold lQ at h0
 try dsimp only at h0
 exact run⟩
@[go_sem] def qi (v0:List Int):(Int × Int)→St
 | (v3,v4)=>⟨[(0,.sl (ab eI v0)),(3,.lit (.int .i64 v3)),(4,.lit (.int .i64 v4))],[],2⟩
instance k199 {v0:List Int}:Ctr (kr v0) (fun (res:Int)=>ai prog 199 [.sl (ab eI v0)] [] (.lit (.int .i64 res)) []):=⟨by
 intro res h0
 refine co (hi:=hi00) func199 rfl rfl ?_
 unfold kr at h0
 obtain⟨_,h0⟩|⟨_,h0⟩:=itP h0
 ·exact run
 obtain⟨x01,g1,h0⟩:=ae h0
 have:=aR (k:=0) g1
 obtain⟨q03,l0,h0⟩:=ae h0
 simp(config:=cS)only[go_sem, *]
 refine aj (m1:=.mk) (m2:=.mk) [.nf [0,3,4] []] (qi v0) l0 ?_ ?_
 ·simp(config:=cS)only[go_sem, *]
 have k0:=h0
 clear h0 l0
 intro _ s0 _ h0 gb0
 obtain⟨v3_1,v4_1⟩:=s0
 unfold lR at h0
 try dsimp only at h0
 exact run⟩
@[go_sem] def nu (tie:Int)(v16:List GTake)(v17:Int):(Int × (List Int))→St
 | (v18,lengths)=>⟨[(2,.lit (.int .i64 tie)),(6,.ptr 384 1 0 0),(8,.ref 575 1 0 lengths.length),(16,.sl (ab GTake.enc v16)),(17,.lit (.int .i64 v17)),(18,.lit (.int .i64 v18))],[(384,1,.var [.lit (.int .i64 0),.lit (.int .i64 0)]),(575,1,.row true (ab eI lengths))],2⟩
instance k133 {s:GShow} {list:List GTake} {tie:Int}:Ctr (gz s list tie) (fun (res:ar × Bool)=>ai prog 133 [.agg (GShow.encS s),.sl (ab GTake.enc list),.lit (.int .i64 tie)] [] (.tup [.agg [.lit (.int .i64 res.1.low),.lit (.int .i64 res.1.high)],.lit (.bool res.2)]) []):=⟨by
 intro res h0
 refine co (hi:=hi00) func133 rfl rfl ?_
 unfold gz at h0
 obtain⟨r01,g0,h0⟩:=ae h0
 simp(config:=cS)only[go_sem, *]
 have g0:=ctr g0
 refine af g0 ?_
 obtain⟨_,h0⟩|⟨_,h0⟩:=itB h0
 ·obtain⟨q05,l0,h0⟩:=ae h0
  simp(config:=cS)only[go_sem, *]
  refine aj (m1:=.mk) (m2:=.mk) [.home 8,.nf [2,6,8,16,17,18] [384,575]] (nu tie list (list.length:Int)) l0 ?_ ?_
  ·simp(config:=cS)only[go_sem, *]
  have k0:=h0
  clear h0 l0
  intro _ s0 _ h0 gb0
  obtain⟨v18_1,lengths_1⟩:=s0
  unfold jq at h0
  try dsimp only at h0
  exact run
 exact run⟩
@[go_sem] def pe (list:List GTake)(slack v26:Int)(s_0:List ag)(s_1:List GTie)(s_2 out_2:Int)(h1472:List ag):(Int × (List GTie))→St
 | (v27,h1473)=>⟨[(1,.sl (ab GTake.enc list)),(2,.lit (.int .i64 slack)),(3,.ptr 192 1 0 0),(6,.ptr 384 1 0 0),(8,.ptr 512 1 0 0),(26,.lit (.int .i64 v26)),(27,.lit (.int .i64 v27))],[(192,1,.var [.sl (ab ag.encS s_0),.sl (ab GTie.enc s_1),.lit (.int .i64 s_2)]),(384,1,.var [.lit (.slice none 0 0),.lit (.slice none 0 0),.lit (.int .i64 0)]),(512,1,.var [.ref 1472 1 0 h1472.length,.ref 1473 1 0 h1473.length,.lit (.int .i64 out_2)]),(1472,1,.row true (ab ag.encO h1472)),(1473,1,.row true (ab GTie.enc h1473))],2⟩
@[go_sem] def hi74_9:DT:=.r2 0 3 (.i1 3 (.i1 4 (.r2 5 18 (.i1 23 (.i1 24 (.r2 25 5 (.i0 30 [3,4,23,24] (.r2 31 3 .nil))))))))
def hi74:Hint where
 acts:=fun _=>[]
 draws:=fun
  | 9=>⟨hi74_9,[[],[0],[],[],[3],[],[],[6],[],[6,7,8],[6,7,8,9],[6,7,8,9,10],[],[12],[],[12,13,14],[6,7,8,9,10,11,12,13,14,15],[],[17],[],[17,18,19],[17,18,19,20],[17,18,19,20,21],[],[23],[],[23,24,25],[17,18,19,20,21,22,23,24,25,26],[0,1,2,6,7,8,9,10,11,12,13,14,15,16,17,18,19,20,21,22],[0,1,2,6,7,8,9,10,11,12,13,14,15,16,17,18,19,20,21,22,28],[0,1,2,6,7,8,9,10,11,12,13,14,15,16,17,18,19,20,21,22,28,29],.range 31,.range 32,.range 33],[0,1,2,28,29,30,3,4,5,6,7,8,9,10,11,12,13,14,15,16,17,18,19,20,21,22,23,24,25,26,27,31,32,33]⟩
  | _=>⟨.nil,[],[]⟩
theorem LX (i:Nat):hi74.acts i=[]:=rfl
attribute[go_sem] LX ntmps74 results74
@[go_sem] theorem Xt:(hi74.draws 9).order=hi74_9:=rfl
instance k74 {s:GShow} {list:List GTake} {slack:Int}:Ctr (iP s list slack) (fun (res:GShow × Bool)=>ai prog 74 [.agg (GShow.encS s),.sl (ab GTake.enc list),.lit (.int .i64 slack)] [] (.tup [.agg [.ref 20000 1 0 res.1.nodes.length,.ref 20001 1 0 res.1.ties.length,.lit (.int .i64 res.1.horizon)],.lit (.bool res.2)]) [(20000,1,.row true (ab ag.encO res.1.nodes)),(20001,1,.row true (ab GTie.enc res.1.ties))]):=⟨by
 intro res h0
 refine ao (ra:=[.homeCell 384 0,.homeCell 384 1]) (md:=mdT) hT (hi:=hi74) func74 rfl rfl (by decide +kernel) (by simp) ?_
 unfold iP at h0
 obtain⟨r01,g0,h0⟩:=ae h0
 simp(config:=cS)only[go_sem, *]
 have g0:=ctr g0
 refine af g0 ?_
 obtain⟨_,h0⟩|⟨_,h0⟩:=itB h0
 ·obtain⟨r02,g0,h0⟩:=ae h0
  simp(config:=cS)only[go_sem, *]
  have g0:=ctr g0
  refine af g0 ?_
  obtain⟨_,h0⟩|⟨_,h0⟩:=itB h0
  ·obtain⟨r03,g0,h0⟩:=ae h0
   simp(config:=cS)only[go_sem, *]
   have g0:=ctr g0
   refine af g0 ?_
   obtain⟨q07,l0,h0⟩:=ae h0
   simp(config:=cS)only[go_sem, *]
   refine aj (m1:=.mk) (m2:=.mk) [.nf [1,2,3,6,8,26,27] [192,384,512,1472,1473]] (pe list slack (r03.ties.length:Int) s.nodes s.ties s.horizon r03.horizon r03.nodes) l0 ?_ ?_
   ·simp(config:=cS)only[go_sem, *]
   have k0:=h0
   clear h0 l0
   intro _ s0 _ h0 gb0
   obtain⟨v27_1,h1473_1⟩:=s0
   unfold kN at h0
   try dsimp only at h0
   exact run
  exact run
 exact run⟩
@[go_sem] def nw (v36:List GTie)(v37:Int)(s_0:List ag)(s_2:Int)(t_0:List ag)(t_1:List GTie)(t_2:Int):(Int × (List ByteArray))→St
 | (v38,out)=>⟨[(2,.ptr 128 1 0 0),(3,.ptr 192 1 0 0),(5,.ref 383 1 0 out.length),(36,.sl (ab GTie.enc v36)),(37,.lit (.int .i64 v37)),(38,.lit (.int .i64 v38))],[(128,1,.var [.sl (ab ag.encS s_0),.sl (ab GTie.enc v36),.lit (.int .i64 s_2)]),(192,1,.var [.sl (ab ag.encS t_0),.sl (ab GTie.enc t_1),.lit (.int .i64 t_2)]),(383,1,.row true (ab eS out))],2⟩
@[go_sem] def hi76_9:DT:=.i2 0 (.i1 1 (.i1 2 (.i1 3 (.i1 4 (.i1 5 (.i1 6 (.i1 7 (.i1 8 (.i1 9 (.i1 10 (.i1 11 (.i1 12 (.i1 13 (.i1 14 (.i2 15 (.i2 16 (.i1 18 (.i1 19 (.i0 17 [1,2,3,4,5,6,7,8,9,10,11,12,13,14,18,19] (.i0 20 [1,2,3,4,5,6,7,8,9,10,11,12,13,14] (.r2 21 5 .nil)))))))))))))))))))))
def hi76:Hint where
 acts:=fun _=>[]
 draws:=fun
  | 9=>⟨hi76_9,[[],[],[1],[],[3],[1,2,3,4],[1,2,3,4,5],[1,2,3,4,5,6],[],[8],[],[10],[8,9,10,11],[8,9,10,11,12],[8,9,10,11,12,13],[],[15],[15,16],[],[18],[15,16,17,18,19],[1,2,3,4,5,6,7,8,9,10,11,12,13,14,15,16,17,18,19,20],[1,2,3,4,5,6,7,8,9,10,11,12,13,14,15,16,17,18,19,20,21],[1,2,3,4,5,6,7,8,9,10,11,12,13,14,15,16,17,18,19,20,21,22],.range 24,.range 25],.range 26⟩
  | _=>⟨.nil,[],[]⟩
theorem LY (i:Nat):hi76.acts i=[]:=rfl
attribute[go_sem] LY ntmps76 results76
@[go_sem] theorem Xu:(hi76.draws 9).order=hi76_9:=rfl
instance k76 {s:GShow} {t:GShow}:Ctr (gA s t) (fun (res:List ByteArray)=>ai prog 76 [.agg (GShow.encS s),.agg (GShow.encS t)] [] (.ref 20000 1 0 res.length) [(20000,1,.row true (ab eS res))]):=⟨by
 intro res h0
 refine ao (ra:=[.home 4]) (md:=mdT) hT (hi:=hi76) func76 rfl rfl (by decide +kernel) (by simp) ?_
 unfold gA at h0
 obtain⟨r01,g0,h0⟩:=ae h0
 simp(config:=cS)only[go_sem, *]
 have g0:=ctr g0
 refine af g0 ?_
 obtain⟨_,h0⟩|⟨_,h0⟩:=itB h0
 ·obtain⟨r02,g0,h0⟩:=ae h0
  simp(config:=cS)only[go_sem, *]
  have g0:=ctr g0
  refine af g0 ?_
  obtain⟨_,h0⟩|⟨_,h0⟩:=itB h0
  ·obtain⟨_,h0⟩|⟨_,h0⟩:=itP h0
   ·obtain⟨_,h0⟩|⟨_,h0⟩:=itP h0
    ·obtain⟨q15,l0,h0⟩:=ae h0
     simp(config:=cS)only[go_sem, *]
     refine aj (m1:=.mk) (m2:=.mk) [.home 5,.nf [2,3,5,36,37,38] [128,192,383]] (nw s.ties (s.ties.length:Int) s.nodes s.horizon t.nodes t.ties t.horizon) l0 ?_ ?_
     ·simp(config:=cS)only[go_sem, *]
     have k0:=h0
     clear h0 l0
     intro _ s0 _ h0 gb0
     obtain⟨v38_1,out_1⟩:=s0
     unfold jr at h0
     try dsimp only at h0
     exact run
    exact run
   exact run
  exact run
 exact run⟩
@[go_sem] def hi42_4:DT:=.i2 0 (.i2 4 (.i1 5 (.i1 6 (.i1 7 (.i1 8 (.i1 9 (.i0 1 [5,6,7,8,9] (.i0 2 [5,6,7,8,9] (.fork (.i0 3 [5,6,7,8,9] (.i2 10 (.i2 11 (.i2 12 (.i2 13 .nil))))) (.i2 10 (.i0 3 [5,6,7,8,9] (.i2 11 (.i2 12 (.i2 13 .nil))))))))))))))
@[go_sem] def hi42_1:DT:=.i2 0 (.i1 1 (.i1 2 (.i1 3 (.i1 4 (.i2 5 (.i1 6 (.i1 7 (.i1 8 (.i2 9 (.fork (.i2 10 (.i2 11 (.i2 12 (.i2 13 (.i0 14 [1,2,3,4,6,7,8] (.i2 15 (.i2 16 .nil))))))) (.i0 14 [1,2,3,4,6,7,8] (.i2 10 (.i2 11 (.i2 12 (.i2 13 (.i2 15 (.i2 16 .nil)))))))))))))))))
def hi42:Hint where
 acts:=fun _=>[]
 draws:=fun
  | 1=>⟨hi42_1,[[],[0],[0,1],[0,1,2],[0,1,2,3],[],[5],[5,6],[5,6,7],[],.range 10,.range 11,.range 12,.range 12,[],[0,1,2,3,4,5,6,7,8,9,10,11,12,14],.range 16],[0,1,2,3,4,5,6,7,8,9,10,11,12,15,13,14,16]⟩
  | 4=>⟨hi42_4,[[],[0],[0,1],[0,1,2],[],[4],[4,5],[4,5,6],[4,5,6,7],[],[0,1,2,4,5,6,7,8,9],.range 11,.range 12,.range 13],.range 14⟩
  | _=>⟨.nil,[],[]⟩
theorem LZ (i:Nat):hi42.acts i=[]:=rfl
attribute[go_sem] LZ ntmps42 results42
@[go_sem] theorem Xv:(hi42.draws 1).order=hi42_1:=rfl
@[go_sem] theorem Xw:(hi42.draws 4).order=hi42_4:=rfl
instance k42 {v0:GConsole} {slack:Int}:Ctr (fG v0 slack) (fun (res:ByteArray × GConsole)=>ai prog 42 [.ptr 10000 0 0 0,.lit (.int .i64 slack)] [(10000,0,.var [.sl (ab GCue.enc v0.sheet.cues),.sl (ab eI v0.sheet.prep),.lit (.int .i64 v0.sheet.horizon),.sl (ab ag.encS v0.desk.show_.nodes),.sl (ab GTie.enc v0.desk.show_.ties),.lit (.int .i64 v0.desk.show_.horizon),.lit (.int .i64 v0.desk.state.now),.sl (ab eI v0.desk.state.times),.sl (ab eI v0.desk.state.values),.lit (.bool v0.desk.lazy),.sl (ab GEntry.encS v0.desk.log),.sl (ab GTake.enc v0.takes)])] (.lit (.string res.1)) [(10000,0,.var [.sl (ab GCue.enc res.2.sheet.cues),.sl (ab eI res.2.sheet.prep),.lit (.int .i64 res.2.sheet.horizon),.sl (ab ag.encS res.2.desk.show_.nodes),.sl (ab GTie.enc res.2.desk.show_.ties),.lit (.int .i64 res.2.desk.show_.horizon),.lit (.int .i64 res.2.desk.state.now),.sl (ab eI res.2.desk.state.times),.sl (ab eI res.2.desk.state.values),.lit (.bool res.2.desk.lazy),.sl (ab GEntry.encS res.2.desk.log),.sl (ab GTake.enc res.2.takes)])]):=⟨by
 intro res h0
 refine ao (ra:=[.homeCell 10000 0,.freeze [100640000],.sliC 10000 0,.homeCell 10000 1,.freeze [100640001],.sliC 10000 1,.homeCell 10000 3,.freeze [100640003],.sliC 10000 3,.homeCell 10000 4,.freeze [100640004],.sliC 10000 4,.homeCell 10000 7,.freeze [100640007],.sliC 10000 7,.homeCell 10000 8,.freeze [100640008],.sliC 10000 8,.homeCell 10000 10,.freeze [100640010],.sliC 10000 10,.homeCell 10000 11,.freeze [100640011],.sliC 10000 11]) (md:=mdT) hT (hi:=hi42) func42 rfl rfl (by decide +kernel) (by simp) ?_
 unfold fG at h0
 try simp(config:=cS)only[go_sem, *]
 refine bC ?_ ?_
 ·obtain⟨r01,g0,h0⟩:=ae h0
  simp(config:=cS)only[go_sem, *]
  have g0:=ctr g0
  refine af g0 ?_
  obtain⟨_,h0⟩|⟨_,h0⟩:=itB h0
  ·obtain⟨r02,g0,h0⟩:=ae h0
   simp(config:=cS)only[go_sem, *]
   have g0:=ctr g0
   refine af g0 ?_
   obtain⟨r03,g0,h0⟩:=ae h0
   simp(config:=cS)only[go_sem, *]
   have g0:=ctr g0
   refine af g0 ?_
   try simp(config:=cS)only[go_sem, *]
   refine bC ?_ ?_
   ·exact run
   exact run
  exact run
 obtain⟨r08,g0,h0⟩:=ae h0
 simp(config:=cS)only[go_sem, *]
 have g0:=ctr g0
 refine af g0 ?_
 obtain⟨_,h0⟩|⟨_,h0⟩:=itB h0
 ·obtain⟨r09,g0,h0⟩:=ae h0
  simp(config:=cS)only[go_sem, *]
  have g0:=ctr g0
  refine af g0 ?_
  obtain⟨r10,g0,h0⟩:=ae h0
  simp(config:=cS)only[go_sem, *]
  have g0:=ctr g0
  refine af g0 ?_
  try simp(config:=cS)only[go_sem, *]
  refine bC ?_ ?_
  ·exact run
  exact run
 exact run⟩
instance k23 {v0:GConsole} {line:ByteArray}:Ctr (aH v0 line) (fun (res:ByteArray × GConsole)=>ai prog 23 [.ptr 10000 0 0 0,.lit (.string line)] [(10000,0,.var [.sl (ab GCue.enc v0.sheet.cues),.sl (ab eI v0.sheet.prep),.lit (.int .i64 v0.sheet.horizon),.sl (ab ag.encS v0.desk.show_.nodes),.sl (ab GTie.enc v0.desk.show_.ties),.lit (.int .i64 v0.desk.show_.horizon),.lit (.int .i64 v0.desk.state.now),.sl (ab eI v0.desk.state.times),.sl (ab eI v0.desk.state.values),.lit (.bool v0.desk.lazy),.sl (ab GEntry.encS v0.desk.log),.sl (ab GTake.enc v0.takes)])] (.lit (.string res.1)) [(10000,0,.var [.sl (ab GCue.enc res.2.sheet.cues),.sl (ab eI res.2.sheet.prep),.lit (.int .i64 res.2.sheet.horizon),.sl (ab ag.encS res.2.desk.show_.nodes),.sl (ab GTie.enc res.2.desk.show_.ties),.lit (.int .i64 res.2.desk.show_.horizon),.lit (.int .i64 res.2.desk.state.now),.sl (ab eI res.2.desk.state.times),.sl (ab eI res.2.desk.state.values),.lit (.bool res.2.desk.lazy),.sl (ab GEntry.encS res.2.desk.log),.sl (ab GTake.enc res.2.takes)])]):=⟨by
 intro res h0
 refine ao (ra:=[.homeCell 10000 0,.freeze [2048,100640000],.sliC 10000 0,.homeCell 10000 1,.freeze [2049,100640001],.sliC 10000 1,.homeCell 10000 3,.freeze [100640003],.sliC 10000 3,.homeCell 10000 4,.freeze [100640004],.sliC 10000 4,.homeCell 10000 7,.freeze [100640007],.sliC 10000 7,.homeCell 10000 8,.freeze [100640008],.sliC 10000 8,.homeCell 10000 10,.freeze [100640010],.sliC 10000 10,.homeCell 10000 11,.freeze [100640011],.sliC 10000 11]) (md:=mdT) hT (hi:=hi00) func23 rfl rfl (by decide +kernel) (by simp) ?_
 unfold aH at h0
 obtain⟨r01,g0,h0⟩:=ae h0
 simp(config:=cS)only[go_sem, *]
 have g0:=ctr g0
 refine af g0 ?_
 obtain⟨x02,g1,h0⟩:=ae h0
 have:=aR (k:=0) g1
 obtain⟨_,h0⟩|⟨_,h0⟩:=itP h0
 ·exact run
 obtain⟨_,h0⟩|⟨_,h0⟩:=itP h0
 ·exact run
 obtain⟨_,h0⟩|⟨_,h0⟩:=itP h0
 ·exact run
 obtain⟨_,h0⟩|⟨_,h0⟩:=itP h0
 ·exact run
 obtain⟨_,h0⟩|⟨_,h0⟩:=itP h0
 ·exact run
 obtain⟨_,h0⟩|⟨_,h0⟩:=itP h0
 ·exact run
 obtain⟨_,h0⟩|⟨_,h0⟩:=itP h0
 ·exact run
 obtain⟨x10,g2,h0⟩:=ae h0
 have:=aR (k:=1) g2
 obtain⟨r11,g0,h0⟩:=ae h0
 simp(config:=cS)only[go_sem, *]
 refine af (cw g0) ?_
 exact run⟩
@[go_sem] def hi12_1:DT:=.i1 0 (.i1 1 (.i1 3 (.i1 4 (.i1 6 (.i1 7 (.fork (.i0 2 [3,4,6,7] (.fork (.i0 5 [6,7] (.fork (.i2 8 (.i2 9 (.i0 10 [0,1,3,4,6,7] (.i2 11 .nil)))) (.i0 10 [0,1,3,4,6,7] (.i2 8 (.i2 9 (.i2 11 .nil)))))) (.i0 10 [0,1,3,4,6,7] (.i0 5 [6,7] (.i2 8 (.i2 9 (.i2 11 .nil))))))) (.i0 10 [0,1,3,4,6,7] (.i0 2 [3,4,6,7] (.i0 5 [6,7] (.i2 8 (.i2 9 (.i2 11 .nil))))))))))))
def hi12:Hint where
 acts:=fun i=>match i with|4=>[.freeze [640],.sliC 384 0,.freeze [641],.sliC 384 1,.freeze [832],.sliC 384 3,.freeze [833],.sliC 384 4,.freeze [834],.sliC 384 7,.freeze [835],.sliC 384 8,.freeze [836],.sliC 384 10,.freeze [1024],.sliC 384 11]|_=>[]
 draws:=fun
  | 1=>⟨hi12_1,[[],[0],[0,1],[],[3],.range 5,[],[6],.range 8,.range 9,[],.range 11],.range 12⟩
  | _=>⟨.nil,[],[]⟩
@[go_sem] theorem Xx:hi12.acts 0=[]:=rfl
@[go_sem] theorem Xy:hi12.acts 1=[]:=rfl
@[go_sem] theorem Xz:hi12.acts 2=[]:=rfl
@[go_sem] theorem XA:hi12.acts 3=[]:=rfl
@[go_sem] theorem XB:hi12.acts 4=[.freeze [640],.sliC 384 0,.freeze [641],.sliC 384 1,.freeze [832],.sliC 384 3,.freeze [833],.sliC 384 4,.freeze [834],.sliC 384 7,.freeze [835],.sliC 384 8,.freeze [836],.sliC 384 10,.freeze [1024],.sliC 384 11]:=rfl
@[go_sem] theorem XC:hi12.acts 5=[]:=rfl
@[go_sem] theorem XD:(hi12.draws 1).order=hi12_1:=rfl
instance k12 {v0:GConsole} {line:ByteArray}:Ctr (aS v0 line) (fun (res:GConsole × ByteArray)=>ai prog 12 [.agg (GConsole.encS v0),.lit (.string line)] [] (.tup [.agg [.sl (ab GCue.enc res.1.sheet.cues),.sl (ab eI res.1.sheet.prep),.lit (.int .i64 res.1.sheet.horizon),.sl (ab ag.encS res.1.desk.show_.nodes),.sl (ab GTie.enc res.1.desk.show_.ties),.lit (.int .i64 res.1.desk.show_.horizon),.lit (.int .i64 res.1.desk.state.now),.sl (ab eI res.1.desk.state.times),.sl (ab eI res.1.desk.state.values),.lit (.bool res.1.desk.lazy),.sl (ab GEntry.encS res.1.desk.log),.sl (ab GTake.enc res.1.takes)],.lit (.string res.2)]) []):=⟨by
 intro res h0
 refine ao (ra:=[.homeCell 256 0,.freeze [640,100016384],.sliC 256 0,.homeCell 256 1,.freeze [641,100016385],.sliC 256 1,.homeCell 256 3,.freeze [832,100016387],.sliC 256 3,.homeCell 256 4,.freeze [833,100016388],.sliC 256 4,.homeCell 256 7,.freeze [834,100016391],.sliC 256 7,.homeCell 256 8,.freeze [835,100016392],.sliC 256 8,.homeCell 256 10,.freeze [836,100016394],.sliC 256 10,.homeCell 256 11,.freeze [1024,100016395],.sliC 256 11]) (md:=mdT) hT (hi:=hi12) func12 rfl rfl (by decide +kernel) (by simp) ?_
 unfold aS at h0
 try simp(config:=cS)only[go_sem, *]
 refine bC ?_ ?_
 ·obtain⟨r01,g0,h0⟩:=ae h0
  simp(config:=cS)only[go_sem, *]
  have g0:=ctr g0
  refine af g0 ?_
  try simp(config:=cS)only[go_sem, *]
  refine bC ?_ ?_
  ·obtain⟨r02,g0,h0⟩:=ae h0
   simp(config:=cS)only[go_sem, *]
   have g0:=ctr g0
   refine af g0 ?_
   try simp(config:=cS)only[go_sem, *]
   refine bC ?_ ?_
   ·obtain⟨r03,g0,h0⟩:=ae h0
    simp(config:=cS)only[go_sem, *]
    have g0:=ctr g0
    refine af g0 ?_
    obtain⟨_,h0⟩|⟨_,h0⟩:=itP h0
    ·exact run
    obtain⟨c1004,g1,h0⟩:=ae h0
    have:=kg (k:=0) g1
    exact run
   obtain⟨r06,g0,h0⟩:=ae h0
   simp(config:=cS)only[go_sem, *]
   have g0:=ctr g0
   refine af g0 ?_
   obtain⟨_,h0⟩|⟨_,h0⟩:=itP h0
   ·exact run
   obtain⟨c1007,g2,h0⟩:=ae h0
   have:=kg (k:=0) g2
   exact run
  obtain⟨r09,g0,h0⟩:=ae h0
  simp(config:=cS)only[go_sem, *]
  have g0:=ctr g0
  refine af g0 ?_
  obtain⟨r10,g0,h0⟩:=ae h0
  simp(config:=cS)only[go_sem, *]
  have g0:=ctr g0
  refine af g0 ?_
  obtain⟨_,h0⟩|⟨_,h0⟩:=itP h0
  ·exact run
  obtain⟨c1011,g3,h0⟩:=ae h0
  have:=kg (k:=0) g3
  exact run
 obtain⟨r13,g0,h0⟩:=ae h0
 simp(config:=cS)only[go_sem, *]
 have g0:=ctr g0
 refine af g0 ?_
 obtain⟨r14,g0,h0⟩:=ae h0
 simp(config:=cS)only[go_sem, *]
 have g0:=ctr g0
 refine af g0 ?_
 obtain⟨r15,g0,h0⟩:=ae h0
 simp(config:=cS)only[go_sem, *]
 have g0:=ctr g0
 refine af g0 ?_
 obtain⟨_,h0⟩|⟨_,h0⟩:=itP h0
 ·exact run
 obtain⟨c1016,g4,h0⟩:=ae h0
 have:=kg (k:=0) g4
 exact run⟩
instance k8 {s:ByteArray}:Ctr (cY s) (fun (res:List ByteArray)=>ai prog 8 [.lit (.string s)] [] (.ref 20000 1 0 res.length) [(20000,1,.row false (ab eS res))]):=⟨by
 intro res h0
 refine ao (ra:=[.home 2,.trim 2]) (md:=mdT) hT (hi:=hi00) func8 rfl rfl (by decide +kernel) (by simp) ?_
 unfold cY at h0
 exact run⟩
@[go_sem] def pF (v17:Int)(v16:List ByteArray):(ByteArray × Int × (List GCue) × (List Int) × Int × (List ag) × (List GTie) × Int × Int × (List Int) × (List Int) × Bool × (List GEntry) × (List GTake))→St
 | (out,v18,v5_0,v5_1,v5_2,v5_3,v5_4,v5_5,v5_6,v5_7,v5_8,v5_9,v5_10,v5_11)=>⟨[(4,.ref 704 1 0 v16.length),(5,.ptr 320 1 0 0),(6,.lit (.string out)),(16,.ref 704 1 0 v16.length),(17,.lit (.int .i64 v17)),(18,.lit (.int .i64 v18))],[(704,1,.row false (ab eS v16)),(320,1,.var [.sl (ab GCue.enc v5_0),.sl (ab eI v5_1),.lit (.int .i64 v5_2),.sl (ab ag.encS v5_3),.sl (ab GTie.enc v5_4),.lit (.int .i64 v5_5),.lit (.int .i64 v5_6),.sl (ab eI v5_7),.sl (ab eI v5_8),.lit (.bool v5_9),.sl (ab GEntry.encS v5_10),.sl (ab GTake.enc v5_11)])],2⟩
instance k6 {text:ByteArray}:Ctr (eg text) (fun (res:ByteArray × Int)=>ai prog 6 [.lit (.string text)] [] (.tup [.lit (.string res.1),.lit (.int .i64 res.2)]) []):=⟨by
 intro res h0
 refine co (hi:=hi00) func6 rfl rfl ?_
 unfold eg at h0
 obtain⟨r01,g0,h0⟩:=ae h0
 simp(config:=cS)only[go_sem, *]
 have g0:=ctr g0
 refine af g0 ?_
 obtain⟨_,h0⟩|⟨_,h0⟩:=itP h0
 ·exact run
 obtain⟨r02,g0,h0⟩:=ae h0
 simp(config:=cS)only[go_sem, *]
 have g0:=ctr g0
 refine af g0 ?_
 obtain⟨q05,l0,h0⟩:=ae h0
 simp(config:=cS)only[go_sem, *]
 refine aj (m1:=.mk) (m2:=.mk) [.freeze [960,961,962,963,964,965,966,967],.freeze [960],.sliC 320 0,.freeze [961],.sliC 320 1,.freeze [962],.sliC 320 3,.freeze [963],.sliC 320 4,.freeze [964],.sliC 320 7,.freeze [965],.sliC 320 8,.freeze [966],.sliC 320 10,.freeze [967],.sliC 320 11,.nf [4,5,6,16,17,18] [704,320]] (pF (r01.length:Int) r01) l0 ?_ ?_
 ·simp(config:=cS)only[go_sem, *]
 have k0:=h0
 clear h0 l0
 intro _ s0 _ h0 gb0
 obtain⟨out_1,v18_1,v5_0_1,v5_1_1,v5_2_1,v5_3_1,v5_4_1,v5_5_1,v5_6_1,v5_7_1,v5_8_1,v5_9_1,v5_10_1,v5_11_1⟩:=s0
 unfold cm at h0
 try dsimp only at h0
 obtain⟨_,h0⟩|⟨_,h0⟩:=itP h0
 ·obtain⟨x03,_,_,_,h0⟩:=gtI h0
  obtain⟨r04,g0,h0⟩:=ae h0
  simp(config:=cS)only[go_sem, *]
  have g0:=ctr g0
  refine af g0 ?_
  obtain⟨_,h0⟩|⟨_,h0⟩:=itP h0
  ·exact run
  obtain⟨_,h0⟩:=ckP h0
  obtain⟨a1,h0⟩:=ckP h0
  try simp(config:=cS)only[go_sem]at a1
  exact run
 exact run⟩
@[go_sem] def qj (v19:Int)(v18:List ByteArray):(ByteArray × Int × (List GCue) × (List Int) × Int × (List ag) × (List GTie) × Int × Int × (List Int) × (List Int) × Bool × (List GEntry) × (List GTake))→St
 | (want,v20,v4_0,v4_1,v4_2,v4_3,v4_4,v4_5,v4_6,v4_7,v4_8,v4_9,v4_10,v4_11)=>⟨[(3,.ref 1024 1 0 v18.length),(4,.ptr 256 1 0 0),(5,.lit (.string want)),(18,.ref 1024 1 0 v18.length),(19,.lit (.int .i64 v19)),(20,.lit (.int .i64 v20))],[(1024,1,.row true (ab eS v18)),(256,1,.var [.sl (ab GCue.enc v4_0),.sl (ab eI v4_1),.lit (.int .i64 v4_2),.sl (ab ag.encS v4_3),.sl (ab GTie.enc v4_4),.lit (.int .i64 v4_5),.lit (.int .i64 v4_6),.sl (ab eI v4_7),.sl (ab eI v4_8),.lit (.bool v4_9),.sl (ab GEntry.encS v4_10),.sl (ab GTake.enc v4_11)])],2⟩
theorem vF {code:List Int}{res:Bool}(h0:eL code=some res):ai prog 4 [.sl (ab (eK .u8) code)] [] (.lit (.bool res)) []:=by
 refine co (hi:=hi00) func4 rfl rfl ?_
 unfold eL at h0
 obtain⟨_,h0⟩|⟨_,h0⟩:=itP h0
 ·exact run
 obtain⟨r01,g0,h0⟩:=ae h0
 simp(config:=cS)only[go_sem, *]
 have g0:=ctr g0
 refine af g0 ?_
 obtain⟨r02,g0,h0⟩:=ae h0
 simp(config:=cS)only[go_sem, *]
 have g0:=ctr g0
 refine af g0 ?_
 obtain⟨q07,l0,h0⟩:=ae h0
 simp(config:=cS)only[go_sem, *]
 refine aj (m1:=.mk) (m2:=.mk) [.freeze [1088,1089,1090,1091,1092,1093,1094,1095],.freeze [1088],.sliC 256 0,.freeze [1089],.sliC 256 1,.freeze [1090],.sliC 256 3,.freeze [1091],.sliC 256 4,.freeze [1092],.sliC 256 7,.freeze [1093],.sliC 256 8,.freeze [1094],.sliC 256 10,.freeze [1095],.sliC 256 11,.nf [3,4,5,18,19,20] [1024,256]] (qj (r01.length:Int) r01) l0 ?_ ?_
 ·simp(config:=cS)only[go_sem, *]
 have k0:=h0
 clear h0 l0
 intro _ s0 _ h0 gb0
 obtain⟨want_1,v20_1,v4_0_1,v4_1_1,v4_2_1,v4_3_1,v4_4_1,v4_5_1,v4_6_1,v4_7_1,v4_8_1,v4_9_1,v4_10_1,v4_11_1⟩:=s0
 unfold cz at h0
 try dsimp only at h0
 obtain⟨_,h0⟩|⟨_,h0⟩:=itP h0
 ·obtain⟨x03,_,_,_,h0⟩:=gtI h0
  obtain⟨r04,g0,h0⟩:=ae h0
  simp(config:=cS)only[go_sem, *]
  have g0:=ctr g0
  refine af g0 ?_
  obtain⟨_,h0⟩|⟨_,h0⟩:=itP h0
  ·exact run
  obtain⟨_,h0⟩:=ckP h0
  obtain⟨a1,h0⟩:=ckP h0
  try simp(config:=cS)only[go_sem]at a1
  exact run
 exact run
end Go.Proofs.Qr
