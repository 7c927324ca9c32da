/- Functions. -/
import Derived.Test.YtdhboohobflflaaGreatDoorXrJ
set_option linter.all false
set_option maxRecDepth 100000
set_option maxHeartbeats 4000000
namespace Go.Proofs.Qr
open Go Tryz
@[go_sem] def rQ (code:List Int):(Int × Int)→St
 | (v3,i)=>⟨[(0,.sl (ab (eK .u8) code)),(3,.lit (.int .i64 v3)),(4,.lit (.int .i64 i))],[],2⟩
attribute[go_sem] ntmps19 results19 ntmps27 results27 ntmps48 results48 ntmps28 results28 ntmps18 results18 ntmps10 results10 ntmps11 results11 ntmps29 results29 ntmps22 results22 ntmps17 results17 ntmps88 results88 ntmps84 results84 ntmps144 results144 ntmps145 results145 ntmps85 results85 ntmps87 results87 ntmps50 results50 ntmps89 results89 ntmps90 results90 ntmps147 results147 ntmps91 results91 ntmps51 results51 ntmps52 results52 ntmps109 results109 ntmps60 results60 ntmps57 results57 ntmps94 results94 ntmps53 results53 ntmps54 results54 ntmps98 results98 ntmps59 results59 ntmps55 results55 ntmps58 results58 ntmps111 results111 ntmps112 results112 ntmps61 results61 ntmps123 results123 ntmps124 results124 ntmps125 results125 ntmps38 results38 ntmps264 results264 ntmps297 results297 ntmps287 results287 ntmps289 results289 ntmps288 results288 ntmps267 results267 ntmps229 results229 ntmps276 results276 ntmps292 results292 ntmps309 results309 ntmps300 results300 ntmps291 results291 ntmps301 results301 ntmps293 results293 ntmps272 results272 ntmps270 results270 ntmps308 results308 ntmps307 results307
instance k19 {code:List Int}:Ctr (dY code) (fun (res:GL01Cur)=>ai prog 19 [.sl (ab (eK .u8) code)] [] (.ptr 20000 1 0 0) [(20000,1,.var [.sl (ab (eK .u8) res.b),.lit (.int .i64 res.i),.lit (.int .i64 res.h)])]):=⟨by
 intro res h0
 refine co (hi:=hi00) func19 rfl rfl ?_
 unfold dY at h0
 obtain⟨q02,l0,h0⟩:=ae h0
 simp(config:=cS)only[go_sem, *]
 refine aj (m1:=.mk) (m2:=.mk) [.nf [0,3,4] []] (rQ code) l0 ?_ ?_
 ·simp(config:=cS)only[go_sem, *]
 have k0:=h0
 clear h0 l0
 intro _ s0 _ h0 gb0
 obtain⟨v3_1,i_1⟩:=s0
 unfold bZ at h0
 try dsimp only at h0
 exact run⟩
@[go_sem] def hi15_4:DT:=.r2 0 15 .nil
@[go_sem] def hi15_3:DT:=.r2 0 10 .nil
@[go_sem] def hi15_2:DT:=.r2 0 13 .nil
def hi15:Hint where
 acts:=fun _=>[]
 draws:=fun
  | 2=>⟨hi15_2,[[],[0],[0,1],[0,1,2],[0,1,2,3],[],[5],[5,6],[5,6,7],[5,6,7,8],.range 10,.range 11,.range 12],.range 13⟩
  | 3=>⟨hi15_3,[[],[0],[0,1],[0,1,2],[],[4],[4,5],[4,5,6],[4,5,6,7],.range 9],.range 10⟩
  | 4=>⟨hi15_4,[[],[],[1],[1,2],[1,2,3],[],[5],[5,6],[5,6,7],[1,2,3,4,5,6,7,8],[1,2,3,4,5,6,7,8,9],[1,2,3,4,5,6,7,8,9,10],.range 12,.range 13,.range 14],.range 15⟩
  | _=>⟨.nil,[],[]⟩
theorem LO (i:Nat):hi15.acts i=[]:=rfl
attribute[go_sem] LO ntmps15 results15
@[go_sem] theorem WY:(hi15.draws 2).order=hi15_2:=rfl
@[go_sem] theorem WZ:(hi15.draws 3).order=hi15_3:=rfl
@[go_sem] theorem Xa:(hi15.draws 4).order=hi15_4:=rfl
instance k15 {v0:GL01Cur}:Ctr (bD v0) (fun (res:Int × GL01Cur)=>ai prog 15 [.ptr 10000 0 0 0] [(10000,0,.var [.sl (ab (eK .u8) v0.b),.lit (.int .i64 v0.i),.lit (.int .i64 v0.h)])] (.lit (.int .i64 res.1)) [(10000,0,.var [.sl (ab (eK .u8) res.2.b),.lit (.int .i64 res.2.i),.lit (.int .i64 res.2.h)])]):=⟨by
 intro res h0
 refine co (hi:=hi15) func15 rfl rfl ?_
 unfold bD at h0
 exact run⟩
instance k27 {v0:GL01Cur} {n:Int}:Ctr (bV v0 n) (fun (res:Int × GL01Cur)=>ai prog 27 [.ptr 10000 0 0 0,.lit (.int .i64 n)] [(10000,0,.var [.sl (ab (eK .u8) v0.b),.lit (.int .i64 v0.i),.lit (.int .i64 v0.h)])] (.lit (.int .i64 res.1)) [(10000,0,.var [.sl (ab (eK .u8) res.2.b),.lit (.int .i64 res.2.i),.lit (.int .i64 res.2.h)])]):=⟨by
 intro res h0
 refine co (hi:=hi00) func27 rfl rfl ?_
 unfold bV at h0
 exact run⟩
instance k48 {v0:GL01Cur} {l:List ByteArray}:Ctr (dc v0 l) (fun (res:ByteArray × GL01Cur)=>ai prog 48 [.ptr 10000 0 0 0,.sl (ab eS l)] [(10000,0,.var [.sl (ab (eK .u8) v0.b),.lit (.int .i64 v0.i),.lit (.int .i64 v0.h)])] (.lit (.string res.1)) [(10000,0,.var [.sl (ab (eK .u8) res.2.b),.lit (.int .i64 res.2.i),.lit (.int .i64 res.2.h)])]):=⟨by
 intro res h0
 refine co (hi:=hi00) func48 rfl rfl ?_
 unfold dc at h0
 exact run⟩
instance k28 {v0:GL01Cur}:Ctr (fT v0) (fun (res:ByteArray × GL01Cur)=>ai prog 28 [.ptr 10000 0 0 0] [(10000,0,.var [.sl (ab (eK .u8) v0.b),.lit (.int .i64 v0.i),.lit (.int .i64 v0.h)])] (.lit (.string res.1)) [(10000,0,.var [.sl (ab (eK .u8) res.2.b),.lit (.int .i64 res.2.i),.lit (.int .i64 res.2.h)])]):=⟨by
 intro res h0
 refine co (hi:=hi00) func28 rfl rfl ?_
 unfold fT at h0
 exact run⟩
@[go_sem] def qV  : (Int × (List ByteArray) × (List Int) × Int × Int)→St
 | (n,l,v0_0,v0_1,v0_2)=>⟨[(0,.ptr 10000 0 0 0),(5,.ref 448 1 0 l.length),(6,.lit (.int .i64 n))],[(10000,0,.var [.sl (ab (eK .u8) v0_0),.lit (.int .i64 v0_1),.lit (.int .i64 v0_2)]),(448,1,.row true (ab eS l))],2⟩
instance k18 {v0:GL01Cur} {most:Int}:Ctr (iX v0 most) (fun (res:(List ByteArray) × GL01Cur)=>ai prog 18 [.ptr 10000 0 0 0,.lit (.int .i64 most)] [(10000,0,.var [.sl (ab (eK .u8) v0.b),.lit (.int .i64 v0.i),.lit (.int .i64 v0.h)])] (.ref 20000 1 0 res.1.length) [(10000,0,.var [.sl (ab (eK .u8) res.2.b),.lit (.int .i64 res.2.i),.lit (.int .i64 res.2.h)]),(20000,1,.row true (ab eS res.1))]):=⟨by
 intro res h0
 refine ao (ra:=[.home 4]) (md:=mdT) hT (hi:=hi00) func18 rfl rfl (by decide +kernel) (by simp) ?_
 unfold iX at h0
 obtain⟨r01,g0,h0⟩:=ae h0
 simp(config:=cS)only[go_sem, *]
 have g0:=ctr g0
 refine af g0 ?_
 obtain⟨q03,l0,h0⟩:=ae h0
 simp(config:=cS)only[go_sem, *]
 refine aj (m1:=.mk) (m2:=.mk) [.nf [0,5,6] [10000,448]] (qV) l0 ?_ ?_
 ·simp(config:=cS)only[go_sem, *]
 have k0:=h0
 clear h0 l0
 intro _ s0 _ h0 gb0
 obtain⟨n_1,l_1,v0_0_1,v0_1_1,v0_2_1⟩:=s0
 unfold ed at h0
 try dsimp only at h0
 exact run⟩
instance k10 {code:List Int}:Ctr (eC code) (fun (res:List ByteArray)=>ai prog 10 [.sl (ab (eK .u8) code)] [] (.ref 20000 1 0 res.length) [(20000,1,.row true (ab eS res))]):=⟨by
 intro res h0
 refine ao (ra:=[.home 2]) (md:=mdT) hT (hi:=hi00) func10 rfl rfl (by decide +kernel) (by simp) ?_
 unfold eC at h0
 exact run⟩
instance k11  : Ctr (cq) (fun (res:GConsole)=>ai prog 11 [] [] (.agg [.ref 20000 1 0 res.sheet.cues.length,.ref 20001 1 0 res.sheet.prep.length,.lit (.int .i64 res.sheet.horizon),.ref 20002 1 0 res.desk.show_.nodes.length,.ref 20003 1 0 res.desk.show_.ties.length,.lit (.int .i64 res.desk.show_.horizon),.lit (.int .i64 res.desk.state.now),.ref 20004 1 0 res.desk.state.times.length,.ref 20005 1 0 res.desk.state.values.length,.lit (.bool res.desk.lazy),.ref 20006 1 0 res.desk.log.length,.ref 20007 1 0 res.takes.length]) [(20000,1,.row true (ab GCue.enc res.sheet.cues)),(20001,1,.row true (ab eI res.sheet.prep)),(20002,1,.row true (ab ag.encO res.desk.show_.nodes)),(20003,1,.row true (ab GTie.enc res.desk.show_.ties)),(20004,1,.row true (ab eI res.desk.state.times)),(20005,1,.row true (ab eI res.desk.state.values)),(20006,1,.row true (ab GEntry.encO res.desk.log)),(20007,1,.row true (ab GTake.enc res.takes))]):=⟨by
 intro res h0
 refine ao (ra:=[.homeCell 0 0,.homeCell 0 1,.homeCell 0 3,.homeCell 0 4,.homeCell 0 7,.homeCell 0 8,.homeCell 0 10,.homeCell 0 11]) (md:=mdT) hT (hi:=hi00) func11 rfl rfl (by decide +kernel) (by simp) ?_
 unfold cq at h0
 exact run⟩
instance k29 {v0:List GCue}:Ctr (iv v0) (fun (res:List GCue)=>ai prog 29 [.sl (ab GCue.enc v0)] [] (.ref 20000 1 0 res.length) [(20000,1,.row true (ab GCue.enc res))]):=⟨by
 intro res h0
 refine ao (ra:=[.home 2]) (md:=mdT) hT (hi:=hi00) func29 rfl rfl (by decide +kernel) (by simp) ?_
 unfold iv at h0
 obtain⟨_,h0,_⟩|⟨a0,h0⟩:=pQ h0
 ·exact run
 have:=fun (e:_→List AV)=>oB (e:=e) a0
 exact run⟩
@[go_sem] def hi20_1:DT:=.i2 0 (.i2 1 (.i1 3 (.i1 4 (.i1 6 (.i1 7 (.i0 2 [3,4,6,7] (.i0 5 [6,7] (.i2 8 (.i2 9 .nil)))))))))
def hi20:Hint where
 acts:=fun _=>[]
 draws:=fun
  | 1=>⟨hi20_1,[[],[0],[0,1],[],[3],.range 5,[],[6],.range 8,.range 9],.range 10⟩
  | _=>⟨.nil,[],[]⟩
theorem LP (i:Nat):hi20.acts i=[]:=rfl
attribute[go_sem] LP ntmps20 results20
@[go_sem] theorem Xb:(hi20.draws 1).order=hi20_1:=rfl
instance k20 {t:GSheet}:Ctr (ca t) (fun (res:GSheet)=>ai prog 20 [.agg (GSheet.encS t)] [] (.agg [.ref 20000 1 0 res.cues.length,.ref 20001 1 0 res.prep.length,.lit (.int .i64 res.horizon)]) [(20000,1,.row true (ab GCue.enc res.cues)),(20001,1,.row true (ab eI res.prep))]):=⟨by
 intro res h0
 refine ao (ra:=[.homeCell 128 0,.homeCell 128 1]) (md:=mdT) hT (hi:=hi20) func20 rfl rfl (by decide +kernel) (by simp) ?_
 unfold ca at h0
 exact run⟩
instance k22 {v0:List GTake}:Ctr (bM v0) (fun (res:List GTake)=>ai prog 22 [.sl (ab GTake.enc v0)] [] (.ref 20000 1 0 res.length) [(20000,1,.row true (ab GTake.enc res))]):=⟨by
 intro res h0
 refine ao (ra:=[.home 2]) (md:=mdT) hT (hi:=hi00) func22 rfl rfl (by decide +kernel) (by simp) ?_
 unfold bM at h0
 obtain⟨_,h0,_⟩|⟨a0,h0⟩:=pQ h0
 ·exact run
 have:=fun (e:_→List AV)=>oB (e:=e) a0
 exact run⟩
@[go_sem] def qz (s by_:ByteArray):(Int × Int × (List ByteArray))→St
 | (from_,i,out)=>⟨[(0,.lit (.string s)),(1,.lit (.string by_)),(5,.ref 383 1 0 out.length),(6,.lit (.int .i64 from_)),(7,.lit (.int .i64 i))],[(383,1,.row true (ab eS out))],2⟩
instance k17 {s:ByteArray} {by_:ByteArray}:Ctr (bf s by_) (fun (res:List ByteArray)=>ai prog 17 [.lit (.string s),.lit (.string by_)] [] (.ref 20000 1 0 res.length) [(20000,1,.row true (ab eS res))]):=⟨by
 intro res h0
 refine ao (ra:=[.home 4]) (md:=mdT) hT (hi:=hi00) func17 rfl rfl (by decide +kernel) (by simp) ?_
 unfold bf at h0
 obtain⟨q03,l0,h0⟩:=ae h0
 simp(config:=cS)only[go_sem, *]
 refine aj (m1:=.mk) (m2:=.mk) [.home 5,.nf [0,1,5,6,7] [383]] (qz s by_) l0 ?_ ?_
 ·simp(config:=cS)only[go_sem, *]
 have k0:=h0
 clear h0 l0
 intro _ s0 _ h0 gb0
 obtain⟨from__1,i_1,out_1⟩:=s0
 unfold bH at h0
 try dsimp only at h0
 obtain⟨_,h0⟩|⟨_,h0⟩:=itP h0
 ·obtain⟨c1001,_,_,_,h0⟩:=gsI h0
  obtain⟨r02,g0,h0⟩:=ae h0
  simp(config:=cS)only[go_sem, *]
  refine af (sg g0) ?_
  exact run
 exact run⟩
instance k88 {n:Int} {most:Int}:Ctr (bA n most) (fun (res:Bool)=>ai prog 88 [.lit (.int .i64 n),.lit (.int .i64 most)] [] (.lit (.bool res)) []):=⟨by
 intro res h0
 refine co (hi:=hi00) func88 rfl rfl ?_
 unfold bA at h0
 exact run⟩
instance k84 {v0:GCue} {index:Int}:Ctr (pi v0 index) (fun (res:Bool)=>ai prog 84 [.agg (GCue.enc v0),.lit (.int .i64 index)] [] (.lit (.bool res)) []):=⟨by
 intro res h0
 refine co (hi:=hi00) func84 rfl rfl ?_
 unfold pi at h0
 exact run⟩
@[go_sem] def lZ (v0:List GCue)(f_v1:Nat)(k_v1:List AV)(v7 v8:Int):St:=⟨[(0,.sl (ab GCue.enc v0)),(1,.fn f_v1 k_v1),(7,.lit (.int .i64 v7)),(8,.lit (.int .i64 v8))],[],2⟩
theorem qa {v0:List GCue}{v1:GCue→Option Bool}{f_v1:Nat}{k_v1:List AV}(hp_v1:∀ y0 r,v1 y0=some r→ai prog f_v1 ([.agg (GCue.enc y0)]++k_v1) [] (.lit (.bool r)) [])(hc_v1:KC k_v1)(hm_v1:∀ a,mdT f_v1 a=⟨[],false⟩)(hk_v1:spf f_v1=false){res:Int}(h:fA v0 v1=some res):ai prog 144 [.sl (ab GCue.enc v0),.fn f_v1 k_v1] [] (.lit (.int .i64 res)) []:=by
 refine co (hi:=hi00) func144 rfl rfl ?_
 unfold fA at h
 obtain⟨q03,l1,h⟩:=ae h
 simp(config:=cS)only[go_sem,hc_v1.1,hc_v1.2,hm_v1,hk_v1]
 refine aj (m1:=.mk) (m2:=.mk) [.nf [0,1,7,8] []] (lZ v0 f_v1 k_v1 (v0.length:Int)) l1 ?_ ?_
 ·simp(config:=cS)only[go_sem,hc_v1.1,hc_v1.2,hm_v1,hk_v1]
 intro nb2 v8_1 bb2 b2 gb2
 unfold ia at b2
 try dsimp only at b2
 obtain⟨h3,b2⟩|⟨h3,b2⟩:=aN b2
 ·obtain⟨x01,g4,b2⟩:=ae b2
  obtain⟨h5,h6,h7⟩:=bz g4
  obtain⟨r02,g8,b2⟩:=ae b2
  simp(config:=cS)only[go_sem,hc_v1.1,hc_v1.2,hm_v1,hk_v1,eqT h3,h5,h6,h7]
  refine af (hp_v1 _ _ g8) ?_
  obtain⟨h9,b2⟩|⟨h9,b2⟩:=aN b2
  ·cases b2
   obtain rfl:=(aG gb2).symm
   try dsimp only at h
   cases h
   simp(config:=cS)only[go_sem,hc_v1.1,hc_v1.2,hm_v1,hk_v1,eqT h3,h5,h6,h7,eZt h9]
  cases b2
  simp(config:=cS)only[go_sem,hc_v1.1,hc_v1.2,hm_v1,hk_v1,eqT h3,h5,h6,h7,eZf h9]
  refine cy gb2 ?_
  simp(config:=cS)only[go_sem,hc_v1.1,hc_v1.2,hm_v1,hk_v1,eqT h3,h5,h6,h7,eZf h9]
 cases b2
 obtain rfl:=(aG gb2).symm
 try dsimp only at h
 cases h
 simp(config:=cS)only[go_sem,hc_v1.1,hc_v1.2,hm_v1,hk_v1,eqF h3]
instance k145 {v0:GCue} {name:ByteArray}:Ctr (iy v0 name) (fun (res:Bool)=>ai prog 145 [.agg (GCue.enc v0),.loc [.lit (.string name)]] [] (.lit (.bool res)) []):=⟨by
 intro res h0
 refine co (hi:=hi00) func145 rfl rfl ?_
 unfold iy at h0
 exact run⟩
instance k85 {t:GSheet} {name:ByteArray}:Ctr (fh t name) (fun (res:Int)=>ai prog 85 [.agg (GSheet.encS t),.lit (.string name)] [] (.lit (.int .i64 res)) []):=⟨by
 intro res h0
 refine co (hi:=hi00) func85 rfl rfl ?_
 unfold fh at h0
 obtain⟨r01,g0,h0⟩:=ae h0
 simp(config:=cS)only[go_sem, *]
 refine af (qa (by exact fun _ _ hr=>by have q:=ctr hr;exact q) (by refine⟨fun _=>?_,fun _=>?_⟩ <;> simp only[go_sem]) (fun _=>rfl) rfl g0) ?_
 exact run⟩
instance k87 {n:Int}:Ctr (jx n) (fun (res:Bool)=>ai prog 87 [.lit (.int .i64 n)] [] (.lit (.bool res)) []):=⟨by
 intro res h0
 refine co (hi:=hi00) func87 rfl rfl ?_
 unfold jx at h0
 exact run⟩
@[go_sem] def qW (v6:List GCue)(v7:Int)(t_1:List Int)(t_2 v8:Int):St:=⟨[(1,.ptr 64 1 0 0),(6,.sl (ab GCue.enc v6)),(7,.lit (.int .i64 v7)),(8,.lit (.int .i64 v8))],[(64,1,.var [.sl (ab GCue.enc v6),.sl (ab eI t_1),.lit (.int .i64 t_2)])],2⟩
instance k50 {t:GSheet}:Ctr (ew t) (fun (res:Bool)=>ai prog 50 [.agg (GSheet.encS t)] [] (.lit (.bool res)) []):=⟨by
 intro res h0
 refine co (hi:=hi00) func50 rfl rfl ?_
 unfold ew at h0
 obtain⟨q05,l0,h0⟩:=ae h0
 simp(config:=cS)only[go_sem, *]
 refine aj (m1:=.mk) (m2:=.mk) [.nf [1,6,7,8] [64]] (qW t.cues (t.cues.length:Int) t.prep t.horizon) l0 ?_ ?_
 ·simp(config:=cS)only[go_sem, *]
 have k0:=h0
 clear h0 l0
 intro _ v8_1 _ h0 gb0
 unfold nQ at h0
 try dsimp only at h0
 obtain⟨_,h0⟩|⟨_,h0⟩:=itP h0
 ·exact run
 cases h0
 obtain rfl:=(aG gb0).symm
 clear gb0
 have h0:=k0
 clear k0
 try dsimp only at h0
 obtain⟨_,h0⟩|⟨_,h0⟩:=itP h0
 ·exact run
 obtain⟨_,h0⟩|⟨_,h0⟩:=itP h0
 ·obtain⟨_,h0⟩|⟨_,h0⟩:=itP h0
  ·exact run
  obtain⟨_,h0⟩|⟨_,h0⟩:=itP h0
  ·exact run
  obtain⟨r04,g0,h0⟩:=ae h0
  simp(config:=cS)only[go_sem, *]
  refine af (bj (by exact fun _ _ hr=>by have q:=ctr hr;exact q) (by refine⟨fun _=>?_,fun _=>?_⟩ <;> simp only[go_sem]) (fun _=>rfl) rfl g0) ?_
  exact run
 exact run⟩
@[go_sem] def nc (v14:List ByteArray)(v15:Int)(v0_0:List GCue)(v0_1:List Int)(v0_2:Int)(v0_3:List ag)(v0_4:List GTie)(v0_5 v0_6:Int)(v0_7 v0_8:List Int)(v0_9:Bool)(v0_10:List GEntry)(v0_11:List GTake):(Int × (List Int))→St
 | (v16,numbers)=>⟨[(0,.ptr 10000 0 0 0),(5,.ref 383 1 0 numbers.length),(14,.sl (ab eS v14)),(15,.lit (.int .i64 v15)),(16,.lit (.int .i64 v16))],[(10000,0,.var [.sl (ab GCue.enc v0_0),.sl (ab eI v0_1),.lit (.int .i64 v0_2),.sl (ab ag.encS v0_3),.sl (ab GTie.enc v0_4),.lit (.int .i64 v0_5),.lit (.int .i64 v0_6),.sl (ab eI v0_7),.sl (ab eI v0_8),.lit (.bool v0_9),.sl (ab GEntry.encS v0_10),.sl (ab GTake.enc v0_11)]),(383,1,.row true (ab eI numbers))],2⟩
@[go_sem] def hi34_12:DT:=.i2 0 (.i1 1 (.i1 2 (.i2 3 (.i1 4 (.i2 5 (.i0 6 [1,2,4] (.i2 7 .nil)))))))
def hi34:Hint where
 acts:=fun _=>[]
 draws:=fun
  | 12=>⟨hi34_12,[[],[0],[0,1],[],[3],.range 5,[],.range 7],.range 8⟩
  | _=>⟨.nil,[],[]⟩
theorem LQ (i:Nat):hi34.acts i=[]:=rfl
attribute[go_sem] LQ ntmps34 results34
@[go_sem] theorem VG:(hi34.draws 12).order=hi34_12:=rfl
instance k34 {v0:GConsole} {bl:List ByteArray}:Ctr (gm v0 bl) (fun (res:ByteArray × GConsole)=>ai prog 34 [.ptr 10000 0 0 0,.sl (ab eS bl)] [(10000,0,.var [.sl (ab GCue.enc v0.sheet.cues),.sl (ab eI v0.sheet.prep),.lit (.int .i64 v0.sheet.horizon),.sl (ab ag.encS v0.desk.show_.nodes),.sl (ab GTie.enc v0.desk.show_.ties),.lit (.int .i64 v0.desk.show_.horizon),.lit (.int .i64 v0.desk.state.now),.sl (ab eI v0.desk.state.times),.sl (ab eI v0.desk.state.values),.lit (.bool v0.desk.lazy),.sl (ab GEntry.encS v0.desk.log),.sl (ab GTake.enc v0.takes)])] (.lit (.string res.1)) [(10000,0,.var [.sl (ab GCue.enc res.2.sheet.cues),.sl (ab eI res.2.sheet.prep),.lit (.int .i64 res.2.sheet.horizon),.sl (ab ag.encS res.2.desk.show_.nodes),.sl (ab GTie.enc res.2.desk.show_.ties),.lit (.int .i64 res.2.desk.show_.horizon),.lit (.int .i64 res.2.desk.state.now),.sl (ab eI res.2.desk.state.times),.sl (ab eI res.2.desk.state.values),.lit (.bool res.2.desk.lazy),.sl (ab GEntry.encS res.2.desk.log),.sl (ab GTake.enc res.2.takes)])]):=⟨by
 intro res h0
 refine ao (ra:=[.homeCell 10000 0,.freeze [100640000],.sliC 10000 0,.homeCell 10000 1,.freeze [383,100640001],.sliC 10000 1,.homeCell 10000 3,.freeze [100640003],.sliC 10000 3,.homeCell 10000 4,.freeze [100640004],.sliC 10000 4,.homeCell 10000 7,.freeze [100640007],.sliC 10000 7,.homeCell 10000 8,.freeze [100640008],.sliC 10000 8,.homeCell 10000 10,.freeze [100640010],.sliC 10000 10,.homeCell 10000 11,.freeze [100640011],.sliC 10000 11]) (md:=mdT) hT (hi:=hi34) func34 rfl rfl (by decide +kernel) (by simp) ?_
 unfold gm at h0
 obtain⟨_,h0⟩|⟨_,h0⟩:=itP h0
 ·obtain⟨q05,l0,h0⟩:=ae h0
  simp(config:=cS)only[go_sem, *]
  refine aj (m1:=.mk) (m2:=.mk) [.home 5,.nf [0,5,14,15,16] [10000,383]] (nc bl (bl.length:Int) v0.sheet.cues v0.sheet.prep v0.sheet.horizon v0.desk.show_.nodes v0.desk.show_.ties v0.desk.show_.horizon v0.desk.state.now v0.desk.state.times v0.desk.state.values v0.desk.lazy v0.desk.log v0.takes) l0 ?_ ?_
  ·simp(config:=cS)only[go_sem, *]
  have k0:=h0
  clear h0 l0
  intro _ s0 _ h0 gb0
  obtain⟨v16_1,numbers_1⟩:=s0
  unfold ji at h0
  try dsimp only at h0
  obtain⟨_,h0⟩|⟨_,h0⟩:=itP h0
  ·obtain⟨x01,_,_,_,h0⟩:=gtI h0
   obtain⟨r02,g0,h0⟩:=ae h0
   simp(config:=cS)only[go_sem, *]
   refine af (cw g0) ?_
   exact run
  cases h0
  obtain rfl:=(aG gb0).symm
  clear gb0
  have h0:=k0
  clear k0
  try dsimp only at h0
  obtain⟨x03,g1,h0⟩:=ae h0
  have:=aR (k:=0) g1
  exact run
 exact run⟩
instance k89 {bl:List ByteArray}:Ctr (aQ bl) (fun (res:ByteArray × (List ByteArray))=>ai prog 89 [.ptr 10000 0 0 0] [(10000,0,.var [.sl (ab eS bl)])] (.lit (.string res.1)) [(10000,0,.var [.sl (ab eS res.2)])]):=⟨by
 intro res h0
 refine co (hi:=hi00) func89 rfl rfl ?_
 unfold aQ at h0
 obtain⟨_,h0⟩|⟨_,h0⟩:=itP h0
 ·exact run
 obtain⟨x01,g1,h0⟩:=ae h0
 have:=aR (k:=0) g1
 exact run⟩
instance k90 {cap0:List ByteArray}:Ctr (aC cap0) (fun (res:Int × (List ByteArray))=>ai prog 90 [.ptr 10000 0 0 0] [(10000,0,.var [.fn 89 [.ptr 10001 0 0 0]]),(10001,0,.var [.sl (ab eS cap0)])] (.lit (.int .i64 res.1)) [(10000,0,.var [.fn 89 [.ptr 10001 0 0 0]]),(10001,0,.var [.sl (ab eS res.2)])]):=⟨by
 intro res h0
 refine co (hi:=hi00) func90 rfl rfl ?_
 unfold aC at h0
 obtain⟨r01,g0,h0⟩:=ae h0
 simp(config:=cS)only[go_sem, *]
 have g0:=ctr g0
 refine af g0 ?_
 obtain⟨r02,g0,h0⟩:=ae h0
 simp(config:=cS)only[go_sem, *]
 refine af (cw g0) ?_
 exact run⟩
@[go_sem] def oX (v13:List Int)(v14:Int):(Int × (List ByteArray))→St
 | (v15,parts)=>⟨[(3,.ref 255 1 0 parts.length),(13,.sl (ab eI v13)),(14,.lit (.int .i64 v14)),(15,.lit (.int .i64 v15))],[(255,1,.row true (ab eS parts))],2⟩
instance k147 {l:List Int}:Ctr (aT l) (fun (res:ByteArray)=>ai prog 147 [.sl (ab eI l)] [] (.lit (.string res)) []):=⟨by
 intro res h0
 refine co (hi:=hi00) func147 rfl rfl ?_
 unfold aT at h0
 obtain⟨r01,g0,h0⟩:=ae h0
 simp(config:=cS)only[go_sem, *]
 have g0:=ctr g0
 refine af g0 ?_
 obtain⟨_,h0⟩|⟨_,h0⟩:=itB h0
 ·obtain⟨_,h0⟩|⟨_,h0⟩:=itP h0
  ·exact run
  obtain⟨q06,l0,h0⟩:=ae h0
  simp(config:=cS)only[go_sem, *]
  refine aj (m1:=.mk) (m2:=.mk) [.home 3,.nf [3,13,14,15] [255]] (oX l (l.length:Int)) l0 ?_ ?_
  ·simp(config:=cS)only[go_sem, *]
  have k0:=h0
  clear h0 l0
  intro _ s0 _ h0 gb0
  obtain⟨v15_1,parts_1⟩:=s0
  unfold kG at h0
  try dsimp only at h0
  obtain⟨_,h0⟩|⟨_,h0⟩:=itP h0
  ·obtain⟨x02,_,_,_,h0⟩:=gtI h0
   obtain⟨r03,g0,h0⟩:=ae h0
   simp(config:=cS)only[go_sem, *]
   have g0:=ctr g0
   refine af g0 ?_
   obtain⟨r04,g0,h0⟩:=ae h0
   simp(config:=cS)only[go_sem, *]
   have g0:=ctr g0
   refine af g0 ?_
   obtain⟨_,h0⟩:=ckP h0
   obtain⟨_,h0⟩|⟨_,h0⟩:=itP h0
   ·obtain⟨a1,h0⟩:=ckP h0
    try simp(config:=cS)only[go_sem]at a1
    exact run
   exact run
  exact run
 exact run⟩
@[go_sem] def pz (s:ByteArray)(v14:Int)(v13:List ByteArray):(Int × (List Int))→St
 | (v15,out)=>⟨[(0,.lit (.string s)),(4,.ref 319 1 0 out.length),(13,.ref 832 1 0 v13.length),(14,.lit (.int .i64 v14)),(15,.lit (.int .i64 v15))],[(319,1,.row true (ab eI out)),(832,1,.row true (ab eS v13))],2⟩
instance k91 {s:ByteArray}:Ctr (cV s) (fun (res:(List Int) × Bool)=>ai prog 91 [.lit (.string s)] [] (.tup [.ref 20000 1 0 res.1.length,.lit (.bool res.2)]) [(20000,1,.row true (ab eI res.1))]):=⟨by
 intro res h0
 refine ao (ra:=[.home 2]) (md:=mdT) hT (hi:=hi00) func91 rfl rfl (by decide +kernel) (by simp) ?_
 unfold cV at h0
 obtain⟨_,h0⟩|⟨_,h0⟩:=itP h0
 ·exact run
 obtain⟨r01,g0,h0⟩:=ae h0
 simp(config:=cS)only[go_sem, *]
 have g0:=ctr g0
 refine af g0 ?_
 obtain⟨q10,l0,h0⟩:=ae h0
 simp(config:=cS)only[go_sem, *]
 refine aj (m1:=.mk) (m2:=.mk) [.home 4,.nf [0,4,13,14,15] [319,832]] (pz s (r01.length:Int) r01) l0 ?_ ?_
 ·simp(config:=cS)only[go_sem, *]
 have k0:=h0
 clear h0 l0
 intro _ s0 _ h0 gb0
 obtain⟨v15_1,out_1⟩:=s0
 unfold lj at h0
 try dsimp only at h0
 obtain⟨_,h0⟩|⟨_,h0⟩:=itP h0
 ·obtain⟨x02,_,_,_,h0⟩:=gtI h0
  obtain⟨_,h0⟩|⟨_,h0⟩:=itP h0
  ·obtain⟨c1003,g1,h0⟩:=ae h0
   have:=kg (k:=0) g1
   obtain⟨_,h0⟩|⟨_,h0⟩:=itP h0
   ·obtain⟨_,h0⟩:=ckP h0
    obtain⟨_,h0⟩|⟨_,h0⟩:=itP h0
    ·exact run
    obtain⟨c1004,g2,h0⟩:=ae h0
    have:=kg (k:=0) g2
    obtain⟨_,h0⟩|⟨_,h0⟩:=itP h0
    ·obtain⟨_,h0⟩:=ckP h0
     obtain⟨r05,g0,h0⟩:=ae h0
     simp(config:=cS)only[go_sem, *]
     refine af (cw g0) ?_
     exact run
    exact run
   obtain⟨_,h0⟩|⟨_,h0⟩:=itP h0
   ·exact run
   obtain⟨_,h0⟩|⟨_,h0⟩:=itP h0
   ·obtain⟨_,h0⟩:=ckP h0
    obtain⟨r06,g0,h0⟩:=ae h0
    simp(config:=cS)only[go_sem, *]
    refine af (cw g0) ?_
    exact run
   exact run
  obtain⟨_,h0⟩|⟨_,h0⟩:=itP h0
  ·exact run
  obtain⟨c1007,g3,h0⟩:=ae h0
  have:=kg (k:=0) g3
  obtain⟨_,h0⟩|⟨_,h0⟩:=itP h0
  ·obtain⟨_,h0⟩:=ckP h0
   obtain⟨r08,g0,h0⟩:=ae h0
   simp(config:=cS)only[go_sem, *]
   refine af (cw g0) ?_
   exact run
  exact run
 exact run⟩
@[go_sem] def qb (v8_0:ByteArray)(v8_1 v8_3 v8_4:Int):((List ByteArray) × Int × Int × Bool × Int × Int × Int)→St
 | (words_0,v8_5,v8_6,v8_7,v8_8,v8_9,v8_10)=>⟨[(4,.ptr 256 1 0 0),(5,.ptr 320 1 0 0),(6,.ptr 384 1 0 0),(7,.fn 90 [.ptr 384 1 0 0]),(8,.ptr 512 1 0 0)],[(256,1,.var [.lit (.string (ByteArray.mk #[])),.lit (.int .i64 0),.lit (.bool false),.lit (.int .i64 0),.lit (.int .i64 0),.lit (.int .i64 0),.lit (.int .i64 0),.lit (.bool false),.lit (.int .i64 0),.lit (.int .i64 0),.lit (.int .i64 0)]),(320,1,.var [.sl (ab eS words_0)]),(384,1,.var [.fn 89 [.ptr 320 1 0 0]]),(512,1,.var [.lit (.string v8_0),.lit (.int .i64 v8_1),.lit (.bool false),.lit (.int .i64 v8_3),.lit (.int .i64 v8_4),.lit (.int .i64 v8_5),.lit (.int .i64 v8_6),.lit (.bool v8_7),.lit (.int .i64 v8_8),.lit (.int .i64 v8_9),.lit (.int .i64 v8_10)])],2⟩
@[go_sem] def qc (v8_0:ByteArray)(v8_1 v8_3 v8_4:Int):((List ByteArray) × Int × Int × Bool × Int × Int × Int)→St
 | (words_0,v8_5,v8_6,v8_7,v8_8,v8_9,v8_10)=>⟨[(4,.ptr 256 1 0 0),(5,.ptr 320 1 0 0),(6,.ptr 384 1 0 0),(7,.fn 90 [.ptr 384 1 0 0]),(8,.ptr 512 1 0 0)],[(256,1,.var [.lit (.string (ByteArray.mk #[])),.lit (.int .i64 0),.lit (.bool false),.lit (.int .i64 0),.lit (.int .i64 0),.lit (.int .i64 0),.lit (.int .i64 0),.lit (.bool false),.lit (.int .i64 0),.lit (.int .i64 0),.lit (.int .i64 0)]),(320,1,.var [.sl (ab eS words_0)]),(384,1,.var [.fn 89 [.ptr 320 1 0 0]]),(512,1,.var [.lit (.string v8_0),.lit (.int .i64 v8_1),.lit (.bool true),.lit (.int .i64 v8_3),.lit (.int .i64 v8_4),.lit (.int .i64 v8_5),.lit (.int .i64 v8_6),.lit (.bool v8_7),.lit (.int .i64 v8_8),.lit (.int .i64 v8_9),.lit (.int .i64 v8_10)])],2⟩
@[go_sem] def qd (v8_0:ByteArray)(v8_3 v8_4:Int):((List ByteArray) × Int × Int × Bool × Int × Int × Int)→St
 | (words_0,v8_5,v8_6,v8_7,v8_8,v8_9,v8_10)=>⟨[(4,.ptr 256 1 0 0),(5,.ptr 320 1 0 0),(6,.ptr 384 1 0 0),(7,.fn 90 [.ptr 384 1 0 0]),(8,.ptr 512 1 0 0)],[(256,1,.var [.lit (.string (ByteArray.mk #[])),.lit (.int .i64 0),.lit (.bool false),.lit (.int .i64 0),.lit (.int .i64 0),.lit (.int .i64 0),.lit (.int .i64 0),.lit (.bool false),.lit (.int .i64 0),.lit (.int .i64 0),.lit (.int .i64 0)]),(320,1,.var [.sl (ab eS words_0)]),(384,1,.var [.fn 89 [.ptr 320 1 0 0]]),(512,1,.var [.lit (.string v8_0),.lit (.int .i64 (-1)),.lit (.bool false),.lit (.int .i64 v8_3),.lit (.int .i64 v8_4),.lit (.int .i64 v8_5),.lit (.int .i64 v8_6),.lit (.bool v8_7),.lit (.int .i64 v8_8),.lit (.int .i64 v8_9),.lit (.int .i64 v8_10)])],2⟩
@[go_sem] def hi51_10:DT:=.i1 0 (.i2 1 (.i0 2 [0] (.r2 3 5 .nil)))
@[go_sem] def hi51_8:DT:=.i1 0 (.i2 1 (.i0 2 [0] (.r2 3 3 .nil)))
def hi51:Hint where
 acts:=fun i=>match i with|4=>[.freeze [768],.sliC 320 0]|_=>[]
 draws:=fun
  | 8=>⟨hi51_8,[[],[],[1],[0,1,2],[0,1,2,3],.range 5],.range 6⟩
  | 10=>⟨hi51_10,[[],[],[1],[0,1,2],[0,1,2,3],.range 5,.range 6,.range 7],.range 8⟩
  | _=>⟨.nil,[],[]⟩
@[go_sem] theorem Xc:hi51.acts 0=[]:=rfl
@[go_sem] theorem Xd:hi51.acts 1=[]:=rfl
@[go_sem] theorem Xe:hi51.acts 2=[]:=rfl
@[go_sem] theorem Xf:hi51.acts 3=[]:=rfl
@[go_sem] theorem Xg:hi51.acts 4=[.freeze [768],.sliC 320 0]:=rfl
@[go_sem] theorem Xh:hi51.acts 5=[]:=rfl
@[go_sem] theorem Xi:hi51.acts 6=[]:=rfl
@[go_sem] theorem Xj:hi51.acts 7=[]:=rfl
@[go_sem] theorem Xk:hi51.acts 8=[]:=rfl
@[go_sem] theorem Xl:hi51.acts 9=[]:=rfl
@[go_sem] theorem VH:hi51.acts 10=[]:=rfl
@[go_sem] theorem VI:hi51.acts 11=[]:=rfl
@[go_sem] theorem VJ:hi51.acts 12=[]:=rfl
@[go_sem] theorem VK:hi51.acts 13=[]:=rfl
@[go_sem] theorem VL:hi51.acts 14=[]:=rfl
@[go_sem] theorem VM:hi51.acts 15=[]:=rfl
@[go_sem] theorem VN:hi51.acts 16=[]:=rfl
@[go_sem] theorem VO:hi51.acts 17=[]:=rfl
@[go_sem] theorem VP:hi51.acts 18=[]:=rfl
@[go_sem] theorem VQ:hi51.acts 19=[]:=rfl
@[go_sem] theorem VR:hi51.acts 20=[]:=rfl
@[go_sem] theorem VS:hi51.acts 21=[]:=rfl
@[go_sem] theorem VT:hi51.acts 22=[]:=rfl
@[go_sem] theorem VU:hi51.acts 23=[]:=rfl
@[go_sem] theorem VV:hi51.acts 24=[]:=rfl
@[go_sem] theorem VW:hi51.acts 25=[]:=rfl
@[go_sem] theorem VX:hi51.acts 26=[]:=rfl
@[go_sem] theorem Xm:(hi51.draws 8).order=hi51_8:=rfl
@[go_sem] theorem VY:(hi51.draws 10).order=hi51_10:=rfl
instance k51 {t:GSheet} {line:ByteArray}:Ctr (ki t line) (fun (res:GCue)=>ai prog 51 [.agg (GSheet.encS t),.lit (.string line)] [] (.agg (GCue.enc res)) []):=⟨by
 intro res h0
 refine co (hi:=hi51) func51 rfl rfl ?_
 unfold ki at h0
 obtain⟨r01,g0,h0⟩:=ae h0
 simp(config:=cS)only[go_sem, *]
 have g0:=ctr g0
 refine af g0 ?_
 obtain⟨r02,g0,h0⟩:=ae h0
 simp(config:=cS)only[go_sem, *]
 have g0:=ctr g0
 refine af g0 ?_
 obtain⟨r03,g0,h0⟩:=ae h0
 simp(config:=cS)only[go_sem, *]
 have g0:=ctr g0
 refine af g0 ?_
 obtain⟨r04,g0,h0⟩:=ae h0
 simp(config:=cS)only[go_sem, *]
 have g0:=ctr g0
 refine af g0 ?_
 obtain⟨_,h0⟩|⟨_,h0⟩:=itP h0
 ·obtain⟨r05,g0,h0⟩:=ae h0
  simp(config:=cS)only[go_sem, *]
  have g0:=ctr g0
  refine af g0 ?_
  obtain⟨r06,g0,h0⟩:=ae h0
  simp(config:=cS)only[go_sem, *]
  have g0:=ctr g0
  refine af g0 ?_
  obtain⟨r07,g0,h0⟩:=ae h0
  simp(config:=cS)only[go_sem, *]
  have g0:=ctr g0
  refine af g0 ?_
  obtain⟨r08,g0,h0⟩:=ae h0
  simp(config:=cS)only[go_sem, *]
  have g0:=ctr g0
  refine af g0 ?_
  obtain⟨q19,l0,h0⟩:=ae h0
  simp(config:=cS)only[go_sem, *]
  refine aj (m1:=.mk) (m2:=.mk) [.nf [4,5,6,7,8] [256,320,384,512]] (qb r03.1 r06 r07.1 r08.1) l0 ?_ ?_
  ·simp(config:=cS)only[go_sem, *]
  have k0:=h0
  clear h0 l0
  intro _ s0 _ h0 gb0
  obtain⟨words_0_1,v8_5_1,v8_6_1,v8_7_1,v8_8_1,v8_9_1,v8_10_1⟩:=s0
  unfold lH at h0
  try dsimp only at h0
  obtain⟨_,h0⟩|⟨_,h0⟩:=itP h0
  ·obtain⟨r09,g0,h0⟩:=ae h0
   simp(config:=cS)only[go_sem, *]
   have g0:=ctr g0
   refine af g0 ?_
   obtain⟨_,h0⟩|⟨_,h0⟩:=itP h0
   ·exact run
   obtain⟨_,h0⟩|⟨_,h0⟩:=itP h0
   ·exact run
   obtain⟨_,h0⟩|⟨_,h0⟩:=itP h0
   ·obtain⟨r14,g0,h0⟩:=ae h0
    simp(config:=cS)only[go_sem, *]
    have g0:=ctr g0
    refine af g0 ?_
    obtain⟨r15,g0,h0⟩:=ae h0
    simp(config:=cS)only[go_sem, *]
    have g0:=ctr g0
    refine af g0 ?_
    obtain⟨_,h0⟩|⟨_,h0⟩:=itP h0
    ·obtain⟨x16,g1,h0⟩:=ae h0
     have:=aR (k:=0) g1
     exact run
    exact run
   exact run
  exact run
 obtain⟨_,h0⟩|⟨_,h0⟩:=itP h0
 ·obtain⟨r20,g0,h0⟩:=ae h0
  simp(config:=cS)only[go_sem, *]
  have g0:=ctr g0
  refine af g0 ?_
  obtain⟨r21,g0,h0⟩:=ae h0
  simp(config:=cS)only[go_sem, *]
  have g0:=ctr g0
  refine af g0 ?_
  obtain⟨r22,g0,h0⟩:=ae h0
  simp(config:=cS)only[go_sem, *]
  have g0:=ctr g0
  refine af g0 ?_
  obtain⟨r23,g0,h0⟩:=ae h0
  simp(config:=cS)only[go_sem, *]
  have g0:=ctr g0
  refine af g0 ?_
  obtain⟨q34,l0,h0⟩:=ae h0
  simp(config:=cS)only[go_sem, *]
  refine aj (m1:=.mk) (m2:=.mk) [.nf [4,5,6,7,8] [256,320,384,512]] (qc r03.1 r21 r22.1 r23.1) l0 ?_ ?_
  ·simp(config:=cS)only[go_sem, *]
  have k0:=h0
  clear h0 l0
  intro _ s0 _ h0 gb0
  obtain⟨words_0_2,v8_5_2,v8_6_2,v8_7_2,v8_8_2,v8_9_2,v8_10_2⟩:=s0
  unfold lI at h0
  try dsimp only at h0
  obtain⟨_,h0⟩|⟨_,h0⟩:=itP h0
  ·obtain⟨r24,g0,h0⟩:=ae h0
   simp(config:=cS)only[go_sem, *]
   have g0:=ctr g0
   refine af g0 ?_
   obtain⟨_,h0⟩|⟨_,h0⟩:=itP h0
   ·exact run
   obtain⟨_,h0⟩|⟨_,h0⟩:=itP h0
   ·exact run
   obtain⟨_,h0⟩|⟨_,h0⟩:=itP h0
   ·obtain⟨r29,g0,h0⟩:=ae h0
    simp(config:=cS)only[go_sem, *]
    have g0:=ctr g0
    refine af g0 ?_
    obtain⟨r30,g0,h0⟩:=ae h0
    simp(config:=cS)only[go_sem, *]
    have g0:=ctr g0
    refine af g0 ?_
    obtain⟨_,h0⟩|⟨_,h0⟩:=itP h0
    ·obtain⟨x31,g2,h0⟩:=ae h0
     have:=aR (k:=0) g2
     exact run
    exact run
   exact run
  exact run
 obtain⟨r35,g0,h0⟩:=ae h0
 simp(config:=cS)only[go_sem, *]
 have g0:=ctr g0
 refine af g0 ?_
 obtain⟨r36,g0,h0⟩:=ae h0
 simp(config:=cS)only[go_sem, *]
 have g0:=ctr g0
 refine af g0 ?_
 obtain⟨q47,l0,h0⟩:=ae h0
 simp(config:=cS)only[go_sem, *]
 refine aj (m1:=.mk) (m2:=.mk) [.nf [4,5,6,7,8] [256,320,384,512]] (qd r03.1 r35.1 r36.1) l0 ?_ ?_
 ·simp(config:=cS)only[go_sem, *]
 have k0:=h0
 clear h0 l0
 intro _ s0 _ h0 gb0
 obtain⟨words_0_3,v8_5_3,v8_6_3,v8_7_3,v8_8_3,v8_9_3,v8_10_3⟩:=s0
 unfold lJ at h0
 try dsimp only at h0
 obtain⟨_,h0⟩|⟨_,h0⟩:=itP h0
 ·obtain⟨r37,g0,h0⟩:=ae h0
  simp(config:=cS)only[go_sem, *]
  have g0:=ctr g0
  refine af g0 ?_
  obtain⟨_,h0⟩|⟨_,h0⟩:=itP h0
  ·exact run
  obtain⟨_,h0⟩|⟨_,h0⟩:=itP h0
  ·exact run
  obtain⟨_,h0⟩|⟨_,h0⟩:=itP h0
  ·obtain⟨r42,g0,h0⟩:=ae h0
   simp(config:=cS)only[go_sem, *]
   have g0:=ctr g0
   refine af g0 ?_
   obtain⟨r43,g0,h0⟩:=ae h0
   simp(config:=cS)only[go_sem, *]
   have g0:=ctr g0
   refine af g0 ?_
   obtain⟨_,h0⟩|⟨_,h0⟩:=itP h0
   ·obtain⟨x44,g3,h0⟩:=ae h0
    have:=aR (k:=0) g3
    exact run
   exact run
  exact run
 exact run⟩
@[go_sem] def hi93_13:DT:=.r2 0 4 (.i1 5 (.i1 6 (.i0 4 [5,6] (.r2 7 4 .nil))))
@[go_sem] def hi93_8:DT:=.r2 0 3 (.i1 4 (.i1 5 (.i0 3 [4,5] (.r2 6 4 .nil))))
def hi93:Hint where
 acts:=fun _=>[]
 draws:=fun
  | 8=>⟨hi93_8,[[],[],[1],[1,2],[],[4],[1,2,3,4,5],[1,2,3,4,5,6],.range 8,.range 9],.range 10⟩
  | 13=>⟨hi93_13,[[],[],[],[2],[2,3],[],[5],[2,3,4,5,6],[1,2,3,4,5,6,7],.range 9,.range 10],.range 11⟩
  | _=>⟨.nil,[],[]⟩
theorem LR (i:Nat):hi93.acts i=[]:=rfl
attribute[go_sem] LR ntmps93 results93
@[go_sem] theorem Xn:(hi93.draws 8).order=hi93_8:=rfl
@[go_sem] theorem VZ:(hi93.draws 13).order=hi93_13:=rfl
instance k93 {t:GSheet} {i:Int}:Ctr (mf t i) (fun (res:ByteArray)=>ai prog 93 [.agg (GSheet.encS t),.lit (.int .i64 i)] [] (.lit (.string res)) []):=⟨by
 intro res h0
 refine co (hi:=hi93) func93 rfl rfl ?_
 unfold mf at h0
 obtain⟨x01,_,_,_,h0⟩:=gtI h0
 obtain⟨_,h0⟩|⟨_,h0⟩:=itP h0
 ·obtain⟨r02,g0,h0⟩:=ae h0
  simp(config:=cS)only[go_sem, *]
  have g0:=ctr g0
  refine af g0 ?_
  obtain⟨r03,g0,h0⟩:=ae h0
  simp(config:=cS)only[go_sem, *]
  have g0:=ctr g0
  refine af g0 ?_
  obtain⟨a1,h0⟩:=ckP h0
  try simp(config:=cS)only[go_sem]at a1
  obtain⟨a2,h0⟩:=ckP h0
  try simp(config:=cS)only[go_sem]at a2
  obtain⟨_,h0⟩|⟨_,h0⟩:=itP h0
  ·obtain⟨_,h0⟩|⟨_,h0⟩:=itP h0
   ·obtain⟨_,h0⟩|⟨_,h0⟩:=itP h0
    ·obtain⟨_,h0⟩|⟨_,h0⟩:=itP h0
     ·exact run
     obtain⟨r05,g0,h0⟩:=ae h0
     simp(config:=cS)only[go_sem, *]
     have g0:=ctr g0
     refine af g0 ?_
     obtain⟨a3,h0⟩:=ckP h0
     try simp(config:=cS)only[go_sem]at a3
     obtain⟨a4,h0⟩:=ckP h0
     try simp(config:=cS)only[go_sem]at a4
     exact run
    obtain⟨r07,g0,h0⟩:=ae h0
    simp(config:=cS)only[go_sem, *]
    have g0:=ctr g0
    refine af g0 ?_
    obtain⟨a5,h0⟩:=ckP h0
    try simp(config:=cS)only[go_sem]at a5
    obtain⟨a6,h0⟩:=ckP h0
    try simp(config:=cS)only[go_sem]at a6
    obtain⟨_,h0⟩|⟨_,h0⟩:=itP h0
    ·exact run
    obtain⟨r09,g0,h0⟩:=ae h0
    simp(config:=cS)only[go_sem, *]
    have g0:=ctr g0
    refine af g0 ?_
    obtain⟨a7,h0⟩:=ckP h0
    try simp(config:=cS)only[go_sem]at a7
    obtain⟨a8,h0⟩:=ckP h0
    try simp(config:=cS)only[go_sem]at a8
    exact run
   obtain⟨r11,g0,h0⟩:=ae h0
   simp(config:=cS)only[go_sem, *]
   have g0:=ctr g0
   refine af g0 ?_
   obtain⟨a9,h0⟩:=ckP h0
   try simp(config:=cS)only[go_sem]at a9
   obtain⟨a10,h0⟩:=ckP h0
   try simp(config:=cS)only[go_sem]at a10
   obtain⟨_,h0⟩|⟨_,h0⟩:=itP h0
   ·obtain⟨_,h0⟩|⟨_,h0⟩:=itP h0
    ·exact run
    obtain⟨r13,g0,h0⟩:=ae h0
    simp(config:=cS)only[go_sem, *]
    have g0:=ctr g0
    refine af g0 ?_
    obtain⟨a11,h0⟩:=ckP h0
    try simp(config:=cS)only[go_sem]at a11
    obtain⟨a12,h0⟩:=ckP h0
    try simp(config:=cS)only[go_sem]at a12
    exact run
   obtain⟨r15,g0,h0⟩:=ae h0
   simp(config:=cS)only[go_sem, *]
   have g0:=ctr g0
   refine af g0 ?_
   obtain⟨a13,h0⟩:=ckP h0
   try simp(config:=cS)only[go_sem]at a13
   obtain⟨a14,h0⟩:=ckP h0
   try simp(config:=cS)only[go_sem]at a14
   obtain⟨_,h0⟩|⟨_,h0⟩:=itP h0
   ·exact run
   obtain⟨r17,g0,h0⟩:=ae h0
   simp(config:=cS)only[go_sem, *]
   have g0:=ctr g0
   refine af g0 ?_
   obtain⟨a15,h0⟩:=ckP h0
   try simp(config:=cS)only[go_sem]at a15
   obtain⟨a16,h0⟩:=ckP h0
   try simp(config:=cS)only[go_sem]at a16
   exact run
  obtain⟨_,h0⟩|⟨_,h0⟩:=itB h0
  ·obtain⟨r19,g0,h0⟩:=ae h0
   simp(config:=cS)only[go_sem, *]
   have g0:=ctr g0
   refine af g0 ?_
   obtain⟨r20,g0,h0⟩:=ae h0
   simp(config:=cS)only[go_sem, *]
   have g0:=ctr g0
   refine af g0 ?_
   obtain⟨a17,h0⟩:=ckP h0
   try simp(config:=cS)only[go_sem]at a17
   obtain⟨a18,h0⟩:=ckP h0
   try simp(config:=cS)only[go_sem]at a18
   obtain⟨_,h0⟩|⟨_,h0⟩:=itP h0
   ·obtain⟨_,h0⟩|⟨_,h0⟩:=itP h0
    ·obtain⟨_,h0⟩|⟨_,h0⟩:=itP h0
     ·exact run
     obtain⟨r22,g0,h0⟩:=ae h0
     simp(config:=cS)only[go_sem, *]
     have g0:=ctr g0
     refine af g0 ?_
     obtain⟨a19,h0⟩:=ckP h0
     try simp(config:=cS)only[go_sem]at a19
     obtain⟨a20,h0⟩:=ckP h0
     try simp(config:=cS)only[go_sem]at a20
     exact run
    obtain⟨r24,g0,h0⟩:=ae h0
    simp(config:=cS)only[go_sem, *]
    have g0:=ctr g0
    refine af g0 ?_
    obtain⟨a21,h0⟩:=ckP h0
    try simp(config:=cS)only[go_sem]at a21
    obtain⟨a22,h0⟩:=ckP h0
    try simp(config:=cS)only[go_sem]at a22
    obtain⟨_,h0⟩|⟨_,h0⟩:=itP h0
    ·exact run
    obtain⟨r26,g0,h0⟩:=ae h0
    simp(config:=cS)only[go_sem, *]
    have g0:=ctr g0
    refine af g0 ?_
    obtain⟨a23,h0⟩:=ckP h0
    try simp(config:=cS)only[go_sem]at a23
    obtain⟨a24,h0⟩:=ckP h0
    try simp(config:=cS)only[go_sem]at a24
    exact run
   obtain⟨r28,g0,h0⟩:=ae h0
   simp(config:=cS)only[go_sem, *]
   have g0:=ctr g0
   refine af g0 ?_
   obtain⟨a25,h0⟩:=ckP h0
   try simp(config:=cS)only[go_sem]at a25
   obtain⟨a26,h0⟩:=ckP h0
   try simp(config:=cS)only[go_sem]at a26
   obtain⟨_,h0⟩|⟨_,h0⟩:=itP h0
   ·obtain⟨_,h0⟩|⟨_,h0⟩:=itP h0
    ·exact run
    obtain⟨r30,g0,h0⟩:=ae h0
    simp(config:=cS)only[go_sem, *]
    have g0:=ctr g0
    refine af g0 ?_
    obtain⟨a27,h0⟩:=ckP h0
    try simp(config:=cS)only[go_sem]at a27
    obtain⟨a28,h0⟩:=ckP h0
    try simp(config:=cS)only[go_sem]at a28
    exact run
   obtain⟨r32,g0,h0⟩:=ae h0
   simp(config:=cS)only[go_sem, *]
   have g0:=ctr g0
   refine af g0 ?_
   obtain⟨a29,h0⟩:=ckP h0
   try simp(config:=cS)only[go_sem]at a29
   obtain⟨a30,h0⟩:=ckP h0
   try simp(config:=cS)only[go_sem]at a30
   obtain⟨_,h0⟩|⟨_,h0⟩:=itP h0
   ·exact run
   obtain⟨r34,g0,h0⟩:=ae h0
   simp(config:=cS)only[go_sem, *]
   have g0:=ctr g0
   refine af g0 ?_
   obtain⟨a31,h0⟩:=ckP h0
   try simp(config:=cS)only[go_sem]at a31
   obtain⟨a32,h0⟩:=ckP h0
   try simp(config:=cS)only[go_sem]at a32
   exact run
  obtain⟨r36,g0,h0⟩:=ae h0
  simp(config:=cS)only[go_sem, *]
  have g0:=ctr g0
  refine af g0 ?_
  obtain⟨r37,g0,h0⟩:=ae h0
  simp(config:=cS)only[go_sem, *]
  have g0:=ctr g0
  refine af g0 ?_
  obtain⟨a33,h0⟩:=ckP h0
  try simp(config:=cS)only[go_sem]at a33
  obtain⟨a34,h0⟩:=ckP h0
  try simp(config:=cS)only[go_sem]at a34
  obtain⟨_,h0⟩|⟨_,h0⟩:=itP h0
  ·obtain⟨_,h0⟩|⟨_,h0⟩:=itP h0
   ·obtain⟨_,h0⟩|⟨_,h0⟩:=itP h0
    ·exact run
    obtain⟨r39,g0,h0⟩:=ae h0
    simp(config:=cS)only[go_sem, *]
    have g0:=ctr g0
    refine af g0 ?_
    obtain⟨a35,h0⟩:=ckP h0
    try simp(config:=cS)only[go_sem]at a35
    obtain⟨a36,h0⟩:=ckP h0
    try simp(config:=cS)only[go_sem]at a36
    exact run
   obtain⟨r41,g0,h0⟩:=ae h0
   simp(config:=cS)only[go_sem, *]
   have g0:=ctr g0
   refine af g0 ?_
   obtain⟨a37,h0⟩:=ckP h0
   try simp(config:=cS)only[go_sem]at a37
   obtain⟨a38,h0⟩:=ckP h0
   try simp(config:=cS)only[go_sem]at a38
   obtain⟨_,h0⟩|⟨_,h0⟩:=itP h0
   ·exact run
   obtain⟨r43,g0,h0⟩:=ae h0
   simp(config:=cS)only[go_sem, *]
   have g0:=ctr g0
   refine af g0 ?_
   obtain⟨a39,h0⟩:=ckP h0
   try simp(config:=cS)only[go_sem]at a39
   obtain⟨a40,h0⟩:=ckP h0
   try simp(config:=cS)only[go_sem]at a40
   exact run
  obtain⟨r45,g0,h0⟩:=ae h0
  simp(config:=cS)only[go_sem, *]
  have g0:=ctr g0
  refine af g0 ?_
  obtain⟨a41,h0⟩:=ckP h0
  try simp(config:=cS)only[go_sem]at a41
  obtain⟨a42,h0⟩:=ckP h0
  try simp(config:=cS)only[go_sem]at a42
  obtain⟨_,h0⟩|⟨_,h0⟩:=itP h0
  ·obtain⟨_,h0⟩|⟨_,h0⟩:=itP h0
   ·exact run
   obtain⟨r47,g0,h0⟩:=ae h0
   simp(config:=cS)only[go_sem, *]
   have g0:=ctr g0
   refine af g0 ?_
   obtain⟨a43,h0⟩:=ckP h0
   try simp(config:=cS)only[go_sem]at a43
   obtain⟨a44,h0⟩:=ckP h0
   try simp(config:=cS)only[go_sem]at a44
   exact run
  obtain⟨r49,g0,h0⟩:=ae h0
  simp(config:=cS)only[go_sem, *]
  have g0:=ctr g0
  refine af g0 ?_
  obtain⟨a45,h0⟩:=ckP h0
  try simp(config:=cS)only[go_sem]at a45
  obtain⟨a46,h0⟩:=ckP h0
  try simp(config:=cS)only[go_sem]at a46
  obtain⟨_,h0⟩|⟨_,h0⟩:=itP h0
  ·exact run
  obtain⟨r51,g0,h0⟩:=ae h0
  simp(config:=cS)only[go_sem, *]
  have g0:=ctr g0
  refine af g0 ?_
  obtain⟨a47,h0⟩:=ckP h0
  try simp(config:=cS)only[go_sem]at a47
  obtain⟨a48,h0⟩:=ckP h0
  try simp(config:=cS)only[go_sem]at a48
  exact run
 obtain⟨_,h0⟩|⟨_,h0⟩:=itB h0
 ·obtain⟨x53,_,_,_,h0⟩:=gtI h0
  obtain⟨r54,g0,h0⟩:=ae h0
  simp(config:=cS)only[go_sem, *]
  have g0:=ctr g0
  refine af g0 ?_
  obtain⟨r55,g0,h0⟩:=ae h0
  simp(config:=cS)only[go_sem, *]
  have g0:=ctr g0
  refine af g0 ?_
  obtain⟨a49,h0⟩:=ckP h0
  try simp(config:=cS)only[go_sem]at a49
  obtain⟨a50,h0⟩:=ckP h0
  try simp(config:=cS)only[go_sem]at a50
  obtain⟨_,h0⟩|⟨_,h0⟩:=itP h0
  ·obtain⟨_,h0⟩|⟨_,h0⟩:=itP h0
   ·obtain⟨_,h0⟩|⟨_,h0⟩:=itP h0
    ·obtain⟨_,h0⟩|⟨_,h0⟩:=itP h0
     ·exact run
     obtain⟨r57,g0,h0⟩:=ae h0
     simp(config:=cS)only[go_sem, *]
     have g0:=ctr g0
     refine af g0 ?_
     obtain⟨a51,h0⟩:=ckP h0
     try simp(config:=cS)only[go_sem]at a51
     obtain⟨a52,h0⟩:=ckP h0
     try simp(config:=cS)only[go_sem]at a52
     exact run
    obtain⟨r59,g0,h0⟩:=ae h0
    simp(config:=cS)only[go_sem, *]
    have g0:=ctr g0
    refine af g0 ?_
    obtain⟨a53,h0⟩:=ckP h0
    try simp(config:=cS)only[go_sem]at a53
    obtain⟨a54,h0⟩:=ckP h0
    try simp(config:=cS)only[go_sem]at a54
    obtain⟨_,h0⟩|⟨_,h0⟩:=itP h0
    ·exact run
    obtain⟨r61,g0,h0⟩:=ae h0
    simp(config:=cS)only[go_sem, *]
    have g0:=ctr g0
    refine af g0 ?_
    obtain⟨a55,h0⟩:=ckP h0
    try simp(config:=cS)only[go_sem]at a55
    obtain⟨a56,h0⟩:=ckP h0
    try simp(config:=cS)only[go_sem]at a56
    exact run
   obtain⟨r63,g0,h0⟩:=ae h0
   simp(config:=cS)only[go_sem, *]
   have g0:=ctr g0
   refine af g0 ?_
   obtain⟨a57,h0⟩:=ckP h0
   try simp(config:=cS)only[go_sem]at a57
   obtain⟨a58,h0⟩:=ckP h0
   try simp(config:=cS)only[go_sem]at a58
   obtain⟨_,h0⟩|⟨_,h0⟩:=itP h0
   ·obtain⟨_,h0⟩|⟨_,h0⟩:=itP h0
    ·exact run
    obtain⟨r65,g0,h0⟩:=ae h0
    simp(config:=cS)only[go_sem, *]
    have g0:=ctr g0
    refine af g0 ?_
    obtain⟨a59,h0⟩:=ckP h0
    try simp(config:=cS)only[go_sem]at a59
    obtain⟨a60,h0⟩:=ckP h0
    try simp(config:=cS)only[go_sem]at a60
    exact run
   obtain⟨r67,g0,h0⟩:=ae h0
   simp(config:=cS)only[go_sem, *]
   have g0:=ctr g0
   refine af g0 ?_
   obtain⟨a61,h0⟩:=ckP h0
   try simp(config:=cS)only[go_sem]at a61
   obtain⟨a62,h0⟩:=ckP h0
   try simp(config:=cS)only[go_sem]at a62
   obtain⟨_,h0⟩|⟨_,h0⟩:=itP h0
   ·exact run
   obtain⟨r69,g0,h0⟩:=ae h0
   simp(config:=cS)only[go_sem, *]
   have g0:=ctr g0
   refine af g0 ?_
   obtain⟨a63,h0⟩:=ckP h0
   try simp(config:=cS)only[go_sem]at a63
   obtain⟨a64,h0⟩:=ckP h0
   try simp(config:=cS)only[go_sem]at a64
   exact run
  obtain⟨_,h0⟩|⟨_,h0⟩:=itB h0
  ·obtain⟨r71,g0,h0⟩:=ae h0
   simp(config:=cS)only[go_sem, *]
   have g0:=ctr g0
   refine af g0 ?_
   obtain⟨r72,g0,h0⟩:=ae h0
   simp(config:=cS)only[go_sem, *]
   have g0:=ctr g0
   refine af g0 ?_
   obtain⟨a65,h0⟩:=ckP h0
   try simp(config:=cS)only[go_sem]at a65
   obtain⟨a66,h0⟩:=ckP h0
   try simp(config:=cS)only[go_sem]at a66
   obtain⟨_,h0⟩|⟨_,h0⟩:=itP h0
   ·obtain⟨_,h0⟩|⟨_,h0⟩:=itP h0
    ·obtain⟨_,h0⟩|⟨_,h0⟩:=itP h0
     ·exact run
     obtain⟨r74,g0,h0⟩:=ae h0
     simp(config:=cS)only[go_sem, *]
     have g0:=ctr g0
     refine af g0 ?_
     obtain⟨a67,h0⟩:=ckP h0
     try simp(config:=cS)only[go_sem]at a67
     obtain⟨a68,h0⟩:=ckP h0
     try simp(config:=cS)only[go_sem]at a68
     exact run
    obtain⟨r76,g0,h0⟩:=ae h0
    simp(config:=cS)only[go_sem, *]
    have g0:=ctr g0
    refine af g0 ?_
    obtain⟨a69,h0⟩:=ckP h0
    try simp(config:=cS)only[go_sem]at a69
    obtain⟨a70,h0⟩:=ckP h0
    try simp(config:=cS)only[go_sem]at a70
    obtain⟨_,h0⟩|⟨_,h0⟩:=itP h0
    ·exact run
    obtain⟨r78,g0,h0⟩:=ae h0
    simp(config:=cS)only[go_sem, *]
    have g0:=ctr g0
    refine af g0 ?_
    obtain⟨a71,h0⟩:=ckP h0
    try simp(config:=cS)only[go_sem]at a71
    obtain⟨a72,h0⟩:=ckP h0
    try simp(config:=cS)only[go_sem]at a72
    exact run
   obtain⟨r80,g0,h0⟩:=ae h0
   simp(config:=cS)only[go_sem, *]
   have g0:=ctr g0
   refine af g0 ?_
   obtain⟨a73,h0⟩:=ckP h0
   try simp(config:=cS)only[go_sem]at a73
   obtain⟨a74,h0⟩:=ckP h0
   try simp(config:=cS)only[go_sem]at a74
   obtain⟨_,h0⟩|⟨_,h0⟩:=itP h0
   ·obtain⟨_,h0⟩|⟨_,h0⟩:=itP h0
    ·exact run
    obtain⟨r82,g0,h0⟩:=ae h0
    simp(config:=cS)only[go_sem, *]
    have g0:=ctr g0
    refine af g0 ?_
    obtain⟨a75,h0⟩:=ckP h0
    try simp(config:=cS)only[go_sem]at a75
    obtain⟨a76,h0⟩:=ckP h0
    try simp(config:=cS)only[go_sem]at a76
    exact run
   obtain⟨r84,g0,h0⟩:=ae h0
   simp(config:=cS)only[go_sem, *]
   have g0:=ctr g0
   refine af g0 ?_
   obtain⟨a77,h0⟩:=ckP h0
   try simp(config:=cS)only[go_sem]at a77
   obtain⟨a78,h0⟩:=ckP h0
   try simp(config:=cS)only[go_sem]at a78
   obtain⟨_,h0⟩|⟨_,h0⟩:=itP h0
   ·exact run
   obtain⟨r86,g0,h0⟩:=ae h0
   simp(config:=cS)only[go_sem, *]
   have g0:=ctr g0
   refine af g0 ?_
   obtain⟨a79,h0⟩:=ckP h0
   try simp(config:=cS)only[go_sem]at a79
   obtain⟨a80,h0⟩:=ckP h0
   try simp(config:=cS)only[go_sem]at a80
   exact run
  obtain⟨r88,g0,h0⟩:=ae h0
  simp(config:=cS)only[go_sem, *]
  have g0:=ctr g0
  refine af g0 ?_
  obtain⟨r89,g0,h0⟩:=ae h0
  simp(config:=cS)only[go_sem, *]
  have g0:=ctr g0
  refine af g0 ?_
  obtain⟨a81,h0⟩:=ckP h0
  try simp(config:=cS)only[go_sem]at a81
  obtain⟨a82,h0⟩:=ckP h0
  try simp(config:=cS)only[go_sem]at a82
  obtain⟨_,h0⟩|⟨_,h0⟩:=itP h0
  ·obtain⟨_,h0⟩|⟨_,h0⟩:=itP h0
   ·obtain⟨_,h0⟩|⟨_,h0⟩:=itP h0
    ·exact run
    obtain⟨r91,g0,h0⟩:=ae h0
    simp(config:=cS)only[go_sem, *]
    have g0:=ctr g0
    refine af g0 ?_
    obtain⟨a83,h0⟩:=ckP h0
    try simp(config:=cS)only[go_sem]at a83
    obtain⟨a84,h0⟩:=ckP h0
    try simp(config:=cS)only[go_sem]at a84
    exact run
   obtain⟨r93,g0,h0⟩:=ae h0
   simp(config:=cS)only[go_sem, *]
   have g0:=ctr g0
   refine af g0 ?_
   obtain⟨a85,h0⟩:=ckP h0
   try simp(config:=cS)only[go_sem]at a85
   obtain⟨a86,h0⟩:=ckP h0
   try simp(config:=cS)only[go_sem]at a86
   obtain⟨_,h0⟩|⟨_,h0⟩:=itP h0
   ·exact run
   obtain⟨r95,g0,h0⟩:=ae h0
   simp(config:=cS)only[go_sem, *]
   have g0:=ctr g0
   refine af g0 ?_
   obtain⟨a87,h0⟩:=ckP h0
   try simp(config:=cS)only[go_sem]at a87
   obtain⟨a88,h0⟩:=ckP h0
   try simp(config:=cS)only[go_sem]at a88
   exact run
  obtain⟨r97,g0,h0⟩:=ae h0
  simp(config:=cS)only[go_sem, *]
  have g0:=ctr g0
  refine af g0 ?_
  obtain⟨a89,h0⟩:=ckP h0
  try simp(config:=cS)only[go_sem]at a89
  obtain⟨a90,h0⟩:=ckP h0
  try simp(config:=cS)only[go_sem]at a90
  obtain⟨_,h0⟩|⟨_,h0⟩:=itP h0
  ·obtain⟨_,h0⟩|⟨_,h0⟩:=itP h0
   ·exact run
   obtain⟨r99,g0,h0⟩:=ae h0
   simp(config:=cS)only[go_sem, *]
   have g0:=ctr g0
   refine af g0 ?_
   obtain⟨a91,h0⟩:=ckP h0
   try simp(config:=cS)only[go_sem]at a91
   obtain⟨a92,h0⟩:=ckP h0
   try simp(config:=cS)only[go_sem]at a92
   exact run
  obtain⟨r1101,g0,h0⟩:=ae h0
  simp(config:=cS)only[go_sem, *]
  have g0:=ctr g0
  refine af g0 ?_
  obtain⟨a93,h0⟩:=ckP h0
  try simp(config:=cS)only[go_sem]at a93
  obtain⟨a94,h0⟩:=ckP h0
  try simp(config:=cS)only[go_sem]at a94
  obtain⟨_,h0⟩|⟨_,h0⟩:=itP h0
  ·exact run
  obtain⟨r1103,g0,h0⟩:=ae h0
  simp(config:=cS)only[go_sem, *]
  have g0:=ctr g0
  refine af g0 ?_
  obtain⟨a95,h0⟩:=ckP h0
  try simp(config:=cS)only[go_sem]at a95
  obtain⟨a96,h0⟩:=ckP h0
  try simp(config:=cS)only[go_sem]at a96
  exact run
 obtain⟨x1105,_,_,_,h0⟩:=gtI h0
 obtain⟨r1106,g0,h0⟩:=ae h0
 simp(config:=cS)only[go_sem, *]
 have g0:=ctr g0
 refine af g0 ?_
 obtain⟨r1107,g0,h0⟩:=ae h0
 simp(config:=cS)only[go_sem, *]
 have g0:=ctr g0
 refine af g0 ?_
 obtain⟨a97,h0⟩:=ckP h0
 try simp(config:=cS)only[go_sem]at a97
 obtain⟨a98,h0⟩:=ckP h0
 try simp(config:=cS)only[go_sem]at a98
 obtain⟨_,h0⟩|⟨_,h0⟩:=itP h0
 ·obtain⟨_,h0⟩|⟨_,h0⟩:=itP h0
  ·obtain⟨_,h0⟩|⟨_,h0⟩:=itP h0
   ·obtain⟨_,h0⟩|⟨_,h0⟩:=itP h0
    ·exact run
    obtain⟨r1109,g0,h0⟩:=ae h0
    simp(config:=cS)only[go_sem, *]
    have g0:=ctr g0
    refine af g0 ?_
    obtain⟨a99,h0⟩:=ckP h0
    try simp(config:=cS)only[go_sem]at a99
    obtain⟨a100,h0⟩:=ckP h0
    try simp(config:=cS)only[go_sem]at a100
    exact run
   obtain⟨r1111,g0,h0⟩:=ae h0
   simp(config:=cS)only[go_sem, *]
   have g0:=ctr g0
   refine af g0 ?_
   obtain⟨a101,h0⟩:=ckP h0
   try simp(config:=cS)only[go_sem]at a101
   obtain⟨a102,h0⟩:=ckP h0
   try simp(config:=cS)only[go_sem]at a102
   obtain⟨_,h0⟩|⟨_,h0⟩:=itP h0
   ·exact run
   obtain⟨r1113,g0,h0⟩:=ae h0
   simp(config:=cS)only[go_sem, *]
   have g0:=ctr g0
   refine af g0 ?_
   obtain⟨a103,h0⟩:=ckP h0
   try simp(config:=cS)only[go_sem]at a103
   obtain⟨a104,h0⟩:=ckP h0
   try simp(config:=cS)only[go_sem]at a104
   exact run
  obtain⟨r1115,g0,h0⟩:=ae h0
  simp(config:=cS)only[go_sem, *]
  have g0:=ctr g0
  refine af g0 ?_
  obtain⟨a105,h0⟩:=ckP h0
  try simp(config:=cS)only[go_sem]at a105
  obtain⟨a106,h0⟩:=ckP h0
  try simp(config:=cS)only[go_sem]at a106
  obtain⟨_,h0⟩|⟨_,h0⟩:=itP h0
  ·obtain⟨_,h0⟩|⟨_,h0⟩:=itP h0
   ·exact run
   obtain⟨r1117,g0,h0⟩:=ae h0
   simp(config:=cS)only[go_sem, *]
   have g0:=ctr g0
   refine af g0 ?_
   obtain⟨a107,h0⟩:=ckP h0
   try simp(config:=cS)only[go_sem]at a107
   obtain⟨a108,h0⟩:=ckP h0
   try simp(config:=cS)only[go_sem]at a108
   exact run
  obtain⟨r1119,g0,h0⟩:=ae h0
  simp(config:=cS)only[go_sem, *]
  have g0:=ctr g0
  refine af g0 ?_
  obtain⟨a109,h0⟩:=ckP h0
  try simp(config:=cS)only[go_sem]at a109
  obtain⟨a110,h0⟩:=ckP h0
  try simp(config:=cS)only[go_sem]at a110
  obtain⟨_,h0⟩|⟨_,h0⟩:=itP h0
  ·exact run
  obtain⟨r1121,g0,h0⟩:=ae h0
  simp(config:=cS)only[go_sem, *]
  have g0:=ctr g0
  refine af g0 ?_
  obtain⟨a111,h0⟩:=ckP h0
  try simp(config:=cS)only[go_sem]at a111
  obtain⟨a112,h0⟩:=ckP h0
  try simp(config:=cS)only[go_sem]at a112
  exact run
 obtain⟨_,h0⟩|⟨_,h0⟩:=itB h0
 ·obtain⟨r1123,g0,h0⟩:=ae h0
  simp(config:=cS)only[go_sem, *]
  have g0:=ctr g0
  refine af g0 ?_
  obtain⟨r1124,g0,h0⟩:=ae h0
  simp(config:=cS)only[go_sem, *]
  have g0:=ctr g0
  refine af g0 ?_
  obtain⟨a113,h0⟩:=ckP h0
  try simp(config:=cS)only[go_sem]at a113
  obtain⟨a114,h0⟩:=ckP h0
  try simp(config:=cS)only[go_sem]at a114
  obtain⟨_,h0⟩|⟨_,h0⟩:=itP h0
  ·obtain⟨_,h0⟩|⟨_,h0⟩:=itP h0
   ·obtain⟨_,h0⟩|⟨_,h0⟩:=itP h0
    ·exact run
    obtain⟨r1126,g0,h0⟩:=ae h0
    simp(config:=cS)only[go_sem, *]
    have g0:=ctr g0
    refine af g0 ?_
    obtain⟨a115,h0⟩:=ckP h0
    try simp(config:=cS)only[go_sem]at a115
    obtain⟨a116,h0⟩:=ckP h0
    try simp(config:=cS)only[go_sem]at a116
    exact run
   obtain⟨r1128,g0,h0⟩:=ae h0
   simp(config:=cS)only[go_sem, *]
   have g0:=ctr g0
   refine af g0 ?_
   obtain⟨a117,h0⟩:=ckP h0
   try simp(config:=cS)only[go_sem]at a117
   obtain⟨a118,h0⟩:=ckP h0
   try simp(config:=cS)only[go_sem]at a118
   obtain⟨_,h0⟩|⟨_,h0⟩:=itP h0
   ·exact run
   obtain⟨r1130,g0,h0⟩:=ae h0
   simp(config:=cS)only[go_sem, *]
   have g0:=ctr g0
   refine af g0 ?_
   obtain⟨a119,h0⟩:=ckP h0
   try simp(config:=cS)only[go_sem]at a119
   obtain⟨a120,h0⟩:=ckP h0
   try simp(config:=cS)only[go_sem]at a120
   exact run
  obtain⟨r1132,g0,h0⟩:=ae h0
  simp(config:=cS)only[go_sem, *]
  have g0:=ctr g0
  refine af g0 ?_
  obtain⟨a121,h0⟩:=ckP h0
  try simp(config:=cS)only[go_sem]at a121
  obtain⟨a122,h0⟩:=ckP h0
  try simp(config:=cS)only[go_sem]at a122
  obtain⟨_,h0⟩|⟨_,h0⟩:=itP h0
  ·obtain⟨_,h0⟩|⟨_,h0⟩:=itP h0
   ·exact run
   obtain⟨r1134,g0,h0⟩:=ae h0
   simp(config:=cS)only[go_sem, *]
   have g0:=ctr g0
   refine af g0 ?_
   obtain⟨a123,h0⟩:=ckP h0
   try simp(config:=cS)only[go_sem]at a123
   obtain⟨a124,h0⟩:=ckP h0
   try simp(config:=cS)only[go_sem]at a124
   exact run
  obtain⟨r1136,g0,h0⟩:=ae h0
  simp(config:=cS)only[go_sem, *]
  have g0:=ctr g0
  refine af g0 ?_
  obtain⟨a125,h0⟩:=ckP h0
  try simp(config:=cS)only[go_sem]at a125
  obtain⟨a126,h0⟩:=ckP h0
  try simp(config:=cS)only[go_sem]at a126
  obtain⟨_,h0⟩|⟨_,h0⟩:=itP h0
  ·exact run
  obtain⟨r1138,g0,h0⟩:=ae h0
  simp(config:=cS)only[go_sem, *]
  have g0:=ctr g0
  refine af g0 ?_
  obtain⟨a127,h0⟩:=ckP h0
  try simp(config:=cS)only[go_sem]at a127
  obtain⟨a128,h0⟩:=ckP h0
  try simp(config:=cS)only[go_sem]at a128
  exact run
 obtain⟨r1140,g0,h0⟩:=ae h0
 simp(config:=cS)only[go_sem, *]
 have g0:=ctr g0
 refine af g0 ?_
 obtain⟨r1141,g0,h0⟩:=ae h0
 simp(config:=cS)only[go_sem, *]
 have g0:=ctr g0
 refine af g0 ?_
 obtain⟨a129,h0⟩:=ckP h0
 try simp(config:=cS)only[go_sem]at a129
 obtain⟨a130,h0⟩:=ckP h0
 try simp(config:=cS)only[go_sem]at a130
 obtain⟨_,h0⟩|⟨_,h0⟩:=itP h0
 ·obtain⟨_,h0⟩|⟨_,h0⟩:=itP h0
  ·obtain⟨_,h0⟩|⟨_,h0⟩:=itP h0
   ·exact run
   obtain⟨r1143,g0,h0⟩:=ae h0
   simp(config:=cS)only[go_sem, *]
   have g0:=ctr g0
   refine af g0 ?_
   obtain⟨a131,h0⟩:=ckP h0
   try simp(config:=cS)only[go_sem]at a131
   obtain⟨a132,h0⟩:=ckP h0
   try simp(config:=cS)only[go_sem]at a132
   exact run
  obtain⟨r1145,g0,h0⟩:=ae h0
  simp(config:=cS)only[go_sem, *]
  have g0:=ctr g0
  refine af g0 ?_
  obtain⟨a133,h0⟩:=ckP h0
  try simp(config:=cS)only[go_sem]at a133
  obtain⟨a134,h0⟩:=ckP h0
  try simp(config:=cS)only[go_sem]at a134
  obtain⟨_,h0⟩|⟨_,h0⟩:=itP h0
  ·exact run
  obtain⟨r1147,g0,h0⟩:=ae h0
  simp(config:=cS)only[go_sem, *]
  have g0:=ctr g0
  refine af g0 ?_
  obtain⟨a135,h0⟩:=ckP h0
  try simp(config:=cS)only[go_sem]at a135
  obtain⟨a136,h0⟩:=ckP h0
  try simp(config:=cS)only[go_sem]at a136
  exact run
 obtain⟨r1149,g0,h0⟩:=ae h0
 simp(config:=cS)only[go_sem, *]
 have g0:=ctr g0
 refine af g0 ?_
 obtain⟨a137,h0⟩:=ckP h0
 try simp(config:=cS)only[go_sem]at a137
 obtain⟨a138,h0⟩:=ckP h0
 try simp(config:=cS)only[go_sem]at a138
 obtain⟨_,h0⟩|⟨_,h0⟩:=itP h0
 ·obtain⟨_,h0⟩|⟨_,h0⟩:=itP h0
  ·exact run
  obtain⟨r1151,g0,h0⟩:=ae h0
  simp(config:=cS)only[go_sem, *]
  have g0:=ctr g0
  refine af g0 ?_
  obtain⟨a139,h0⟩:=ckP h0
  try simp(config:=cS)only[go_sem]at a139
  obtain⟨a140,h0⟩:=ckP h0
  try simp(config:=cS)only[go_sem]at a140
  exact run
 obtain⟨r1153,g0,h0⟩:=ae h0
 simp(config:=cS)only[go_sem, *]
 have g0:=ctr g0
 refine af g0 ?_
 obtain⟨a141,h0⟩:=ckP h0
 try simp(config:=cS)only[go_sem]at a141
 obtain⟨a142,h0⟩:=ckP h0
 try simp(config:=cS)only[go_sem]at a142
 obtain⟨_,h0⟩|⟨_,h0⟩:=itP h0
 ·exact run
 obtain⟨r1155,g0,h0⟩:=ae h0
 simp(config:=cS)only[go_sem, *]
 have g0:=ctr g0
 refine af g0 ?_
 obtain⟨a143,h0⟩:=ckP h0
 try simp(config:=cS)only[go_sem]at a143
 obtain⟨a144,h0⟩:=ckP h0
 try simp(config:=cS)only[go_sem]at a144
 exact run⟩
instance k52 {t:GSheet} {i:Int}:Ctr (kj t i) (fun (res:ByteArray)=>ai prog 52 [.agg (GSheet.encS t),.lit (.int .i64 i)] [] (.lit (.string res)) []):=⟨by
 intro res h0
 refine co (hi:=hi00) func52 rfl rfl ?_
 unfold kj at h0
 exact run⟩
@[go_sem] def hi35_4:DT:=.i1 0 (.i1 1 (.i2 2 (.i2 3 (.i0 4 [0,1] (.i0 5 [0,1] (.r2 6 3 .nil))))))
def hi35:Hint where
 acts:=fun _=>[]
 draws:=fun
  | 4=>⟨hi35_4,[[],[0],[],[],[2,3],[2,3,4],.range 6,.range 7,.range 8],.range 9⟩
  | _=>⟨.nil,[],[]⟩
theorem LS (i:Nat):hi35.acts i=[]:=rfl
attribute[go_sem] LS ntmps35 results35
@[go_sem] theorem Xo:(hi35.draws 4).order=hi35_4:=rfl
instance k35 {t:GSheet} {line:ByteArray}:Ctr (mg t line) (fun (res:GSheet × Bool)=>ai prog 35 [.agg (GSheet.encS t),.lit (.string line)] [] (.tup [.agg [.ref 20000 1 0 res.1.cues.length,.ref 20001 1 0 res.1.prep.length,.lit (.int .i64 res.1.horizon)],.lit (.bool res.2)]) [(20000,1,.row true (ab GCue.enc res.1.cues)),(20001,1,.row true (ab eI res.1.prep))]):=⟨by
 intro res h0
 refine ao (ra:=[.homeCell 256 0,.homeCell 256 1]) (md:=mdT) hT (hi:=hi35) func35 rfl rfl (by decide +kernel) (by simp) ?_
 unfold mg at h0
 exact run⟩
instance k109 {n:ag} {name:ByteArray}:Ctr (gP n name) (fun (res:Bool)=>ai prog 109 [.agg (ag.encS n),.loc [.lit (.string name)]] [] (.lit (.bool res)) []):=⟨by
 intro res h0
 refine co (hi:=hi00) func109 rfl rfl ?_
 unfold gP at h0
 exact run⟩
instance k60 {s:GShow} {name:ByteArray}:Ctr (eD s name) (fun (res:Int)=>ai prog 60 [.agg (GShow.encS s),.lit (.string name)] [] (.lit (.int .i64 res)) []):=⟨by
 intro res h0
 refine co (hi:=hi00) func60 rfl rfl ?_
 unfold eD at h0
 obtain⟨r01,g0,h0⟩:=ae h0
 simp(config:=cS)only[go_sem, *]
 refine af (jg (by exact fun _ _ hr=>by have q:=ctr hr;exact q) (by refine⟨fun _=>?_,fun _=>?_⟩ <;> simp only[go_sem]) (fun _=>rfl) rfl g0) ?_
 exact run⟩
@[go_sem] def nd (v14:Int)(v13:List ByteArray)(v0_0:List GCue)(v0_1:List Int)(v0_2:Int)(v0_3:List ag)(v0_4:List GTie)(v0_5 v0_6:Int)(v0_7 v0_8:List Int)(v0_9:Bool)(v0_10:List GEntry)(v0_11:List GTake):(Int × (List Int))→St
 | (v15,out)=>⟨[(0,.ptr 10000 0 0 0),(6,.ref 447 1 0 out.length),(13,.ref 832 1 0 v13.length),(14,.lit (.int .i64 v14)),(15,.lit (.int .i64 v15))],[(10000,0,.var [.sl (ab GCue.enc v0_0),.sl (ab eI v0_1),.lit (.int .i64 v0_2),.sl (ab ag.encS v0_3),.sl (ab GTie.enc v0_4),.lit (.int .i64 v0_5),.lit (.int .i64 v0_6),.sl (ab eI v0_7),.sl (ab eI v0_8),.lit (.bool v0_9),.sl (ab GEntry.encS v0_10),.sl (ab GTake.enc v0_11)]),(447,1,.row true (ab eI out)),(832,1,.row true (ab eS v13))],2⟩
instance k57 {v0:GConsole} {word:ByteArray}:Ctr (cQ v0 word) (fun (res:(List Int) × Bool × GConsole)=>ai prog 57 [.ptr 10000 0 0 0,.lit (.string word)] [(10000,0,.var [.sl (ab GCue.enc v0.sheet.cues),.sl (ab eI v0.sheet.prep),.lit (.int .i64 v0.sheet.horizon),.sl (ab ag.encS v0.desk.show_.nodes),.sl (ab GTie.enc v0.desk.show_.ties),.lit (.int .i64 v0.desk.show_.horizon),.lit (.int .i64 v0.desk.state.now),.sl (ab eI v0.desk.state.times),.sl (ab eI v0.desk.state.values),.lit (.bool v0.desk.lazy),.sl (ab GEntry.encS v0.desk.log),.sl (ab GTake.enc v0.takes)])] (.tup [.ref 20000 1 0 res.1.length,.lit (.bool res.2.1)]) [(10000,0,.var [.sl (ab GCue.enc res.2.2.sheet.cues),.sl (ab eI res.2.2.sheet.prep),.lit (.int .i64 res.2.2.sheet.horizon),.sl (ab ag.encS res.2.2.desk.show_.nodes),.sl (ab GTie.enc res.2.2.desk.show_.ties),.lit (.int .i64 res.2.2.desk.show_.horizon),.lit (.int .i64 res.2.2.desk.state.now),.sl (ab eI res.2.2.desk.state.times),.sl (ab eI res.2.2.desk.state.values),.lit (.bool res.2.2.desk.lazy),.sl (ab GEntry.encS res.2.2.desk.log),.sl (ab GTake.enc res.2.2.takes)]),(20000,1,.row true (ab eI res.1))]):=⟨by
 intro res h0
 refine ao (ra:=[.home 4,.homeCell 10000 0,.freeze [100640000],.sliC 10000 0,.homeCell 10000 1,.freeze [100640001],.sliC 10000 1,.homeCell 10000 3,.freeze [100640003],.sliC 10000 3,.homeCell 10000 4,.freeze [100640004],.sliC 10000 4,.homeCell 10000 7,.freeze [100640007],.sliC 10000 7,.homeCell 10000 8,.freeze [100640008],.sliC 10000 8,.homeCell 10000 10,.freeze [100640010],.sliC 10000 10,.homeCell 10000 11,.freeze [100640011],.sliC 10000 11]) (md:=mdT) hT (hi:=hi00) func57 rfl rfl (by decide +kernel) (by simp) ?_
 unfold cQ at h0
 obtain⟨_,h0⟩|⟨_,h0⟩:=itP h0
 ·exact run
 obtain⟨r01,g0,h0⟩:=ae h0
 simp(config:=cS)only[go_sem, *]
 have g0:=ctr g0
 refine af g0 ?_
 obtain⟨q05,l0,h0⟩:=ae h0
 simp(config:=cS)only[go_sem, *]
 refine aj (m1:=.mk) (m2:=.mk) [.home 6,.nf [0,6,13,14,15] [10000,447,832]] (nd (r01.length:Int) r01 v0.sheet.cues v0.sheet.prep v0.sheet.horizon v0.desk.show_.nodes v0.desk.show_.ties v0.desk.show_.horizon v0.desk.state.now v0.desk.state.times v0.desk.state.values v0.desk.lazy v0.desk.log v0.takes) l0 ?_ ?_
 ·simp(config:=cS)only[go_sem, *]
 have k0:=h0
 clear h0 l0
 intro _ s0 _ h0 gb0
 obtain⟨v15_1,out_1⟩:=s0
 unfold jj at h0
 try dsimp only at h0
 obtain⟨_,h0⟩|⟨_,h0⟩:=itP h0
 ·exact run
 cases h0
 obtain rfl:=(aG gb0).symm
 clear gb0
 have h0:=k0
 clear k0
 try dsimp only at h0
 obtain⟨r04,g0,h0⟩:=ae h0
 simp(config:=cS)only[go_sem, *]
 refine af (fK g0) ?_
 exact run⟩
instance k94 {s:GShow} {node:Int}:Ctr (mj s node) (fun (res:Int)=>ai prog 94 [.agg (GShow.encS s),.lit (.int .i64 node)] [] (.lit (.int .i64 res)) []):=⟨by
 intro res h0
 refine co (hi:=hi00) func94 rfl rfl ?_
 unfold mj at h0
 exact run⟩
@[go_sem] def oG (ok:Bool)(v19:Int)(v18:List Int)(v0_0:List GCue)(v0_1:List Int)(v0_2:Int)(v0_3:List ag)(v0_4:List GTie)(v0_5 v0_6:Int)(v0_7 v0_8:List Int)(v0_9:Bool)(v0_10:List GEntry)(v0_11:List GTake):(Int × (List Int))→St
 | (v20,out)=>⟨[(0,.ptr 10000 0 0 0),(7,.lit (.bool ok)),(8,.ref 575 1 0 out.length),(18,.ref 960 1 0 v18.length),(19,.lit (.int .i64 v19)),(20,.lit (.int .i64 v20))],[(10000,0,.var [.sl (ab GCue.enc v0_0),.sl (ab eI v0_1),.lit (.int .i64 v0_2),.sl (ab ag.encS v0_3),.sl (ab GTie.enc v0_4),.lit (.int .i64 v0_5),.lit (.int .i64 v0_6),.sl (ab eI v0_7),.sl (ab eI v0_8),.lit (.bool v0_9),.sl (ab GEntry.encS v0_10),.sl (ab GTake.enc v0_11)]),(575,1,.row true (ab eI out)),(960,1,.row true (ab eI v18))],2⟩
instance k53 {v0:GConsole} {word:ByteArray}:Ctr (gR v0 word) (fun (res:(List Int) × Bool × GConsole)=>ai prog 53 [.ptr 10000 0 0 0,.lit (.string word)] [(10000,0,.var [.sl (ab GCue.enc v0.sheet.cues),.sl (ab eI v0.sheet.prep),.lit (.int .i64 v0.sheet.horizon),.sl (ab ag.encS v0.desk.show_.nodes),.sl (ab GTie.enc v0.desk.show_.ties),.lit (.int .i64 v0.desk.show_.horizon),.lit (.int .i64 v0.desk.state.now),.sl (ab eI v0.desk.state.times),.sl (ab eI v0.desk.state.values),.lit (.bool v0.desk.lazy),.sl (ab GEntry.encS v0.desk.log),.sl (ab GTake.enc v0.takes)])] (.tup [.ref 20000 1 0 res.1.length,.lit (.bool res.2.1)]) [(10000,0,.var [.sl (ab GCue.enc res.2.2.sheet.cues),.sl (ab eI res.2.2.sheet.prep),.lit (.int .i64 res.2.2.sheet.horizon),.sl (ab ag.encS res.2.2.desk.show_.nodes),.sl (ab GTie.enc res.2.2.desk.show_.ties),.lit (.int .i64 res.2.2.desk.show_.horizon),.lit (.int .i64 res.2.2.desk.state.now),.sl (ab eI res.2.2.desk.state.times),.sl (ab eI res.2.2.desk.state.values),.lit (.bool res.2.2.desk.lazy),.sl (ab GEntry.encS res.2.2.desk.log),.sl (ab GTake.enc res.2.2.takes)]),(20000,1,.row true (ab eI res.1))]):=⟨by
 intro res h0
 refine ao (ra:=[.home 4,.homeCell 10000 0,.freeze [100640000],.sliC 10000 0,.homeCell 10000 1,.freeze [100640001],.sliC 10000 1,.homeCell 10000 3,.freeze [100640003],.sliC 10000 3,.homeCell 10000 4,.freeze [100640004],.sliC 10000 4,.homeCell 10000 7,.freeze [100640007],.sliC 10000 7,.homeCell 10000 8,.freeze [100640008],.sliC 10000 8,.homeCell 10000 10,.freeze [100640010],.sliC 10000 10,.homeCell 10000 11,.freeze [100640011],.sliC 10000 11]) (md:=mdT) hT (hi:=hi00) func53 rfl rfl (by decide +kernel) (by simp) ?_
 unfold gR at h0
 obtain⟨r01,g0,h0⟩:=ae h0
 simp(config:=cS)only[go_sem, *]
 have g0:=ctr g0
 refine af g0 ?_
 obtain⟨q05,l0,h0⟩:=ae h0
 simp(config:=cS)only[go_sem, *]
 refine aj (m1:=.mk) (m2:=.mk) [.home 8,.nf [0,7,8,18,19,20] [10000,575,960]] (oG r01.2.1 (r01.1.length:Int) r01.1 r01.2.2.sheet.cues r01.2.2.sheet.prep r01.2.2.sheet.horizon r01.2.2.desk.show_.nodes r01.2.2.desk.show_.ties r01.2.2.desk.show_.horizon r01.2.2.desk.state.now r01.2.2.desk.state.times r01.2.2.desk.state.values r01.2.2.desk.lazy r01.2.2.desk.log r01.2.2.takes) l0 ?_ ?_
 ·simp(config:=cS)only[go_sem, *]
 have k0:=h0
 clear h0 l0
 intro _ s0 _ h0 gb0
 obtain⟨v20_1,out_1⟩:=s0
 unfold jU at h0
 try dsimp only at h0
 obtain⟨_,h0⟩|⟨_,h0⟩:=itP h0
 ·exact run
 cases h0
 obtain rfl:=(aG gb0).symm
 clear gb0
 have h0:=k0
 clear k0
 try dsimp only at h0
 obtain⟨r04,g0,h0⟩:=ae h0
 simp(config:=cS)only[go_sem, *]
 refine af (fK g0) ?_
 exact run⟩
@[go_sem] def rR (ok:Bool)(v17:Int)(v16:List Int):(Int × (List Int))→St
 | (v18,out)=>⟨[(5,.lit (.bool ok)),(6,.ref 960 1 0 out.length),(16,.ref 704 1 0 v16.length),(17,.lit (.int .i64 v17)),(18,.lit (.int .i64 v18))],[(960,1,.row true (ab eI out)),(704,1,.row true (ab eI v16))],2⟩
instance k54 {word:ByteArray}:Ctr (nD word) (fun (res:(List Int) × Bool)=>ai prog 54 [.lit (.string word)] [] (.tup [.ref 20000 1 0 res.1.length,.lit (.bool res.2)]) [(20000,1,.row true (ab eI res.1))]):=⟨by
 intro res h0
 refine ao (ra:=[.home 2]) (md:=mdT) hT (hi:=hi00) func54 rfl rfl (by decide +kernel) (by simp) ?_
 unfold nD at h0
 obtain⟨r01,g0,h0⟩:=ae h0
 simp(config:=cS)only[go_sem, *]
 have g0:=ctr g0
 refine af g0 ?_
 obtain⟨r02,g0,h0⟩:=ae h0
 simp(config:=cS)only[go_sem, *]
 have g0:=ctr g0
 refine af g0 ?_
 obtain⟨q05,l0,h0⟩:=ae h0
 simp(config:=cS)only[go_sem, *]
 refine aj (m1:=.mk) (m2:=.mk) [.nf [5,6,16,17,18] [960,704]] (rR r01.2 (r01.1.length:Int) r01.1) l0 ?_ ?_
 ·simp(config:=cS)only[go_sem, *]
 have k0:=h0
 clear h0 l0
 intro _ s0 _ h0 gb0
 obtain⟨v18_1,out_1⟩:=s0
 unfold pm at h0
 try dsimp only at h0
 exact run⟩
@[go_sem] def qX (v8:List Int)(v9:Int)(s_0:List ag)(s_1:List GTie)(s_2:Int):(Int × (List ByteArray))→St
 | (v10,out)=>⟨[(2,.ptr 128 1 0 0),(5,.ref 383 1 0 out.length),(8,.sl (ab eI v8)),(9,.lit (.int .i64 v9)),(10,.lit (.int .i64 v10))],[(128,1,.var [.sl (ab ag.encS s_0),.sl (ab GTie.enc s_1),.lit (.int .i64 s_2)]),(383,1,.row true (ab eS out))],2⟩
instance k98 {s:GShow} {nodes:List Int}:Ctr (jc s nodes) (fun (res:List ByteArray)=>ai prog 98 [.agg (GShow.encS s),.sl (ab eI nodes)] [] (.ref 20000 1 0 res.length) [(20000,1,.row true (ab eS res))]):=⟨by
 intro res h0
 refine ao (ra:=[.home 4]) (md:=mdT) hT (hi:=hi00) func98 rfl rfl (by decide +kernel) (by simp) ?_
 unfold jc at h0
 obtain⟨q03,l0,h0⟩:=ae h0
 simp(config:=cS)only[go_sem, *]
 refine aj (m1:=.mk) (m2:=.mk) [.home 5,.nf [2,5,8,9,10] [128,383]] (qX nodes (nodes.length:Int) s.nodes s.ties s.horizon) l0 ?_ ?_
 ·simp(config:=cS)only[go_sem, *]
 have k0:=h0
 clear h0 l0
 intro _ s0 _ h0 gb0
 obtain⟨v10_1,out_1⟩:=s0
 unfold oa at h0
 try dsimp only at h0
 exact run⟩
instance k59 {code:Int}:Ctr (eG code) (fun (res:ByteArray)=>ai prog 59 [.lit (.int .i64 code)] [] (.lit (.string res)) []):=⟨by
 intro res h0
 refine co (hi:=hi00) func59 rfl rfl ?_
 unfold eG at h0
 exact run⟩
instance k55 {v0:GConsole} {d:GDesk} {nodes:List Int} {code:Int}:Ctr (dp v0 d nodes code) (fun (res:ByteArray × GConsole)=>ai prog 55 [.ptr 10000 0 0 0,.agg (GDesk.encS d),.sl (ab eI nodes),.lit (.int .i64 code)] [(10000,0,.var [.sl (ab GCue.enc v0.sheet.cues),.sl (ab eI v0.sheet.prep),.lit (.int .i64 v0.sheet.horizon),.sl (ab ag.encS v0.desk.show_.nodes),.sl (ab GTie.enc v0.desk.show_.ties),.lit (.int .i64 v0.desk.show_.horizon),.lit (.int .i64 v0.desk.state.now),.sl (ab eI v0.desk.state.times),.sl (ab eI v0.desk.state.values),.lit (.bool v0.desk.lazy),.sl (ab GEntry.encS v0.desk.log),.sl (ab GTake.enc v0.takes)])] (.lit (.string res.1)) [(10000,0,.var [.sl (ab GCue.enc res.2.sheet.cues),.sl (ab eI res.2.sheet.prep),.lit (.int .i64 res.2.sheet.horizon),.sl (ab ag.encS res.2.desk.show_.nodes),.sl (ab GTie.enc res.2.desk.show_.ties),.lit (.int .i64 res.2.desk.show_.horizon),.lit (.int .i64 res.2.desk.state.now),.sl (ab eI res.2.desk.state.times),.sl (ab eI res.2.desk.state.values),.lit (.bool res.2.desk.lazy),.sl (ab GEntry.encS res.2.desk.log),.sl (ab GTake.enc res.2.takes)])]):=⟨by
 intro res h0
 refine ao (ra:=[.homeCell 10000 0,.freeze [100640000],.sliC 10000 0,.homeCell 10000 1,.freeze [100640001],.sliC 10000 1,.homeCell 10000 3,.freeze [100640003],.sliC 10000 3,.homeCell 10000 4,.freeze [100640004],.sliC 10000 4,.homeCell 10000 7,.freeze [100640007],.sliC 10000 7,.homeCell 10000 8,.freeze [100640008],.sliC 10000 8,.homeCell 10000 10,.freeze [100640010],.sliC 10000 10,.homeCell 10000 11,.freeze [100640011],.sliC 10000 11]) (md:=mdT) hT (hi:=hi00) func55 rfl rfl (by decide +kernel) (by simp) ?_
 unfold dp at h0
 exact run⟩
@[go_sem] def hi104_1:DT:=.i1 0 (.r2 1 5 (.i1 7 (.i0 6 [0,7] (.i0 8 [0] (.r2 9 4 (.i0 13 [0] (.r2 14 3 .nil)))))))
def Ds:Hint where
 acts:=fun _=>[]
 draws:=fun
  | 1=>⟨hi104_1,[[],[],[1],[1,2],[1,2,3],[],[1,2,3,4,5],[],[1,2,3,4,5,6,7],[1,2,3,4,5,6,7,8],[1,2,3,4,5,6,7,8,9],[1,2,3,4,5,6,7,8,9],[1,2,3,4,5,6,7,8,9],[1,2,3,4,5,6,7,8,9,10,11,12],[1,2,3,4,5,6,7,8,9,10,11,12,13],.range 14,.range 16],[0,1,2,3,4,5,6,7,8,9,10,11,12,13,15,14,16]⟩
  | _=>⟨.nil,[],[]⟩
theorem JK (i:Nat):Ds.acts i=[]:=rfl
attribute[go_sem] JK ntmps104 results104
@[go_sem] theorem Wa:(Ds.draws 1).order=hi104_1:=rfl
instance k104 {g_s:GShow} {g_known:List (ByteArray × Bool)} {v1:GState} {nodes:List Int}:Ctr (gq g_s g_known v1 nodes) (fun (res:(List Int) × Bool × (List (ByteArray × Bool)))=>ai prog 104 [.ptr 10000 0 0 0,.agg (GState.encS v1),.loc [.sl (ab eI nodes)]] [(10000,0,.var [.sl (ab ag.encS g_s.nodes),.sl (ab GTie.enc g_s.ties),.lit (.int .i64 g_s.horizon),.mp 10001 0]),(10001,0,.map (eM g_known))] (.tup [.sl (ab eI res.1),.lit (.bool res.2.1)]) [(10000,0,.var [.sl (ab ag.encS g_s.nodes),.sl (ab GTie.enc g_s.ties),.lit (.int .i64 g_s.horizon),.mp 10001 0]),(10001,0,.map (eM res.2.2))]):=⟨by
 intro res h0
 refine ao (ra:=[.home 5]) (md:=mdT) hT (hi:=Ds) func104 rfl rfl (by decide +kernel) (by simp) ?_
 unfold gq at h0
 obtain⟨r01,g0,h0⟩:=ae h0
 simp(config:=cS)only[go_sem, *]
 have g0:=ctr g0
 refine af g0 ?_
 obtain⟨r02,g0,h0⟩:=ae h0
 simp(config:=cS)only[go_sem, *]
 have g0:=ctr g0
 refine af g0 ?_
 obtain⟨_,h0⟩|⟨_,h0⟩:=itB h0
 ·obtain⟨r03,g0,h0⟩:=ae h0
  simp(config:=cS)only[go_sem, *]
  refine af (mM g0) ?_
  exact run
 exact run⟩
@[go_sem] def cC (ties values nodes:List Int)(v90 out_2 out_3:Int)(out_6:Bool)(v15_0:Int)(v15_1 v15_2:List Int)(next_0:Int)(h1600:List ag)(h1601:List GTie)(h1602 h1603:List Int)(h1604:List GEntry)(h5504 h5505 v89:List Int):(Int × (List Int))→St
 | (v91,seen)=>⟨[(1,.sl (ab eI ties)),(2,.sl (ab eI values)),(10,.ptr 640 1 0 0),(13,.ptr 832 1 0 0),(15,.ptr 960 1 0 0),(17,.sl (ab eI nodes)),(19,.ptr 1216 1 0 0),(20,.ref 5506 1 0 v89.length),(21,.ref 1407 1 0 seen.length),(89,.ref 5506 1 0 v89.length),(90,.lit (.int .i64 v90)),(91,.lit (.int .i64 v91))],[(640,1,.var [.lit (.slice none 0 0),.lit (.slice none 0 0),.lit (.int .i64 0),.lit (.int .i64 0),.lit (.slice none 0 0),.lit (.slice none 0 0),.lit (.bool false),.lit (.slice none 0 0)]),(832,1,.var [.ref 1600 1 0 h1600.length,.ref 1601 1 0 h1601.length,.lit (.int .i64 out_2),.lit (.int .i64 out_3),.ref 1602 1 0 h1602.length,.ref 1603 1 0 h1603.length,.lit (.bool out_6),.ref 1604 1 0 h1604.length]),(1600,1,.row true (ab ag.encO h1600)),(1601,1,.row true (ab GTie.enc h1601)),(1602,1,.row true (ab eI h1602)),(1603,1,.row true (ab eI h1603)),(1604,1,.row true (ab GEntry.encO h1604)),(960,1,.var [.lit (.int .i64 v15_0),.sl (ab eI v15_1),.sl (ab eI v15_2)]),(1216,1,.var [.lit (.int .i64 next_0),.ref 5504 1 0 h5504.length,.ref 5505 1 0 h5505.length]),(5504,1,.row true (ab eI h5504)),(5505,1,.row true (ab eI h5505)),(5506,1,.row true (ab eI v89)),(1407,1,.row true (ab eI seen))],2⟩
@[go_sem] def hi99_s104_22:DT:=.i1 0 (.i2 1 (.i0 2 [0] (.r2 3 3 .nil)))
@[go_sem] def hi99_s104_21:DT:=.i1 0 (.i1 1 (.i1 2 (.i1 3 (.i2 4 (.i2 6 (.i2 8 (.i2 9 (.i0 5 [0,1,2,3] (.i0 7 [0,1,2,3] (.i0 10 [0,1,2,3] (.i2 11 (.i0 12 [0,1] (.r2 13 3 .nil)))))))))))))
@[go_sem] def hi99_s104_10:DT:=.i2 0 (.i2 1 (.i1 3 (.i0 2 [3] (.r2 4 6 .nil))))
@[go_sem] def hi99_s104_4:DT:=.i1 0 (.i1 1 (.i1 2 (.i1 3 (.fork (.i0 4 [0,1,2,3] (.i0 5 [0,1,2,3] (.i0 6 [2,3] (.i2 7 .nil)))) (.i0 5 [0,1,2,3] (.i0 4 [0,1,2,3] (.i0 6 [2,3] (.i2 7 .nil))))))))
def kB:Hint where
 acts:=fun _=>[]
 draws:=fun
  | 4=>⟨hi99_s104_4,[[],[0],[],[2],[],[],[0,1,4,5],.range 7],[0,1,5,6,2,3,4,7]⟩
  | 10=>⟨hi99_s104_10,[[],[],[1],[],[0,1,2,3],.range 5,.range 6,.range 6,.range 7,.range 9],[0,1,2,3,4,5,6,8,7,9]⟩
  | 21=>⟨hi99_s104_21,[[],[0],[],[2],[],[4],[],[4,5,6],[],[],[4,5,6,7,8,9],[2,3,4,5,6,7,8,9,10],[2,3,4,5,6,7,8,9,10,11],.range 13,.range 14,.range 15],.range 16⟩
  | 22=>⟨hi99_s104_22,[[],[],[1],[0,1,2],[0,1,2,3],.range 5],.range 6⟩
  | _=>⟨.nil,[],[]⟩
theorem Dt (i:Nat):kB.acts i=[]:=rfl
attribute[go_sem] Dt ntmps99 results99
@[go_sem] theorem LF:(kB.draws 4).order=hi99_s104_4:=rfl
@[go_sem] theorem JL:(kB.draws 10).order=hi99_s104_10:=rfl
@[go_sem] theorem JM:(kB.draws 21).order=hi99_s104_21:=rfl
@[go_sem] theorem JN:(kB.draws 22).order=hi99_s104_22:=rfl
instance k99_s104 {d:GDesk} {ties:List Int} {values:List Int} {refused:Int} {nodes:List Int}:Ctr (bX d ties values refused nodes) (fun (res:GDesk × (List Int) × Int)=>ai prog 99 [.agg (GDesk.encS d),.sl (ab eI ties),.sl (ab eI values),.lit (.int .i64 refused),.fn 104 [.loc [.sl (ab eI nodes)]]] [] (.tup [.agg [.ref 20000 1 0 res.1.show_.nodes.length,.ref 20001 1 0 res.1.show_.ties.length,.lit (.int .i64 res.1.show_.horizon),.lit (.int .i64 res.1.state.now),.ref 20002 1 0 res.1.state.times.length,.ref 20003 1 0 res.1.state.values.length,.lit (.bool res.1.lazy),.ref 20004 1 0 res.1.log.length],.ref 20005 1 0 res.2.1.length,.lit (.int .i64 res.2.2)]) [(20000,1,.row true (ab ag.encO res.1.show_.nodes)),(20001,1,.row true (ab GTie.enc res.1.show_.ties)),(20002,1,.row true (ab eI res.1.state.times)),(20003,1,.row true (ab eI res.1.state.values)),(20004,1,.row true (ab GEntry.encO res.1.log)),(20005,1,.row true (ab eI res.2.1))]):=⟨by
 intro res h0
 refine ao (ra:=[.homeCell 640 0,.homeCell 640 1,.homeCell 640 4,.homeCell 640 5,.homeCell 640 7,.home 11]) (md:=mdT) hT (hi:=kB) func99 rfl rfl (by decide +kernel) (by simp) ?_
 unfold bX at h0
 obtain⟨r01,g0,h0⟩:=ae h0
 simp(config:=cS)only[go_sem, *]
 have g0:=ctr g0
 refine af g0 ?_
 obtain⟨r02,g0,h0⟩:=ae h0
 simp(config:=cS)only[go_sem, *]
 have g0:=ctr g0
 refine af g0 ?_
 obtain⟨_,h0⟩|⟨_,h0⟩:=itB h0
 ·obtain⟨_,h0⟩|⟨_,h0⟩:=itP h0
  ·obtain⟨r03,g0,h0⟩:=ae h0
   simp(config:=cS)only[go_sem, *]
   refine af (bj (by exact fun _ _ hr=>by have q:=ctr hr;exact q) (by refine⟨fun _=>?_,fun _=>?_⟩ <;> simp only[go_sem]) (fun _=>rfl) rfl g0) ?_
   obtain⟨_,h0⟩|⟨_,h0⟩:=itB h0
   ·exact run
   try simp(config:=cS)only[go_sem, *]
   refine bC ?_ ?_
   ·obtain⟨r04,g0,h0⟩:=ae h0
    simp(config:=cS)only[go_sem, *]
    have g0:=ctr g0
    refine af g0 ?_
    obtain⟨_,h0⟩|⟨_,h0⟩:=itB h0
    ·exact run
    obtain⟨r05,g0,h0⟩:=ae h0
    simp(config:=cS)only[go_sem, *]
    have g0:=ctr g0
    refine af g0 ?_
    obtain⟨_,h0⟩|⟨_,h0⟩:=itB h0
    ·exact run
    obtain⟨_,h0⟩|⟨_,h0⟩:=itP h0
    ·exact run
    obtain⟨r06,g0,h0⟩:=ae h0
    simp(config:=cS)only[go_sem, *]
    have g0:=ctr g0
    refine af g0 ?_
    obtain⟨r07,g0,h0⟩:=ae h0
    simp(config:=cS)only[go_sem, *]
    have g0:=ctr g0
    refine af g0 ?_
    obtain⟨_,h0⟩|⟨_,h0⟩:=itB h0
    ·obtain⟨r08,g0,h0⟩:=ae h0
     simp(config:=cS)only[go_sem, *]
     have g0:=ctr g0
     refine af g0 ?_
     obtain⟨r09,g0,h0⟩:=ae h0
     simp(config:=cS)only[go_sem, *]
     have g0:=ctr g0
     refine af g0 ?_
     obtain⟨r10,g0,h0⟩:=ae h0
     simp(config:=cS)only[go_sem, *]
     have g0:=ctr g0
     refine af g0 ?_
     obtain⟨_,h0⟩|⟨_,h0⟩:=itB h0
     ·obtain⟨r11,g0,h0⟩:=ae h0
      simp(config:=cS)only[go_sem, *]
      have g0:=ctr g0
      refine af g0 ?_
      obtain⟨q19,l0,h0⟩:=ae h0
      simp(config:=cS)only[go_sem, *]
      refine aj (m1:=.mk) (m2:=.mk) [.home 21,.nf [1,2,10,13,15,17,19,20,21,89,90,91] [640,832,1600,1601,1602,1603,1604,960,1216,5504,5505,5506,1407]] (cC ties values r10.1 (r11.2.length:Int) r01.show_.horizon r01.state.now r01.lazy d.state.now d.state.times d.state.values r11.1.now r01.show_.nodes r01.show_.ties r01.state.times r01.state.values r01.log r11.1.times r11.1.values r11.2) l0 ?_ ?_
      ·simp(config:=cS)only[go_sem, *]
      have k0:=h0
      clear h0 l0
      intro _ s0 _ h0 gb0
      obtain⟨v91_1,seen_1⟩:=s0
      unfold bK at h0
      try dsimp only at h0
      exact run
     exact run
    exact run
   obtain⟨r20,g0,h0⟩:=ae h0
   simp(config:=cS)only[go_sem, *]
   have g0:=ctr g0
   refine af g0 ?_
   obtain⟨_,h0⟩|⟨_,h0⟩:=itB h0
   ·exact run
   obtain⟨r21,g0,h0⟩:=ae h0
   simp(config:=cS)only[go_sem, *]
   have g0:=ctr g0
   refine af g0 ?_
   obtain⟨_,h0⟩|⟨_,h0⟩:=itB h0
   ·exact run
   obtain⟨_,h0⟩|⟨_,h0⟩:=itP h0
   ·exact run
   obtain⟨r22,g0,h0⟩:=ae h0
   simp(config:=cS)only[go_sem, *]
   have g0:=ctr g0
   refine af g0 ?_
   obtain⟨r23,g0,h0⟩:=ae h0
   simp(config:=cS)only[go_sem, *]
   have g0:=ctr g0
   refine af g0 ?_
   obtain⟨_,h0⟩|⟨_,h0⟩:=itB h0
   ·obtain⟨r24,g0,h0⟩:=ae h0
    simp(config:=cS)only[go_sem, *]
    have g0:=ctr g0
    refine af g0 ?_
    obtain⟨r25,g0,h0⟩:=ae h0
    simp(config:=cS)only[go_sem, *]
    have g0:=ctr g0
    refine af g0 ?_
    obtain⟨r26,g0,h0⟩:=ae h0
    simp(config:=cS)only[go_sem, *]
    have g0:=ctr g0
    refine af g0 ?_
    obtain⟨_,h0⟩|⟨_,h0⟩:=itB h0
    ·obtain⟨r27,g0,h0⟩:=ae h0
     simp(config:=cS)only[go_sem, *]
     have g0:=ctr g0
     refine af g0 ?_
     obtain⟨q35,l0,h0⟩:=ae h0
     simp(config:=cS)only[go_sem, *]
     refine aj (m1:=.mk) (m2:=.mk) [.home 21,.nf [1,2,10,13,15,17,19,20,21,89,90,91] [640,832,1600,1601,1602,1603,1604,960,1216,5504,5505,5506,1407]] (cC ties values r26.1 (r27.2.length:Int) r01.show_.horizon r01.state.now r01.lazy d.state.now d.state.times d.state.values r27.1.now r01.show_.nodes r01.show_.ties r01.state.times r01.state.values r01.log r27.1.times r27.1.values r27.2) l0 ?_ ?_
     ·simp(config:=cS)only[go_sem, *]
     have k0:=h0
     clear h0 l0
     intro _ s0 _ h0 gb0
     obtain⟨v91_2,seen_2⟩:=s0
     unfold bK at h0
     try dsimp only at h0
     exact run
    exact run
   exact run
  exact run
 exact run⟩
instance k58 {d:GDesk} {ties:List Int} {nodes:List Int} {values:List Int}:Ctr (fL d ties nodes values) (fun (res:GDesk × Int)=>ai prog 58 [.agg (GDesk.encS d),.sl (ab eI ties),.sl (ab eI nodes),.sl (ab eI values)] [] (.tup [.agg [.ref 20000 1 0 res.1.show_.nodes.length,.ref 20001 1 0 res.1.show_.ties.length,.lit (.int .i64 res.1.show_.horizon),.lit (.int .i64 res.1.state.now),.ref 20002 1 0 res.1.state.times.length,.ref 20003 1 0 res.1.state.values.length,.lit (.bool res.1.lazy),.ref 20004 1 0 res.1.log.length],.lit (.int .i64 res.2)]) [(20000,1,.row true (ab ag.encO res.1.show_.nodes)),(20001,1,.row true (ab GTie.enc res.1.show_.ties)),(20002,1,.row true (ab eI res.1.state.times)),(20003,1,.row true (ab eI res.1.state.values)),(20004,1,.row true (ab GEntry.encO res.1.log))]):=⟨by
 intro res h0
 refine ao (ra:=[.homeCell 512 0,.homeCell 512 1,.homeCell 512 4,.homeCell 512 5,.homeCell 512 7]) (md:=mdT) hT (hi:=hi00) func58 rfl rfl (by decide +kernel) (by simp) ?_
 unfold fL at h0
 exact run⟩
@[go_sem] def lg (zb0:Bool)(f_v1:Nat)(k_v1:List AV):(Int × Int × (List (List Int)))→St
 | (v5,v6,v0)=>⟨[(0,.ref 10000 0 0 v0.length),(1,.fn f_v1 k_v1),(5,.lit (.int .i64 v5)),(6,.lit (.int .i64 v6))],[(10000,0,.row zb0 (ab (eLS eI) v0))],2⟩
theorem oY {v0:List (List Int)}{v1:(List Int)→Option Bool}{zb0:Bool}{f_v1:Nat}{k_v1:List AV}(hp_v1:∀ y0 r,v1 y0=some r→ai prog f_v1 ([.sl (ab eI y0)]++k_v1) [] (.lit (.bool r)) [])(hc_v1:KC k_v1)(hm_v1:∀ a,mdT f_v1 a=⟨[],false⟩)(hk_v1:spf f_v1=false){res:List (List Int)}(h:eH v0 v1=some res):ai prog 111 [.ref 10000 0 0 v0.length,.fn f_v1 k_v1] [(10000,0,.row zb0 (ab (eLS eI) v0))] (.ref 10000 0 0 res.length) [(10000,0,.row false (ab (eLS eI) res))]:=by
 refine ao (ra:=[.home 4,.trim 4]) (md:=mdT) hT (hi:=hi00) func111 rfl rfl (by decide +kernel) (by simp) ?_
 unfold eH at h
 obtain⟨r01,g1,h⟩:=ae h
 simp(config:=cS)only[go_sem,hc_v1.1,hc_v1.2,hm_v1,hk_v1]
 refine af (jh hp_v1 hc_v1 hm_v1 hk_v1 g1) ?_
 obtain⟨h2,h⟩|⟨h2,h⟩:=aN h
 ·cases h
  simp(config:=cS)only[go_sem,hc_v1.1,hc_v1.2,hm_v1,hk_v1,eqT h2]
 obtain⟨q05,l3,h⟩:=ae h
 simp(config:=cS)only[go_sem,hc_v1.1,hc_v1.2,hm_v1,hk_v1,eqF h2]
 refine aj (m1:=.mk) (m2:=.mk) [.nf [0,1,5,6] [10000]] (lg zb0 f_v1 k_v1) l3 ?_ ?_
 ·simp(config:=cS)only[go_sem,hc_v1.1,hc_v1.2,hm_v1,hk_v1,eqF h2]
 intro nb4 sb4 bb4 b4 gb4
 obtain⟨v5_1,v6_1,v0_1⟩:=sb4
 unfold gi at b4
 try dsimp only at b4
 obtain⟨h5,b4⟩|⟨h5,b4⟩:=aN b4
 ·obtain⟨x02,g6,b4⟩:=ae b4
  obtain⟨h7,h8,h9⟩:=bz g6
  obtain⟨r03,g10,b4⟩:=ae b4
  simp(config:=cS)only[go_sem,hc_v1.1,hc_v1.2,hm_v1,hk_v1,eqF h2,eqT h5,h7,h8,h9]
  refine af (hp_v1 _ _ g10) ?_
  obtain⟨h11,b4⟩|⟨h11,b4⟩:=aN b4
  ·cases b4
   simp(config:=cS)only[go_sem,hc_v1.1,hc_v1.2,hm_v1,hk_v1,eqF h2,eqT h5,h7,h8,h9,eZt h11]
   refine cy gb4 ?_
   simp(config:=cS)only[go_sem,hc_v1.1,hc_v1.2,hm_v1,hk_v1,eqF h2,eqT h5,h7,h8,h9,eZt h11]
  obtain⟨x04,g12,b4⟩:=ae b4
  obtain⟨h13,h14,h15⟩:=bz g12
  cases b4
  simp(config:=cS)only[go_sem,hc_v1.1,hc_v1.2,hm_v1,hk_v1,eqF h2,eqT h5,h7,h8,h9,eZf h11,h13,h14,h15]
  refine cy gb4 ?_
  simp(config:=cS)only[go_sem,hc_v1.1,hc_v1.2,hm_v1,hk_v1,eqF h2,eqT h5,h7,h8,h9,eZf h11,h13,h14,h15]
 cases b4
 obtain rfl:=(aG gb4).symm
 try dsimp only at h
 obtain⟨h17,h⟩:=cN h
 obtain⟨h18,h⟩:=cN h
 obtain⟨h19,h⟩:=cN h
 cases h
 simp(config:=cS)only[go_sem,hc_v1.1,hc_v1.2,hm_v1,hk_v1,eqF h2,eqF h5,eqT h17,eqT h18,eqT h19]
instance k112 {nodes:List Int} {node:Int}:Ctr (fX nodes node) (fun (res:Bool)=>ai prog 112 [.sl (ab eI nodes),.loc [.lit (.int .i64 node)]] [] (.lit (.bool res)) []):=⟨by
 intro res h0
 refine co (hi:=hi00) func112 rfl rfl ?_
 unfold fX at h0
 exact run⟩
@[go_sem] def hi110_1:DT:=.i2 0 (.i2 1 (.i2 3 (.i1 5 (.i1 6 (.i0 2 [5,6] (.i0 4 [5,6] (.r2 7 5 .nil)))))))
def Du:Hint where
 acts:=fun _=>[]
 draws:=fun
  | 1=>⟨hi110_1,[[],[],[0,1],[],[0,1,2,3],[],[5],.range 7,.range 8,.range 8,.range 10,.range 11],.range 12⟩
  | _=>⟨.nil,[],[]⟩
theorem JO (i:Nat):Du.acts i=[]:=rfl
attribute[go_sem] JO ntmps110 results110
@[go_sem] theorem Wb:(Du.draws 1).order=hi110_1:=rfl
instance k110 {g_s:GShow} {g_known:List (ByteArray × Bool)} {v1:GState} {node:Int} {d:GDesk}:Ctr (iJ g_s g_known v1 node d) (fun (res:(List Int) × Bool × (List (ByteArray × Bool)))=>ai prog 110 [.ptr 10000 0 0 0,.agg (GState.encS v1),.loc [.lit (.int .i64 node)],.loc [.sl (ab ag.encS d.show_.nodes),.sl (ab GTie.enc d.show_.ties),.lit (.int .i64 d.show_.horizon),.lit (.int .i64 d.state.now),.sl (ab eI d.state.times),.sl (ab eI d.state.values),.lit (.bool d.lazy),.sl (ab GEntry.encS d.log)]] [(10000,0,.var [.sl (ab ag.encS g_s.nodes),.sl (ab GTie.enc g_s.ties),.lit (.int .i64 g_s.horizon),.mp 10001 0]),(10001,0,.map (eM g_known))] (.tup [.sl (ab eI res.1),.lit (.bool res.2.1)]) [(10000,0,.var [.sl (ab ag.encS g_s.nodes),.sl (ab GTie.enc g_s.ties),.lit (.int .i64 g_s.horizon),.mp 10001 0]),(10001,0,.map (eM res.2.2))]):=⟨by
 intro res h0
 refine ao (ra:=[.home 6]) (md:=mdT) hT (hi:=Du) func110 rfl rfl (by decide +kernel) (by simp) ?_
 unfold iJ at h0
 obtain⟨r01,g0,h0⟩:=ae h0
 simp(config:=cS)only[go_sem, *]
 have g0:=ctr g0
 refine af g0 ?_
 obtain⟨r02,g0,h0⟩:=ae h0
 simp(config:=cS)only[go_sem, *]
 refine af (oY (by exact fun _ _ hr=>by have q:=ctr hr;exact q) (by refine⟨fun _=>?_,fun _=>?_⟩ <;> simp only[go_sem]) (fun _=>rfl) rfl g0) ?_
 exact run⟩
@[go_sem] def cH (ties values nodes:List Int)(v90 out_2 out_3:Int)(out_6:Bool)(v15_0:Int)(v15_1 v15_2:List Int)(next_0:Int)(h1600:List ag)(h1601:List GTie)(h1602 h1603:List Int)(h1604:List GEntry)(h5504 h5505 v89:List Int):(Int × (List Int))→St
 | (v91,seen)=>⟨[(1,.sl (ab eI ties)),(2,.sl (ab eI values)),(10,.ptr 640 1 0 0),(13,.ptr 832 1 0 0),(15,.ptr 960 1 0 0),(17,.sl (ab eI nodes)),(19,.ptr 1216 1 0 0),(20,.ref 5506 1 0 v89.length),(21,.ref 1407 1 0 seen.length),(89,.ref 5506 1 0 v89.length),(90,.lit (.int .i64 v90)),(91,.lit (.int .i64 v91))],[(640,1,.var [.lit (.slice none 0 0),.lit (.slice none 0 0),.lit (.int .i64 0),.lit (.int .i64 0),.lit (.slice none 0 0),.lit (.slice none 0 0),.lit (.bool false),.lit (.slice none 0 0)]),(832,1,.var [.ref 1600 1 0 h1600.length,.ref 1601 1 0 h1601.length,.lit (.int .i64 out_2),.lit (.int .i64 out_3),.ref 1602 1 0 h1602.length,.ref 1603 1 0 h1603.length,.lit (.bool out_6),.ref 1604 1 0 h1604.length]),(1600,1,.row true (ab ag.encO h1600)),(1601,1,.row true (ab GTie.enc h1601)),(1602,1,.row true (ab eI h1602)),(1603,1,.row true (ab eI h1603)),(1604,1,.row true (ab GEntry.encO h1604)),(960,1,.var [.lit (.int .i64 v15_0),.sl (ab eI v15_1),.sl (ab eI v15_2)]),(1216,1,.var [.lit (.int .i64 next_0),.ref 5504 1 0 h5504.length,.ref 5505 1 0 h5505.length]),(5504,1,.row true (ab eI h5504)),(5505,1,.row true (ab eI h5505)),(5506,1,.row true (ab eI v89)),(1407,1,.row true (ab eI seen))],2⟩
@[go_sem] def hi99_s110_22:DT:=.i1 0 (.i2 1 (.i0 2 [0] (.r2 3 3 .nil)))
@[go_sem] def hi99_s110_21:DT:=.i1 0 (.i1 1 (.i1 2 (.i1 3 (.i2 4 (.i2 6 (.i2 8 (.i2 9 (.i0 5 [0,1,2,3] (.i0 7 [0,1,2,3] (.i0 10 [0,1,2,3] (.i2 11 (.i0 12 [0,1] (.r2 13 3 .nil)))))))))))))
@[go_sem] def hi99_s110_10:DT:=.i2 0 (.i2 1 (.i1 3 (.i0 2 [3] (.r2 4 6 .nil))))
@[go_sem] def hi99_s110_4:DT:=.i1 0 (.i1 1 (.i1 2 (.i1 3 (.fork (.i0 4 [0,1,2,3] (.i0 5 [0,1,2,3] (.i0 6 [2,3] (.i2 7 .nil)))) (.i0 5 [0,1,2,3] (.i0 4 [0,1,2,3] (.i0 6 [2,3] (.i2 7 .nil))))))))
def kC:Hint where
 acts:=fun _=>[]
 draws:=fun
  | 4=>⟨hi99_s110_4,[[],[0],[],[2],[],[],[0,1,4,5],.range 7],[0,1,5,6,2,3,4,7]⟩
  | 10=>⟨hi99_s110_10,[[],[],[1],[],[0,1,2,3],.range 5,.range 6,.range 6,.range 7,.range 9],[0,1,2,3,4,5,6,8,7,9]⟩
  | 21=>⟨hi99_s110_21,[[],[0],[],[2],[],[4],[],[4,5,6],[],[],[4,5,6,7,8,9],[2,3,4,5,6,7,8,9,10],[2,3,4,5,6,7,8,9,10,11],.range 13,.range 14,.range 15],.range 16⟩
  | 22=>⟨hi99_s110_22,[[],[],[1],[0,1,2],[0,1,2,3],.range 5],.range 6⟩
  | _=>⟨.nil,[],[]⟩
theorem Dv (i:Nat):kC.acts i=[]:=rfl
attribute[go_sem] Dv ntmps99 results99
@[go_sem] theorem LG:(kC.draws 4).order=hi99_s110_4:=rfl
@[go_sem] theorem JP:(kC.draws 10).order=hi99_s110_10:=rfl
@[go_sem] theorem JQ:(kC.draws 21).order=hi99_s110_21:=rfl
@[go_sem] theorem JR:(kC.draws 22).order=hi99_s110_22:=rfl
instance k99_s110 {d:GDesk} {ties:List Int} {values:List Int} {refused:Int} {node:Int} {d':GDesk}:Ctr (cl d ties values refused node d') (fun (res:GDesk × (List Int) × Int)=>ai prog 99 [.agg (GDesk.encS d),.sl (ab eI ties),.sl (ab eI values),.lit (.int .i64 refused),.fn 110 [.loc [.lit (.int .i64 node)],.loc [.sl (ab ag.encS d'.show_.nodes),.sl (ab GTie.enc d'.show_.ties),.lit (.int .i64 d'.show_.horizon),.lit (.int .i64 d'.state.now),.sl (ab eI d'.state.times),.sl (ab eI d'.state.values),.lit (.bool d'.lazy),.sl (ab GEntry.encS d'.log)]]] [] (.tup [.agg [.ref 20000 1 0 res.1.show_.nodes.length,.ref 20001 1 0 res.1.show_.ties.length,.lit (.int .i64 res.1.show_.horizon),.lit (.int .i64 res.1.state.now),.ref 20002 1 0 res.1.state.times.length,.ref 20003 1 0 res.1.state.values.length,.lit (.bool res.1.lazy),.ref 20004 1 0 res.1.log.length],.ref 20005 1 0 res.2.1.length,.lit (.int .i64 res.2.2)]) [(20000,1,.row true (ab ag.encO res.1.show_.nodes)),(20001,1,.row true (ab GTie.enc res.1.show_.ties)),(20002,1,.row true (ab eI res.1.state.times)),(20003,1,.row true (ab eI res.1.state.values)),(20004,1,.row true (ab GEntry.encO res.1.log)),(20005,1,.row true (ab eI res.2.1))]):=⟨by
 intro res h0
 refine ao (ra:=[.homeCell 640 0,.homeCell 640 1,.homeCell 640 4,.homeCell 640 5,.homeCell 640 7,.home 11]) (md:=mdT) hT (hi:=kC) func99 rfl rfl (by decide +kernel) (by simp) ?_
 unfold cl at h0
 obtain⟨r01,g0,h0⟩:=ae h0
 simp(config:=cS)only[go_sem, *]
 have g0:=ctr g0
 refine af g0 ?_
 obtain⟨r02,g0,h0⟩:=ae h0
 simp(config:=cS)only[go_sem, *]
 have g0:=ctr g0
 refine af g0 ?_
 obtain⟨_,h0⟩|⟨_,h0⟩:=itB h0
 ·obtain⟨_,h0⟩|⟨_,h0⟩:=itP h0
  ·obtain⟨r03,g0,h0⟩:=ae h0
   simp(config:=cS)only[go_sem, *]
   refine af (bj (by exact fun _ _ hr=>by have q:=ctr hr;exact q) (by refine⟨fun _=>?_,fun _=>?_⟩ <;> simp only[go_sem]) (fun _=>rfl) rfl g0) ?_
   obtain⟨_,h0⟩|⟨_,h0⟩:=itB h0
   ·exact run
   try simp(config:=cS)only[go_sem, *]
   refine bC ?_ ?_
   ·obtain⟨r04,g0,h0⟩:=ae h0
    simp(config:=cS)only[go_sem, *]
    have g0:=ctr g0
    refine af g0 ?_
    obtain⟨_,h0⟩|⟨_,h0⟩:=itB h0
    ·exact run
    obtain⟨r05,g0,h0⟩:=ae h0
    simp(config:=cS)only[go_sem, *]
    have g0:=ctr g0
    refine af g0 ?_
    obtain⟨_,h0⟩|⟨_,h0⟩:=itB h0
    ·exact run
    obtain⟨_,h0⟩|⟨_,h0⟩:=itP h0
    ·exact run
    obtain⟨r06,g0,h0⟩:=ae h0
    simp(config:=cS)only[go_sem, *]
    have g0:=ctr g0
    refine af g0 ?_
    obtain⟨r07,g0,h0⟩:=ae h0
    simp(config:=cS)only[go_sem, *]
    have g0:=ctr g0
    refine af g0 ?_
    obtain⟨_,h0⟩|⟨_,h0⟩:=itB h0
    ·obtain⟨r08,g0,h0⟩:=ae h0
     simp(config:=cS)only[go_sem, *]
     have g0:=ctr g0
     refine af g0 ?_
     obtain⟨r09,g0,h0⟩:=ae h0
     simp(config:=cS)only[go_sem, *]
     have g0:=ctr g0
     refine af g0 ?_
     obtain⟨r10,g0,h0⟩:=ae h0
     simp(config:=cS)only[go_sem, *]
     have g0:=ctr g0
     refine af g0 ?_
     obtain⟨_,h0⟩|⟨_,h0⟩:=itB h0
     ·obtain⟨r11,g0,h0⟩:=ae h0
      simp(config:=cS)only[go_sem, *]
      have g0:=ctr g0
      refine af g0 ?_
      obtain⟨q19,l0,h0⟩:=ae h0
      simp(config:=cS)only[go_sem, *]
      refine aj (m1:=.mk) (m2:=.mk) [.home 21,.nf [1,2,10,13,15,17,19,20,21,89,90,91] [640,832,1600,1601,1602,1603,1604,960,1216,5504,5505,5506,1407]] (cH ties values r10.1 (r11.2.length:Int) r01.show_.horizon r01.state.now r01.lazy d.state.now d.state.times d.state.values r11.1.now r01.show_.nodes r01.show_.ties r01.state.times r01.state.values r01.log r11.1.times r11.1.values r11.2) l0 ?_ ?_
      ·simp(config:=cS)only[go_sem, *]
      have k0:=h0
      clear h0 l0
      intro _ s0 _ h0 gb0
      obtain⟨v91_1,seen_1⟩:=s0
      unfold bO at h0
      try dsimp only at h0
      exact run
     exact run
    exact run
   obtain⟨r20,g0,h0⟩:=ae h0
   simp(config:=cS)only[go_sem, *]
   have g0:=ctr g0
   refine af g0 ?_
   obtain⟨_,h0⟩|⟨_,h0⟩:=itB h0
   ·exact run
   obtain⟨r21,g0,h0⟩:=ae h0
   simp(config:=cS)only[go_sem, *]
   have g0:=ctr g0
   refine af g0 ?_
   obtain⟨_,h0⟩|⟨_,h0⟩:=itB h0
   ·exact run
   obtain⟨_,h0⟩|⟨_,h0⟩:=itP h0
   ·exact run
   obtain⟨r22,g0,h0⟩:=ae h0
   simp(config:=cS)only[go_sem, *]
   have g0:=ctr g0
   refine af g0 ?_
   obtain⟨r23,g0,h0⟩:=ae h0
   simp(config:=cS)only[go_sem, *]
   have g0:=ctr g0
   refine af g0 ?_
   obtain⟨_,h0⟩|⟨_,h0⟩:=itB h0
   ·obtain⟨r24,g0,h0⟩:=ae h0
    simp(config:=cS)only[go_sem, *]
    have g0:=ctr g0
    refine af g0 ?_
    obtain⟨r25,g0,h0⟩:=ae h0
    simp(config:=cS)only[go_sem, *]
    have g0:=ctr g0
    refine af g0 ?_
    obtain⟨r26,g0,h0⟩:=ae h0
    simp(config:=cS)only[go_sem, *]
    have g0:=ctr g0
    refine af g0 ?_
    obtain⟨_,h0⟩|⟨_,h0⟩:=itB h0
    ·obtain⟨r27,g0,h0⟩:=ae h0
     simp(config:=cS)only[go_sem, *]
     have g0:=ctr g0
     refine af g0 ?_
     obtain⟨q35,l0,h0⟩:=ae h0
     simp(config:=cS)only[go_sem, *]
     refine aj (m1:=.mk) (m2:=.mk) [.home 21,.nf [1,2,10,13,15,17,19,20,21,89,90,91] [640,832,1600,1601,1602,1603,1604,960,1216,5504,5505,5506,1407]] (cH ties values r26.1 (r27.2.length:Int) r01.show_.horizon r01.state.now r01.lazy d.state.now d.state.times d.state.values r27.1.now r01.show_.nodes r01.show_.ties r01.state.times r01.state.values r01.log r27.1.times r27.1.values r27.2) l0 ?_ ?_
     ·simp(config:=cS)only[go_sem, *]
     have k0:=h0
     clear h0 l0
     intro _ s0 _ h0 gb0
     obtain⟨v91_2,seen_2⟩:=s0
     unfold bO at h0
     try dsimp only at h0
     exact run
    exact run
   exact run
  exact run
 exact run⟩
instance k61 {d:GDesk} {ties:List Int} {node:Int} {values:List Int}:Ctr (ii d ties node values) (fun (res:GDesk × (List Int) × Int)=>ai prog 61 [.agg (GDesk.encS d),.sl (ab eI ties),.lit (.int .i64 node),.sl (ab eI values)] [] (.tup [.agg [.ref 20000 1 0 res.1.show_.nodes.length,.ref 20001 1 0 res.1.show_.ties.length,.lit (.int .i64 res.1.show_.horizon),.lit (.int .i64 res.1.state.now),.ref 20002 1 0 res.1.state.times.length,.ref 20003 1 0 res.1.state.values.length,.lit (.bool res.1.lazy),.ref 20004 1 0 res.1.log.length],.ref 20005 1 0 res.2.1.length,.lit (.int .i64 res.2.2)]) [(20000,1,.row true (ab ag.encO res.1.show_.nodes)),(20001,1,.row true (ab GTie.enc res.1.show_.ties)),(20002,1,.row true (ab eI res.1.state.times)),(20003,1,.row true (ab eI res.1.state.values)),(20004,1,.row true (ab GEntry.encO res.1.log)),(20005,1,.row true (ab eI res.2.1))]):=⟨by
 intro res h0
 refine ao (ra:=[.homeCell 512 0,.homeCell 512 1,.homeCell 512 4,.homeCell 512 5,.homeCell 512 7,.home 9]) (md:=mdT) hT (hi:=hi00) func61 rfl rfl (by decide +kernel) (by simp) ?_
 unfold ii at h0
 exact run⟩
@[go_sem] def hi36_15:DT:=.r2 0 10 .nil
def hi36:Hint where
 acts:=fun _=>[]
 draws:=fun
  | 15=>⟨hi36_15,[[],[0],[0,1],[0,1,2],[0,1,2,3],[],[5],[5,6],.range 8,.range 9],.range 10⟩
  | _=>⟨.nil,[],[]⟩
theorem LT (i:Nat):hi36.acts i=[]:=rfl
attribute[go_sem] LT ntmps36 results36
@[go_sem] theorem Wc:(hi36.draws 15).order=hi36_15:=rfl
instance k36 {v0:GConsole} {bl:List ByteArray}:Ctr (dq v0 bl) (fun (res:ByteArray × GConsole)=>ai prog 36 [.ptr 10000 0 0 0,.sl (ab eS bl)] [(10000,0,.var [.sl (ab GCue.enc v0.sheet.cues),.sl (ab eI v0.sheet.prep),.lit (.int .i64 v0.sheet.horizon),.sl (ab ag.encS v0.desk.show_.nodes),.sl (ab GTie.enc v0.desk.show_.ties),.lit (.int .i64 v0.desk.show_.horizon),.lit (.int .i64 v0.desk.state.now),.sl (ab eI v0.desk.state.times),.sl (ab eI v0.desk.state.values),.lit (.bool v0.desk.lazy),.sl (ab GEntry.encS v0.desk.log),.sl (ab GTake.enc v0.takes)])] (.lit (.string res.1)) [(10000,0,.var [.sl (ab GCue.enc res.2.sheet.cues),.sl (ab eI res.2.sheet.prep),.lit (.int .i64 res.2.sheet.horizon),.sl (ab ag.encS res.2.desk.show_.nodes),.sl (ab GTie.enc res.2.desk.show_.ties),.lit (.int .i64 res.2.desk.show_.horizon),.lit (.int .i64 res.2.desk.state.now),.sl (ab eI res.2.desk.state.times),.sl (ab eI res.2.desk.state.values),.lit (.bool res.2.desk.lazy),.sl (ab GEntry.encS res.2.desk.log),.sl (ab GTake.enc res.2.takes)])]):=⟨by
 intro res h0
 refine ao (ra:=[.homeCell 10000 0,.freeze [100640000],.sliC 10000 0,.homeCell 10000 1,.freeze [100640001],.sliC 10000 1,.homeCell 10000 3,.freeze [5632,100640003],.sliC 10000 3,.homeCell 10000 4,.freeze [5633,100640004],.sliC 10000 4,.homeCell 10000 7,.freeze [5634,100640007],.sliC 10000 7,.homeCell 10000 8,.freeze [5635,100640008],.sliC 10000 8,.homeCell 10000 10,.freeze [5636,100640010],.sliC 10000 10,.homeCell 10000 11,.freeze [100640011],.sliC 10000 11]) (md:=mdT) hT (hi:=hi36) func36 rfl rfl (by decide +kernel) (by simp) ?_
 unfold dq at h0
 obtain⟨x01,g1,h0⟩:=ae h0
 have:=aR (k:=1) g1
 obtain⟨r02,g0,h0⟩:=ae h0
 simp(config:=cS)only[go_sem, *]
 have g0:=ctr g0
 refine af g0 ?_
 obtain⟨x03,_,_,_,h0⟩:=gtI h0
 obtain⟨r04,g0,h0⟩:=ae h0
 simp(config:=cS)only[go_sem, *]
 have g0:=ctr g0
 refine af g0 ?_
 obtain⟨_,h0⟩|⟨_,h0⟩:=itB h0
 ·obtain⟨_,h0⟩|⟨_,h0⟩:=itB h0
  ·obtain⟨x05,g2,h0⟩:=ae h0
   have:=aR (k:=0) g2
   obtain⟨_,h0⟩|⟨_,h0⟩:=itP h0
   ·obtain⟨_,h0⟩|⟨_,h0⟩:=itP h0
    ·exact run
    obtain⟨_,h0⟩|⟨_,h0⟩:=itP h0
    ·obtain⟨_,h0⟩|⟨_,h0⟩:=itP h0
     ·obtain⟨x08,g3,h0⟩:=ae h0
      have:=aR (k:=2) g3
      exact run
     exact run
    obtain⟨_,h0⟩|⟨_,h0⟩:=itP h0
    ·obtain⟨_,h0⟩|⟨_,h0⟩:=itP h0
     ·obtain⟨x12,g4,h0⟩:=ae h0
      have:=aR (k:=2) g4
      exact run
     exact run
    exact run
   obtain⟨_,h0⟩|⟨_,h0⟩:=itP h0
   ·obtain⟨_,h0⟩|⟨_,h0⟩:=itP h0
    ·obtain⟨x16,g5,h0⟩:=ae h0
     have:=aR (k:=2) g5
     exact run
    exact run
   obtain⟨_,h0⟩|⟨_,h0⟩:=itP h0
   ·obtain⟨_,h0⟩|⟨_,h0⟩:=itP h0
    ·obtain⟨x20,g6,h0⟩:=ae h0
     have:=aR (k:=2) g6
     exact run
    exact run
   exact run
  exact run
 exact run⟩
@[go_sem] def rS (v11:List GCue)(v12:Int):(Int × Int × (List Int) × (List Int))→St
 | (n,v13,begins,ends)=>⟨[(5,.ref 383 1 0 begins.length),(6,.ref 447 1 0 ends.length),(7,.lit (.int .i64 n)),(11,.sl (ab GCue.enc v11)),(12,.lit (.int .i64 v12)),(13,.lit (.int .i64 v13))],[(383,1,.row true (ab eI begins)),(447,1,.row true (ab eI ends))],2⟩
instance k123 {t:GSheet}:Ctr (nH t) (fun (res:(List Int) × (List Int) × Int)=>ai prog 123 [.agg (GSheet.encS t)] [] (.tup [.ref 20000 1 0 res.1.length,.ref 20001 1 0 res.2.1.length,.lit (.int .i64 res.2.2)]) [(20000,1,.row true (ab eI res.1)),(20001,1,.row true (ab eI res.2.1))]):=⟨by
 intro res h0
 refine ao (ra:=[.home 2,.home 3]) (md:=mdT) hT (hi:=hi00) func123 rfl rfl (by decide +kernel) (by simp) ?_
 unfold nH at h0
 obtain⟨q03,l0,h0⟩:=ae h0
 simp(config:=cS)only[go_sem, *]
 refine aj (m1:=.mk) (m2:=.mk) [.home 5,.home 6,.nf [5,6,7,11,12,13] [383,447]] (rS t.cues (t.cues.length:Int)) l0 ?_ ?_
 ·simp(config:=cS)only[go_sem, *]
 have k0:=h0
 clear h0 l0
 intro _ s0 _ h0 gb0
 obtain⟨n_1,v13_1,begins_1,ends_1⟩:=s0
 unfold pu at h0
 try dsimp only at h0
 obtain⟨_,h0⟩|⟨_,h0⟩:=itP h0
 ·obtain⟨x01,_,_,_,h0⟩:=gtI h0
  obtain⟨_,h0⟩:=ckP h0
  obtain⟨_,h0⟩:=ckP h0
  obtain⟨_,h0⟩:=ckP h0
  obtain⟨_,h0⟩:=ckP h0
  obtain⟨_,h0⟩|⟨_,h0⟩:=itP h0
  ·exact run
  obtain⟨x02,a1,a2,a3,h0⟩:=gtI h0
  try simp only[List.length_append,List.length_cons,List.length_nil,Nat.zero_add,Nat.reduceAdd]at a1
  try simp only[List.length_append,List.length_cons,List.length_nil,Nat.zero_add,Nat.reduceAdd]at a2
  try simp only[List.length_append,List.length_cons,List.length_nil,Nat.zero_add,Nat.reduceAdd]at a3
  exact run
 exact run⟩
instance k124 {v0:Int}:Ctr (ey v0) (fun (res:List Int)=>ai prog 124 [.lit (.int .i64 v0)] [] (.ref 20000 1 0 res.length) [(20000,1,.row true (ab eI res))]):=⟨by
 intro res h0
 refine ao (ra:=[.home 2]) (md:=mdT) hT (hi:=hi00) func124 rfl rfl (by decide +kernel) (by simp) ?_
 unfold ey at h0
 exact run⟩
instance k125 {begins:List Int} {ends:List Int} {cue:Int}:Ctr (qn begins ends cue) (fun (res:Int)=>ai prog 125 [.sl (ab eI begins),.sl (ab eI ends),.lit (.int .i64 cue)] [] (.lit (.int .i64 res)) []):=⟨by
 intro res h0
 refine co (hi:=hi00) func125 rfl rfl ?_
 unfold qn at h0
 exact run⟩
@[go_sem] def bv (n i:Int)(v28:List GCue)(v29 v119:Int)(t_1:List Int)(t_2:Int)(v9_0:ByteArray)(v9_1:Int)(v9_2:Bool)(v9_3 v9_4 v9_5 v9_6:Int)(v9_7:Bool)(v9_8 v9_9 v9_10:Int)(begins ends:List Int)(h1600:List ag)(h100028673:List GTie)(v120:Int):St:=⟨[(1,.ptr 64 1 0 0),(2,.ptr 128 1 0 0),(4,.ref 1152 1 0 begins.length),(5,.ref 1153 1 0 ends.length),(6,.lit (.int .i64 n)),(7,.ptr 448 1 0 0),(8,.lit (.int .i64 i)),(9,.ptr 576 1 0 0),(28,.sl (ab GCue.enc v28)),(29,.lit (.int .i64 v29)),(30,.lit (.int .i64 i)),(119,.lit (.int .i64 v119)),(120,.lit (.int .i64 v120))],[(64,1,.var [.sl (ab GCue.enc v28),.sl (ab eI t_1),.lit (.int .i64 t_2)]),(128,1,.var [.lit (.slice none 0 0),.lit (.slice none 0 0),.lit (.int .i64 0)]),(1152,1,.row true (ab eI begins)),(1153,1,.row true (ab eI ends)),(448,1,.var [.ref 1600 1 0 h1600.length,.ref 100028673 1 0 h100028673.length,.lit (.int .i64 t_2)]),(1600,1,.row true (ab ag.encO h1600)),(100028673,1,.row true (ab GTie.enc h100028673)),(576,1,.var [.lit (.string v9_0),.lit (.int .i64 v9_1),.lit (.bool v9_2),.lit (.int .i64 v9_3),.lit (.int .i64 v9_4),.lit (.int .i64 v9_5),.lit (.int .i64 v9_6),.lit (.bool v9_7),.lit (.int .i64 v9_8),.lit (.int .i64 v9_9),.lit (.int .i64 v9_10)])],2⟩
@[go_sem] def oH (n:Int)(v28:List GCue)(v29:Int)(t_1:List Int)(t_2:Int)(begins ends:List Int):(Int × (List ag) × (List GTie))→St
 | (v30,h1600,h100028673)=>⟨[(1,.ptr 64 1 0 0),(2,.ptr 128 1 0 0),(4,.ref 1152 1 0 begins.length),(5,.ref 1153 1 0 ends.length),(6,.lit (.int .i64 n)),(7,.ptr 448 1 0 0),(28,.sl (ab GCue.enc v28)),(29,.lit (.int .i64 v29)),(30,.lit (.int .i64 v30))],[(64,1,.var [.sl (ab GCue.enc v28),.sl (ab eI t_1),.lit (.int .i64 t_2)]),(128,1,.var [.lit (.slice none 0 0),.lit (.slice none 0 0),.lit (.int .i64 0)]),(1152,1,.row true (ab eI begins)),(1153,1,.row true (ab eI ends)),(448,1,.var [.ref 1600 1 0 h1600.length,.ref 100028673 1 0 h100028673.length,.lit (.int .i64 t_2)]),(1600,1,.row true (ab ag.encO h1600)),(100028673,1,.row true (ab GTie.enc h100028673))],2⟩
@[go_sem] def hi68_22:DT:=.i1 0 (.i1 1 (.r2 2 3 (.i2 6 (.i2 7 (.i1 8 (.i1 9 (.i1 10 (.i1 11 (.i1 12 (.i1 13 (.i2 14 (.i1 15 (.i1 16 (.i0 5 [0,1,8,9,10,11,12,13,15,16] (.i2 17 (.i0 18 [0,1] (.r2 19 3 .nil)))))))))))))))))
@[go_sem] def hi68_21:DT:=.r2 0 20 .nil
@[go_sem] def hi68_17:DT:=.i1 0 (.i1 1 (.r2 2 15 (.i0 17 [0,1] (.r2 18 3 .nil))))
@[go_sem] def hi68_16:DT:=.i1 0 (.i1 1 (.i1 2 (.i1 3 (.r2 4 3 (.i0 7 [0,1,2,3] (.i2 8 (.i0 9 [0,1] (.r2 10 3 .nil))))))))
@[go_sem] def hi68_14:DT:=.i1 0 (.i1 1 (.r2 2 10 (.i0 12 [0,1] (.r2 13 3 .nil))))
@[go_sem] def hi68_8:DT:=.i1 0 (.i1 1 (.i1 2 (.i1 3 (.i2 4 (.i2 5 (.i1 7 (.i1 8 (.i0 6 [0,1,2,3,7,8] (.i2 9 (.i0 10 [0,1] (.r2 11 3 .nil)))))))))))
def hi68:Hint where
 acts:=fun _=>[]
 draws:=fun
  | 8=>⟨hi68_8,[[],[0],[],[2],[],[4],[4,5],[],[7],[2,3,4,5,6,7,8],[2,3,4,5,6,7,8,9],.range 11,.range 12,.range 13],.range 14⟩
  | 14=>⟨hi68_14,[[],[0],[],[],[],[3,4],[3,4,5],[],[7],[],[9],[2,3,4,5,6,7,8,9,10],[2,3,4,5,6,7,8,9,10,11],.range 13,.range 14,.range 15],.range 16⟩
  | 16=>⟨hi68_16,[[],[0],[],[2],[2,3],[],[5],[5,6],[2,3,4,5,6,7],[2,3,4,5,6,7,8],.range 10,.range 11,.range 12],.range 13⟩
  | 17=>⟨hi68_17,[[],[0],[],[],[2,3],[2,3,4],[],[],[6,7],[6,7,8],[],[10],[],[12],[],[14],[2,3,4,5,6,7,8,9,10,11,12,13,14,15],[2,3,4,5,6,7,8,9,10,11,12,13,14,15,16],.range 18,.range 19,.range 20],.range 21⟩
  | 21=>⟨hi68_21,[[],[0],[0,1],[0,1,2],[0,1,2,3],.range 5,[0,1,2,3],.range 7,.range 8,.range 9,[0,1,2,3],[0,1,2,3,10],.range 12,.range 13,.range 14,.range 15,.range 15,.range 15,.range 18,.range 19],.range 20⟩
  | 22=>⟨hi68_22,[[],[0],[],[],[],[2,3,4],[],[],[6,7],[6,7,8],[],[10],[],[12],[12,13],[10,11,12,13,14],[10,11,12,13,14,15],[2,3,4,5,6,7,8,9,10,11,12,13,14,15,16],[2,3,4,5,6,7,8,9,10,11,12,13,14,15,16,17],.range 19,.range 20,.range 21],.range 22⟩
  | _=>⟨.nil,[],[]⟩
theorem LU (i:Nat):hi68.acts i=[]:=rfl
attribute[go_sem] LU ntmps68 results68
@[go_sem] theorem Xp:(hi68.draws 8).order=hi68_8:=rfl
@[go_sem] theorem Wd:(hi68.draws 14).order=hi68_14:=rfl
@[go_sem] theorem We:(hi68.draws 16).order=hi68_16:=rfl
@[go_sem] theorem Wf:(hi68.draws 17).order=hi68_17:=rfl
@[go_sem] theorem Wg:(hi68.draws 21).order=hi68_21:=rfl
@[go_sem] theorem Wh:(hi68.draws 22).order=hi68_22:=rfl
instance k68 {t:GSheet}:Ctr (dr t) (fun (res:GShow × Int)=>ai prog 68 [.agg (GSheet.encS t)] [] (.tup [.agg [.ref 20000 1 0 res.1.nodes.length,.ref 20001 1 0 res.1.ties.length,.lit (.int .i64 res.1.horizon)],.lit (.int .i64 res.2)]) [(20000,1,.row true (ab ag.encO res.1.nodes)),(20001,1,.row true (ab GTie.enc res.1.ties))]):=⟨by
 intro res h0
 refine ao (ra:=[.homeCell 128 0,.homeCell 128 1]) (md:=mdT) hT (hi:=hi68) func68 rfl rfl (by decide +kernel) (by simp) ?_
 unfold dr at h0
 obtain⟨r01,g0,h0⟩:=ae h0
 simp(config:=cS)only[go_sem, *]
 have g0:=ctr g0
 refine af g0 ?_
 obtain⟨_,h0⟩|⟨_,h0⟩:=itB h0
 ·obtain⟨r02,g0,h0⟩:=ae h0
  simp(config:=cS)only[go_sem, *]
  have g0:=ctr g0
  refine af g0 ?_
  obtain⟨q29,l0,h0⟩:=ae h0
  simp(config:=cS)only[go_sem, *]
  refine aj (m1:=.mk) (m2:=.mk) [.homeCell 448 1,.nf [1,2,4,5,6,7,28,29,30] [64,128,1152,1153,448,1600,100028673]] (oH r02.2.2 t.cues (t.cues.length:Int) t.prep t.horizon r02.1 r02.2.1) l0 ?_ ?_
  ·simp(config:=cS)only[go_sem, *]
  have k0:=h0
  clear h0 l0
  intro _ s0 _ h0 gb0
  obtain⟨v30_1,h1600_1,h100028673_1⟩:=s0
  unfold jY at h0
  try dsimp only at h0
  obtain⟨_,h0⟩|⟨_,h0⟩:=itP h0
  ·obtain⟨x03,_,_,_,h0⟩:=gtI h0
   obtain⟨r04,g0,h0⟩:=ae h0
   simp(config:=cS)only[go_sem, *]
   have g0:=ctr g0
   refine af g0 ?_
   obtain⟨_,h0⟩:=ckP h0
   obtain⟨_,h0⟩:=ckP h0
   obtain⟨_,h0⟩|⟨_,h0⟩:=itB h0
   ·obtain⟨r05,g0,h0⟩:=ae h0
    simp(config:=cS)only[go_sem, *]
    have g0:=ctr g0
    refine af g0 ?_
    obtain⟨x06,_,_,_,h0⟩:=gtI h0
    obtain⟨_,h0⟩:=ckP h0
    obtain⟨_,h0⟩:=ckP h0
    obtain⟨_,h0⟩|⟨_,h0⟩:=itP h0
    ·obtain⟨_,h0⟩:=ckP h0
     obtain⟨_,h0⟩:=ckP h0
     obtain⟨q08,l0,h0⟩:=ae h0
     simp(config:=cS)only[go_sem, *]
     refine aj (m1:=.mk) (m2:=.mk) [.nf [1,2,4,5,6,7,8,9,28,29,30,119,120] [64,128,1152,1153,448,1600,100028673,576]] (bv r02.2.2 v30_1 t.cues (t.cues.length:Int) (((t.cues.take v30_1.toNat).length:Nat):Int) t.prep t.horizon x03.name x03.after x03.atEnd x03.low x03.high x03.min_ x03.max_ x03.free x03.if_ x03.watch x03.device r02.1 r02.2.1 (h1600_1++([(ag.mk x03.name r04 x03.watch)])) (h100028673_1++([(GTie.mk r05 x06 x03.low x03.high false)]))) l0 ?_ ?_
     ·simp(config:=cS)only[go_sem, *]
     have k0:=h0
     clear h0 l0
     intro _ v120_2 _ h0 gb0
     unfold aP at h0
     try dsimp only at h0
     exact run
    obtain⟨_,h0⟩:=ckP h0
    obtain⟨r09,g0,h0⟩:=ae h0
    simp(config:=cS)only[go_sem, *]
    have g0:=ctr g0
    refine af g0 ?_
    obtain⟨a1,h0⟩:=ckP h0
    try simp(config:=cS)only[go_sem]at a1
    obtain⟨a2,h0⟩:=ckP h0
    try simp(config:=cS)only[go_sem]at a2
    obtain⟨x10,_,_,_,h0⟩:=gtI h0
    obtain⟨a3,h0⟩:=ckP h0
    try simp(config:=cS)only[go_sem]at a3
    obtain⟨a4,h0⟩:=ckP h0
    try simp(config:=cS)only[go_sem]at a4
    obtain⟨_,h0⟩:=ckP h0
    obtain⟨_,h0⟩:=ckP h0
    obtain⟨q12,l0,h0⟩:=ae h0
    simp(config:=cS)only[go_sem, *]
    refine aj (m1:=.mk) (m2:=.mk) [.nf [1,2,4,5,6,7,8,9,28,29,30,119,120] [64,128,1152,1153,448,1600,100028673,576]] (bv r02.2.2 v30_1 t.cues (t.cues.length:Int) (((t.cues.take v30_1.toNat).length:Nat):Int) t.prep t.horizon x03.name x03.after x03.atEnd x03.low x03.high x03.min_ x03.max_ x03.free x03.if_ x03.watch x03.device r02.1 r02.2.1 ((h1600_1++([(ag.mk x03.name r04 x03.watch)]))++([(ag.mk (x03.name++(ByteArray.mk #[122])) r09 0)])) ((h100028673_1++([(GTie.mk r05 x06 x03.low x03.high false)]))++([(GTie.mk x06 x10 x03.min_ x03.max_ x03.free)]))) l0 ?_ ?_
    ·simp(config:=cS)only[go_sem, *]
    have k0:=h0
    clear h0 l0
    intro _ v120_3 _ h0 gb0
    unfold aP at h0
    try dsimp only at h0
    exact run
   obtain⟨_,h0⟩|⟨_,h0⟩:=itP h0
   ·obtain⟨x13,_,_,_,h0⟩:=gtI h0
    obtain⟨x14,_,_,_,h0⟩:=gtI h0
    obtain⟨_,h0⟩:=ckP h0
    obtain⟨_,h0⟩:=ckP h0
    obtain⟨_,h0⟩|⟨_,h0⟩:=itP h0
    ·obtain⟨_,h0⟩:=ckP h0
     obtain⟨_,h0⟩:=ckP h0
     obtain⟨q16,l0,h0⟩:=ae h0
     simp(config:=cS)only[go_sem, *]
     refine aj (m1:=.mk) (m2:=.mk) [.nf [1,2,4,5,6,7,8,9,28,29,30,119,120] [64,128,1152,1153,448,1600,100028673,576]] (bv r02.2.2 v30_1 t.cues (t.cues.length:Int) (((t.cues.take v30_1.toNat).length:Nat):Int) t.prep t.horizon x03.name x03.after x03.atEnd x03.low x03.high x03.min_ x03.max_ x03.free x03.if_ x03.watch x03.device r02.1 r02.2.1 (h1600_1++([(ag.mk x03.name r04 x03.watch)])) (h100028673_1++([(GTie.mk x13 x14 x03.low x03.high false)]))) l0 ?_ ?_
     ·simp(config:=cS)only[go_sem, *]
     have k0:=h0
     clear h0 l0
     intro _ v120_4 _ h0 gb0
     unfold aP at h0
     try dsimp only at h0
     exact run
    obtain⟨_,h0⟩:=ckP h0
    obtain⟨r17,g0,h0⟩:=ae h0
    simp(config:=cS)only[go_sem, *]
    have g0:=ctr g0
    refine af g0 ?_
    obtain⟨a5,h0⟩:=ckP h0
    try simp(config:=cS)only[go_sem]at a5
    obtain⟨a6,h0⟩:=ckP h0
    try simp(config:=cS)only[go_sem]at a6
    obtain⟨x18,_,_,_,h0⟩:=gtI h0
    obtain⟨a7,h0⟩:=ckP h0
    try simp(config:=cS)only[go_sem]at a7
    obtain⟨a8,h0⟩:=ckP h0
    try simp(config:=cS)only[go_sem]at a8
    obtain⟨_,h0⟩:=ckP h0
    obtain⟨_,h0⟩:=ckP h0
    obtain⟨q20,l0,h0⟩:=ae h0
    simp(config:=cS)only[go_sem, *]
    refine aj (m1:=.mk) (m2:=.mk) [.nf [1,2,4,5,6,7,8,9,28,29,30,119,120] [64,128,1152,1153,448,1600,100028673,576]] (bv r02.2.2 v30_1 t.cues (t.cues.length:Int) (((t.cues.take v30_1.toNat).length:Nat):Int) t.prep t.horizon x03.name x03.after x03.atEnd x03.low x03.high x03.min_ x03.max_ x03.free x03.if_ x03.watch x03.device r02.1 r02.2.1 ((h1600_1++([(ag.mk x03.name r04 x03.watch)]))++([(ag.mk (x03.name++(ByteArray.mk #[122])) r17 0)])) ((h100028673_1++([(GTie.mk x13 x14 x03.low x03.high false)]))++([(GTie.mk x14 x18 x03.min_ x03.max_ x03.free)]))) l0 ?_ ?_
    ·simp(config:=cS)only[go_sem, *]
    have k0:=h0
    clear h0 l0
    intro _ v120_5 _ h0 gb0
    unfold aP at h0
    try dsimp only at h0
    exact run
   obtain⟨x21,_,_,_,h0⟩:=gtI h0
   obtain⟨_,h0⟩:=ckP h0
   obtain⟨_,h0⟩:=ckP h0
   obtain⟨_,h0⟩|⟨_,h0⟩:=itP h0
   ·obtain⟨_,h0⟩:=ckP h0
    obtain⟨_,h0⟩:=ckP h0
    obtain⟨q23,l0,h0⟩:=ae h0
    simp(config:=cS)only[go_sem, *]
    refine aj (m1:=.mk) (m2:=.mk) [.nf [1,2,4,5,6,7,8,9,28,29,30,119,120] [64,128,1152,1153,448,1600,100028673,576]] (bv r02.2.2 v30_1 t.cues (t.cues.length:Int) (((t.cues.take v30_1.toNat).length:Nat):Int) t.prep t.horizon x03.name x03.after x03.atEnd x03.low x03.high x03.min_ x03.max_ x03.free x03.if_ x03.watch x03.device r02.1 r02.2.1 (h1600_1++([(ag.mk x03.name r04 x03.watch)])) (h100028673_1++([(GTie.mk 0 x21 x03.low x03.high false)]))) l0 ?_ ?_
    ·simp(config:=cS)only[go_sem, *]
    have k0:=h0
    clear h0 l0
    intro _ v120_6 _ h0 gb0
    unfold aP at h0
    try dsimp only at h0
    exact run
   obtain⟨_,h0⟩:=ckP h0
   obtain⟨r24,g0,h0⟩:=ae h0
   simp(config:=cS)only[go_sem, *]
   have g0:=ctr g0
   refine af g0 ?_
   obtain⟨a9,h0⟩:=ckP h0
   try simp(config:=cS)only[go_sem]at a9
   obtain⟨a10,h0⟩:=ckP h0
   try simp(config:=cS)only[go_sem]at a10
   obtain⟨x25,_,_,_,h0⟩:=gtI h0
   obtain⟨a11,h0⟩:=ckP h0
   try simp(config:=cS)only[go_sem]at a11
   obtain⟨a12,h0⟩:=ckP h0
   try simp(config:=cS)only[go_sem]at a12
   obtain⟨_,h0⟩:=ckP h0
   obtain⟨_,h0⟩:=ckP h0
   obtain⟨q27,l0,h0⟩:=ae h0
   simp(config:=cS)only[go_sem, *]
   refine aj (m1:=.mk) (m2:=.mk) [.nf [1,2,4,5,6,7,8,9,28,29,30,119,120] [64,128,1152,1153,448,1600,100028673,576]] (bv r02.2.2 v30_1 t.cues (t.cues.length:Int) (((t.cues.take v30_1.toNat).length:Nat):Int) t.prep t.horizon x03.name x03.after x03.atEnd x03.low x03.high x03.min_ x03.max_ x03.free x03.if_ x03.watch x03.device r02.1 r02.2.1 ((h1600_1++([(ag.mk x03.name r04 x03.watch)]))++([(ag.mk (x03.name++(ByteArray.mk #[122])) r24 0)])) ((h100028673_1++([(GTie.mk 0 x21 x03.low x03.high false)]))++([(GTie.mk x21 x25 x03.min_ x03.max_ x03.free)]))) l0 ?_ ?_
   ·simp(config:=cS)only[go_sem, *]
   have k0:=h0
   clear h0 l0
   intro _ v120_7 _ h0 gb0
   unfold aP at h0
   try dsimp only at h0
   exact run
  exact run
 exact run⟩
@[go_sem] def hi69_3:DT:=.i2 0 (.i1 2 (.i2 4 (.i0 1 [2] (.i2 3 (.r2 5 3 .nil)))))
def hi69:Hint where
 acts:=fun _=>[]
 draws:=fun
  | 3=>⟨hi69_3,[[],[0],[],[0,1,2],[],.range 5,.range 6,.range 7],.range 8⟩
  | _=>⟨.nil,[],[]⟩
theorem LV (i:Nat):hi69.acts i=[]:=rfl
attribute[go_sem] LV ntmps69 results69
@[go_sem] theorem Xq:(hi69.draws 3).order=hi69_3:=rfl
instance k69 {s:GShow} {lazy:Bool}:Ctr (mm s lazy) (fun (res:GDesk × Bool)=>ai prog 69 [.agg (GShow.encS s),.lit (.bool lazy)] [] (.tup [.agg [.ref 20000 1 0 res.1.show_.nodes.length,.ref 20001 1 0 res.1.show_.ties.length,.lit (.int .i64 res.1.show_.horizon),.lit (.int .i64 res.1.state.now),.ref 20002 1 0 res.1.state.times.length,.ref 20003 1 0 res.1.state.values.length,.lit (.bool res.1.lazy),.ref 20004 1 0 res.1.log.length],.lit (.bool res.2)]) [(20000,1,.row true (ab ag.encO res.1.show_.nodes)),(20001,1,.row true (ab GTie.enc res.1.show_.ties)),(20002,1,.row true (ab eI res.1.state.times)),(20003,1,.row true (ab eI res.1.state.values)),(20004,1,.row true (ab GEntry.encO res.1.log))]):=⟨by
 intro res h0
 refine ao (ra:=[.homeCell 256 0,.homeCell 256 1,.homeCell 256 4,.homeCell 256 5,.homeCell 256 7]) (md:=mdT) hT (hi:=hi69) func69 rfl rfl (by decide +kernel) (by simp) ?_
 unfold mm at h0
 exact run⟩
instance k38 {v0:GConsole} {lazy:Bool}:Ctr (el v0 lazy) (fun (res:ByteArray × GConsole)=>ai prog 38 [.ptr 10000 0 0 0,.lit (.bool lazy)] [(10000,0,.var [.sl (ab GCue.enc v0.sheet.cues),.sl (ab eI v0.sheet.prep),.lit (.int .i64 v0.sheet.horizon),.sl (ab ag.encS v0.desk.show_.nodes),.sl (ab GTie.enc v0.desk.show_.ties),.lit (.int .i64 v0.desk.show_.horizon),.lit (.int .i64 v0.desk.state.now),.sl (ab eI v0.desk.state.times),.sl (ab eI v0.desk.state.values),.lit (.bool v0.desk.lazy),.sl (ab GEntry.encS v0.desk.log),.sl (ab GTake.enc v0.takes)])] (.lit (.string res.1)) [(10000,0,.var [.sl (ab GCue.enc res.2.sheet.cues),.sl (ab eI res.2.sheet.prep),.lit (.int .i64 res.2.sheet.horizon),.sl (ab ag.encS res.2.desk.show_.nodes),.sl (ab GTie.enc res.2.desk.show_.ties),.lit (.int .i64 res.2.desk.show_.horizon),.lit (.int .i64 res.2.desk.state.now),.sl (ab eI res.2.desk.state.times),.sl (ab eI res.2.desk.state.values),.lit (.bool res.2.desk.lazy),.sl (ab GEntry.encS res.2.desk.log),.sl (ab GTake.enc res.2.takes)])]):=⟨by
 intro res h0
 refine ao (ra:=[.homeCell 10000 0,.freeze [100640000],.sliC 10000 0,.homeCell 10000 1,.freeze [100640001],.sliC 10000 1,.homeCell 10000 3,.freeze [1344,100640003],.sliC 10000 3,.homeCell 10000 4,.freeze [1345,100640004],.sliC 10000 4,.homeCell 10000 7,.freeze [1346,100640007],.sliC 10000 7,.homeCell 10000 8,.freeze [1347,100640008],.sliC 10000 8,.homeCell 10000 10,.freeze [1348,100640010],.sliC 10000 10,.homeCell 10000 11,.freeze [100640011],.sliC 10000 11]) (md:=mdT) hT (hi:=hi00) func38 rfl rfl (by decide +kernel) (by simp) ?_
 unfold el at h0
 exact run⟩
@[go_sem] def qY (s_0:List ag)(s_1:List GTie)(s_2:Int):(Int × (List Int))→St
 | (node,chain)=>⟨[(1,.lit (.int .i64 node)),(2,.ptr 128 1 0 0),(6,.ref 447 1 0 chain.length)],[(128,1,.var [.sl (ab ag.encS s_0),.sl (ab GTie.enc s_1),.lit (.int .i64 s_2)]),(447,1,.row true (ab eI chain))],2⟩
@[go_sem] def hi265_7:DT:=.i2 0 (.i2 1 (.i1 4 (.i1 5 (.i2 6 (.i1 7 (.i1 8 (.i1 9 (.i0 2 [4,5,7,8,9] (.i0 3 [4,5,7,8,9] (.i2 10 (.i2 11 .nil)))))))))))
def Dw:Hint where
 acts:=fun _=>[]
 draws:=fun
  | 7=>⟨hi265_7,[[],[],[1],[0,1,2],[],[4],[],[4,5,6],[4,5,6,7],[4,5,6,7,8],[0,1,2,3],.range 11],[0,1,2,3,5,6,7,8,9,10,4,11]⟩
  | _=>⟨.nil,[],[]⟩
theorem JS (i:Nat):Dw.acts i=[]:=rfl
attribute[go_sem] JS ntmps265 results265
@[go_sem] theorem Wi:(Dw.draws 7).order=hi265_7:=rfl
instance k265 {s:GShow} {node:Int}:Ctr (ez s node) (fun (res:Int × (List Int))=>ai prog 265 [.agg (GShow.encS s),.lit (.int .i64 node)] [] (.tup [.lit (.int .i64 res.1),.ref 20000 1 0 res.2.length]) [(20000,1,.row true (ab eI res.2))]):=⟨by
 intro res h0
 refine ao (ra:=[.home 5]) (md:=mdT) hT (hi:=Dw) func265 rfl rfl (by decide +kernel) (by simp) ?_
 unfold ez at h0
 obtain⟨q04,l0,h0⟩:=ae h0
 simp(config:=cS)only[go_sem, *]
 refine aj (m1:=.mk) (m2:=.mk) [.home 6,.nf [1,2,6] [128,447]] (qY s.nodes s.ties s.horizon) l0 ?_ ?_
 ·simp(config:=cS)only[go_sem, *]
 have k0:=h0
 clear h0 l0
 intro _ s0 _ h0 gb0
 obtain⟨node_1,chain_1⟩:=s0
 unfold ob at h0
 try dsimp only at h0
 exact run⟩
@[go_sem] def qZ (v11:List ag)(v12:Int)(s_1:List GTie)(s_2 v13:Int):St:=⟨[(1,.ptr 64 1 0 0),(11,.sl (ab ag.encS v11)),(12,.lit (.int .i64 v12)),(13,.lit (.int .i64 v13))],[(64,1,.var [.sl (ab ag.encS v11),.sl (ab GTie.enc s_1),.lit (.int .i64 s_2)])],2⟩
instance k264 {s:GShow}:Ctr (mn s) (fun (res:Bool)=>ai prog 264 [.agg (GShow.encS s)] [] (.lit (.bool res)) []):=⟨by
 intro res h0
 refine co (hi:=hi00) func264 rfl rfl ?_
 unfold mn at h0
 obtain⟨r01,g0,h0⟩:=ae h0
 simp(config:=cS)only[go_sem, *]
 have g0:=ctr g0
 refine af g0 ?_
 obtain⟨_,h0⟩|⟨_,h0⟩:=itB h0
 ·obtain⟨q04,l0,h0⟩:=ae h0
  simp(config:=cS)only[go_sem, *]
  refine aj (m1:=.mk) (m2:=.mk) [.nf [1,11,12,13] [64]] (qZ s.nodes (s.nodes.length:Int) s.ties s.horizon) l0 ?_ ?_
  ·simp(config:=cS)only[go_sem, *]
  have k0:=h0
  clear h0 l0
  intro _ v13_1 _ h0 gb0
  unfold oc at h0
  try dsimp only at h0
  exact run
 exact run⟩
@[go_sem] def rb (but v12:List Int)(v13:Int)(s_0:List ag)(s_1:List GTie)(s_2:Int):(Int × Int × Int)→St
 | (low,high,v14)=>⟨[(2,.sl (ab eI but)),(3,.ptr 192 1 0 0),(8,.lit (.int .i64 low)),(9,.lit (.int .i64 high)),(12,.sl (ab eI v12)),(13,.lit (.int .i64 v13)),(14,.lit (.int .i64 v14))],[(192,1,.var [.sl (ab ag.encS s_0),.sl (ab GTie.enc s_1),.lit (.int .i64 s_2)])],2⟩
@[go_sem] def hi266_6:DT:=.r2 0 18 .nil
def Dx:Hint where
 acts:=fun _=>[]
 draws:=fun
  | 6=>⟨hi266_6,[[],[],[1],[],[1,2,3],[1,2,3,4],[1,2,3,4,5],.range 7,[],[],[9],[],[9,10,11],[9,10,11,12],[9,10,11,12,13],[8,9,10,11,12,13,14],.range 8,.range 17],[0,1,2,3,4,5,6,7,9,10,11,12,13,14,15,16,8,17]⟩
  | _=>⟨.nil,[],[]⟩
theorem JT (i:Nat):Dx.acts i=[]:=rfl
attribute[go_sem] JT ntmps266 results266
@[go_sem] theorem Wj:(Dx.draws 6).order=hi266_6:=rfl
instance k266 {s:GShow} {ties:List Int} {but:List Int}:Ctr (fY s ties but) (fun (res:Int × Int)=>ai prog 266 [.agg (GShow.encS s),.sl (ab eI ties),.sl (ab eI but)] [] (.tup [.lit (.int .i64 res.1),.lit (.int .i64 res.2)]) []):=⟨by
 intro res h0
 refine co (hi:=Dx) func266 rfl rfl ?_
 unfold fY at h0
 obtain⟨q04,l0,h0⟩:=ae h0
 simp(config:=cS)only[go_sem, *]
 refine aj (m1:=.mk) (m2:=.mk) [.nf [2,3,8,9,12,13,14] [192]] (rb but ties (ties.length:Int) s.nodes s.ties s.horizon) l0 ?_ ?_
 ·simp(config:=cS)only[go_sem, *]
 have k0:=h0
 clear h0 l0
 intro _ s0 _ h0 gb0
 obtain⟨low_1,high_1,v14_1⟩:=s0
 unfold oe at h0
 try dsimp only at h0
 exact run⟩
@[go_sem] def lz (v0:List aA)(f_v1:Nat)(k_v1:List AV)(v7 v8:Int):St:=⟨[(0,.sl (ab aA.enc v0)),(1,.fn f_v1 k_v1),(7,.lit (.int .i64 v7)),(8,.lit (.int .i64 v8))],[],2⟩
theorem pA {v0:List aA}{v1:aA→Option Bool}{f_v1:Nat}{k_v1:List AV}(hp_v1:∀ y0 r,v1 y0=some r→ai prog f_v1 ([.agg (aA.enc y0)]++k_v1) [] (.lit (.bool r)) [])(hc_v1:KC k_v1)(hm_v1:∀ a,mdT f_v1 a=⟨[],false⟩)(hk_v1:spf f_v1=false){res:Int}(h:eY v0 v1=some res):ai prog 297 [.sl (ab aA.enc v0),.fn f_v1 k_v1] [] (.lit (.int .i64 res)) []:=by
 refine co (hi:=hi00) func297 rfl rfl ?_
 unfold eY at h
 obtain⟨q03,l1,h⟩:=ae h
 simp(config:=cS)only[go_sem,hc_v1.1,hc_v1.2,hm_v1,hk_v1]
 refine aj (m1:=.mk) (m2:=.mk) [.nf [0,1,7,8] []] (lz v0 f_v1 k_v1 (v0.length:Int)) l1 ?_ ?_
 ·simp(config:=cS)only[go_sem,hc_v1.1,hc_v1.2,hm_v1,hk_v1]
 intro nb2 v8_1 bb2 b2 gb2
 unfold gJ at b2
 try dsimp only at b2
 obtain⟨h3,b2⟩|⟨h3,b2⟩:=aN b2
 ·obtain⟨x01,g4,b2⟩:=ae b2
  obtain⟨h5,h6,h7⟩:=bz g4
  obtain⟨r02,g8,b2⟩:=ae b2
  simp(config:=cS)only[go_sem,hc_v1.1,hc_v1.2,hm_v1,hk_v1,eqT h3,h5,h6,h7]
  refine af (hp_v1 _ _ g8) ?_
  obtain⟨h9,b2⟩|⟨h9,b2⟩:=aN b2
  ·cases b2
   obtain rfl:=(aG gb2).symm
   try dsimp only at h
   cases h
   simp(config:=cS)only[go_sem,hc_v1.1,hc_v1.2,hm_v1,hk_v1,eqT h3,h5,h6,h7,eZt h9]
  cases b2
  simp(config:=cS)only[go_sem,hc_v1.1,hc_v1.2,hm_v1,hk_v1,eqT h3,h5,h6,h7,eZf h9]
  refine cy gb2 ?_
  simp(config:=cS)only[go_sem,hc_v1.1,hc_v1.2,hm_v1,hk_v1,eqT h3,h5,h6,h7,eZf h9]
 cases b2
 obtain rfl:=(aG gb2).symm
 try dsimp only at h
 cases h
 simp(config:=cS)only[go_sem,hc_v1.1,hc_v1.2,hm_v1,hk_v1,eqF h3]
theorem ng {v0:List aA}{v1:aA→Option Bool}{f_v1:Nat}{k_v1:List AV}(hp_v1:∀ y0 r,v1 y0=some r→ai prog f_v1 ([.agg (aA.enc y0)]++k_v1) [] (.lit (.bool r)) [])(hc_v1:KC k_v1)(hm_v1:∀ a,mdT f_v1 a=⟨[],false⟩)(hk_v1:spf f_v1=false){res:Bool}(h:ea v0 v1=some res):ai prog 287 [.sl (ab aA.enc v0),.fn f_v1 k_v1] [] (.lit (.bool res)) []:=by
 refine co (hi:=hi00) func287 rfl rfl ?_
 unfold ea at h
 obtain⟨r01,g1,h⟩:=ae h
 simp(config:=cS)only[go_sem,hc_v1.1,hc_v1.2,hm_v1,hk_v1]
 refine af (pA hp_v1 hc_v1 hm_v1 hk_v1 g1) ?_
 cases h
 simp(config:=cS)only[go_sem,hc_v1.1,hc_v1.2,hm_v1,hk_v1]
instance k289 {i:ar}:Ctr (fM i) (fun (res:Bool)=>ai prog 289 [.agg [.lit (.int .i64 i.low),.lit (.int .i64 i.high)]] [] (.lit (.bool res)) []):=⟨by
 intro res h0
 refine co (hi:=hi00) func289 rfl rfl ?_
 unfold fM at h0
 exact run⟩
instance k288 {l:aA} {s:ap}:Ctr (iK l s) (fun (res:Bool)=>ai prog 288 [.agg (aA.enc l),.loc [.lit (.int .i64 s.events),.sl (ab aA.enc s.links)]] [] (.lit (.bool res)) []):=⟨by
 intro res h0
 refine co (hi:=hi00) func288 rfl rfl ?_
 unfold iK at h0
 exact run⟩
instance k267 {s:ap}:Ctr (dS s) (fun (res:Bool)=>ai prog 267 [.agg [.lit (.int .i64 s.events),.sl (ab aA.enc s.links)]] [] (.lit (.bool res)) []):=⟨by
 intro res h0
 refine co (hi:=hi00) func267 rfl rfl ?_
 unfold dS at h0
 obtain⟨_,h0⟩|⟨_,h0⟩:=itP h0
 ·exact run
 obtain⟨_,h0⟩|⟨_,h0⟩:=itP h0
 ·exact run
 obtain⟨_,h0⟩|⟨_,h0⟩:=itP h0
 ·exact run
 obtain⟨r01,g0,h0⟩:=ae h0
 simp(config:=cS)only[go_sem, *]
 refine af (ng (by exact fun _ _ hr=>by have q:=ctr hr;exact q) (by refine⟨fun _=>?_,fun _=>?_⟩ <;> simp only[go_sem]) (fun _=>rfl) rfl g0) ?_
 exact run⟩
@[go_sem] def nh (v31:Int)(s_0:List ag)(s_1:List GTie)(s_2:Int):(Int × (List aA))→St
 | (v32,h100016385)=>⟨[(1,.ptr 64 1 0 0),(2,.ptr 128 1 0 0),(4,.ptr 256 1 0 0),(31,.lit (.int .i64 v31)),(32,.lit (.int .i64 v32))],[(64,1,.var [.sl (ab ag.encS s_0),.sl (ab GTie.enc s_1),.lit (.int .i64 s_2)]),(128,1,.var [.lit (.int .i64 0),.lit (.slice none 0 0)]),(256,1,.var [.lit (.int .i64 v31),.ref 100016385 1 0 h100016385.length]),(100016385,1,.row true (ab aA.enc h100016385))],2⟩
@[go_sem] def ni (v63:List GTie)(v64:Int)(s_0:List ag)(s_2 out_0:Int):(Int × (List aA))→St
 | (v65,h100016385)=>⟨[(1,.ptr 64 1 0 0),(2,.ptr 128 1 0 0),(4,.ptr 256 1 0 0),(63,.sl (ab GTie.enc v63)),(64,.lit (.int .i64 v64)),(65,.lit (.int .i64 v65))],[(64,1,.var [.sl (ab ag.encS s_0),.sl (ab GTie.enc v63),.lit (.int .i64 s_2)]),(128,1,.var [.lit (.int .i64 0),.lit (.slice none 0 0)]),(256,1,.var [.lit (.int .i64 out_0),.ref 100016385 1 0 h100016385.length]),(100016385,1,.row true (ab aA.enc h100016385))],2⟩
@[go_sem] def nj (v123:Int)(s_0:List ag)(s_1:List GTie)(s_2:Int):(Int × (List aA))→St
 | (v124,h100016385)=>⟨[(1,.ptr 64 1 0 0),(2,.ptr 128 1 0 0),(4,.ptr 256 1 0 0),(123,.lit (.int .i64 v123)),(124,.lit (.int .i64 v124))],[(64,1,.var [.sl (ab ag.encS s_0),.sl (ab GTie.enc s_1),.lit (.int .i64 s_2)]),(128,1,.var [.lit (.int .i64 0),.lit (.slice none 0 0)]),(256,1,.var [.lit (.int .i64 v123),.ref 100016385 1 0 h100016385.length]),(100016385,1,.row true (ab aA.enc h100016385))],2⟩
instance k229 {s:GShow}:Ctr (gr s) (fun (res:ap × Bool)=>ai prog 229 [.agg (GShow.encS s)] [] (.tup [.agg [.lit (.int .i64 res.1.events),.ref 20000 1 0 res.1.links.length],.lit (.bool res.2)]) [(20000,1,.row true (ab aA.enc res.1.links))]):=⟨by
 intro res h0
 refine ao (ra:=[.homeCell 128 1]) (md:=mdT) hT (hi:=hi00) func229 rfl rfl (by decide +kernel) (by simp) ?_
 unfold gr at h0
 obtain⟨r01,g0,h0⟩:=ae h0
 simp(config:=cS)only[go_sem, *]
 have g0:=ctr g0
 refine af g0 ?_
 obtain⟨_,h0⟩|⟨_,h0⟩:=itB h0
 ·obtain⟨q13,l0,h0⟩:=ae h0
  simp(config:=cS)only[go_sem, *]
  refine aj (m1:=.mk) (m2:=.mk) [.homeCell 256 1,.nf [1,2,4,31,32] [64,128,256,100016385]] (nh (s.nodes.length:Int) s.nodes s.ties s.horizon) l0 ?_ ?_
  ·simp(config:=cS)only[go_sem, *]
  have k0:=h0
  clear h0 l0
  intro _ s0 _ h0 gb0
  obtain⟨v32_1,h100016385_1⟩:=s0
  unfold jk at h0
  try dsimp only at h0
  obtain⟨_,h0⟩|⟨_,h0⟩:=itP h0
  ·exact run
  cases h0
  obtain rfl:=(aG gb0).symm
  clear gb0
  have h0:=k0
  clear k0
  try dsimp only at h0
  obtain⟨q12,l0,h0⟩:=ae h0
  simp(config:=cS)only[go_sem, *]
  refine aj (m1:=.mk) (m2:=.mk) [.nf [1,2,4,63,64,65] [64,128,256,100016385]] (ni s.ties (s.ties.length:Int) s.nodes s.horizon (s.nodes.length:Int)) l0 ?_ ?_
  ·simp(config:=cS)only[go_sem, *]
  have k0:=h0
  clear h0 l0
  intro _ s0 _ h0 gb0
  obtain⟨v65_2,h100016385_2⟩:=s0
  unfold jl at h0
  try dsimp only at h0
  obtain⟨_,h0⟩|⟨_,h0⟩:=itP h0
  ·exact run
  cases h0
  obtain rfl:=(aG gb0).symm
  clear gb0
  have h0:=k0
  clear k0
  try dsimp only at h0
  obtain⟨q11,l0,h0⟩:=ae h0
  simp(config:=cS)only[go_sem, *]
  refine aj (m1:=.mk) (m2:=.mk) [.nf [1,2,4,123,124] [64,128,256,100016385]] (nj (s.nodes.length:Int) s.nodes s.ties s.horizon) l0 ?_ ?_
  ·simp(config:=cS)only[go_sem, *]
  have k0:=h0
  clear h0 l0
  intro _ s0 _ h0 gb0
  obtain⟨v124_3,h100016385_3⟩:=s0
  unfold jm at h0
  try dsimp only at h0
  exact run
 exact run⟩
@[go_sem] def rc (v12:List aA)(v13 g_0:Int):(Int × (List Int) × (List ay))→St
 | (v14,links,h100016385)=>⟨[(2,.ptr 128 1 0 0),(4,.ptr 256 1 0 0),(5,.ref 383 1 0 links.length),(12,.sl (ab aA.enc v12)),(13,.lit (.int .i64 v13)),(14,.lit (.int .i64 v14))],[(128,1,.var [.lit (.int .i64 0),.lit (.slice none 0 0)]),(256,1,.var [.lit (.int .i64 g_0),.ref 100016385 1 0 h100016385.length]),(100016385,1,.row true (ab ay.enc h100016385)),(383,1,.row true (ab eI links))],2⟩
instance k276 {s:ap}:Ctr (mq s) (fun (res:GGraph × (List Int))=>ai prog 276 [.agg [.lit (.int .i64 s.events),.sl (ab aA.enc s.links)]] [] (.tup [.agg [.lit (.int .i64 res.1.nodes),.ref 20000 1 0 res.1.edges.length],.ref 20001 1 0 res.2.length]) [(20000,1,.row true (ab ay.enc res.1.edges)),(20001,1,.row true (ab eI res.2))]):=⟨by
 intro res h0
 refine ao (ra:=[.homeCell 128 1,.home 3]) (md:=mdT) hT (hi:=hi00) func276 rfl rfl (by decide +kernel) (by simp) ?_
 unfold mq at h0
 obtain⟨q02,l0,h0⟩:=ae h0
 simp(config:=cS)only[go_sem, *]
 refine aj (m1:=.mk) (m2:=.mk) [.home 5,.homeCell 256 1,.nf [2,4,5,12,13,14] [128,256,100016385,383]] (rc s.links (s.links.length:Int) s.events) l0 ?_ ?_
 ·simp(config:=cS)only[go_sem, *]
 have k0:=h0
 clear h0 l0
 intro _ s0 _ h0 gb0
 obtain⟨v14_1,links_1,h100016385_1⟩:=s0
 unfold og at h0
 try dsimp only at h0
 obtain⟨_,h0⟩|⟨_,h0⟩:=itP h0
 ·obtain⟨x01,_,_,_,h0⟩:=gtI h0
  obtain⟨_,h0⟩|⟨_,h0⟩:=itP h0
  ·exact run
  obtain⟨_,h0⟩:=ckP h0
  obtain⟨_,h0⟩:=ckP h0
  obtain⟨_,h0⟩:=ckP h0
  obtain⟨_,h0⟩:=ckP h0
  obtain⟨_,h0⟩|⟨_,h0⟩:=itP h0
  ·exact run
  obtain⟨a1,h0⟩:=ckP h0
  try simp(config:=cS)only[go_sem]at a1
  obtain⟨a2,h0⟩:=ckP h0
  try simp(config:=cS)only[go_sem]at a2
  obtain⟨a3,h0⟩:=ckP h0
  try simp(config:=cS)only[go_sem]at a3
  obtain⟨a4,h0⟩:=ckP h0
  try simp(config:=cS)only[go_sem]at a4
  exact run
 exact run⟩
instance k292 {s:ap}:Ctr (jd s) (fun (res:GGraph)=>ai prog 292 [.agg [.lit (.int .i64 s.events),.sl (ab aA.enc s.links)]] [] (.agg [.lit (.int .i64 res.nodes),.ref 20000 1 0 res.edges.length]) [(20000,1,.row true (ab ay.enc res.edges))]):=⟨by
 intro res h0
 refine ao (ra:=[.homeCell 128 1]) (md:=mdT) hT (hi:=hi00) func292 rfl rfl (by decide +kernel) (by simp) ?_
 unfold jd at h0
 exact run⟩
@[go_sem] def lA (v0:List ay)(f_v1:Nat)(k_v1:List AV)(v7 v8:Int):St:=⟨[(0,.sl (ab ay.enc v0)),(1,.fn f_v1 k_v1),(7,.lit (.int .i64 v7)),(8,.lit (.int .i64 v8))],[],2⟩
theorem pB {v0:List ay}{v1:ay→Option Bool}{f_v1:Nat}{k_v1:List AV}(hp_v1:∀ y0 r,v1 y0=some r→ai prog f_v1 ([.agg (ay.enc y0)]++k_v1) [] (.lit (.bool r)) [])(hc_v1:KC k_v1)(hm_v1:∀ a,mdT f_v1 a=⟨[],false⟩)(hk_v1:spf f_v1=false){res:Int}(h:eZ v0 v1=some res):ai prog 309 [.sl (ab ay.enc v0),.fn f_v1 k_v1] [] (.lit (.int .i64 res)) []:=by
 refine co (hi:=hi00) func309 rfl rfl ?_
 unfold eZ at h
 obtain⟨q03,l1,h⟩:=ae h
 simp(config:=cS)only[go_sem,hc_v1.1,hc_v1.2,hm_v1,hk_v1]
 refine aj (m1:=.mk) (m2:=.mk) [.nf [0,1,7,8] []] (lA v0 f_v1 k_v1 (v0.length:Int)) l1 ?_ ?_
 ·simp(config:=cS)only[go_sem,hc_v1.1,hc_v1.2,hm_v1,hk_v1]
 intro nb2 v8_1 bb2 b2 gb2
 unfold gK at b2
 try dsimp only at b2
 obtain⟨h3,b2⟩|⟨h3,b2⟩:=aN b2
 ·obtain⟨x01,g4,b2⟩:=ae b2
  obtain⟨h5,h6,h7⟩:=bz g4
  obtain⟨r02,g8,b2⟩:=ae b2
  simp(config:=cS)only[go_sem,hc_v1.1,hc_v1.2,hm_v1,hk_v1,eqT h3,h5,h6,h7]
  refine af (hp_v1 _ _ g8) ?_
  obtain⟨h9,b2⟩|⟨h9,b2⟩:=aN b2
  ·cases b2
   obtain rfl:=(aG gb2).symm
   try dsimp only at h
   cases h
   simp(config:=cS)only[go_sem,hc_v1.1,hc_v1.2,hm_v1,hk_v1,eqT h3,h5,h6,h7,eZt h9]
  cases b2
  simp(config:=cS)only[go_sem,hc_v1.1,hc_v1.2,hm_v1,hk_v1,eqT h3,h5,h6,h7,eZf h9]
  refine cy gb2 ?_
  simp(config:=cS)only[go_sem,hc_v1.1,hc_v1.2,hm_v1,hk_v1,eqT h3,h5,h6,h7,eZf h9]
 cases b2
 obtain rfl:=(aG gb2).symm
 try dsimp only at h
 cases h
 simp(config:=cS)only[go_sem,hc_v1.1,hc_v1.2,hm_v1,hk_v1,eqF h3]
theorem nk {v0:List ay}{v1:ay→Option Bool}{f_v1:Nat}{k_v1:List AV}(hp_v1:∀ y0 r,v1 y0=some r→ai prog f_v1 ([.agg (ay.enc y0)]++k_v1) [] (.lit (.bool r)) [])(hc_v1:KC k_v1)(hm_v1:∀ a,mdT f_v1 a=⟨[],false⟩)(hk_v1:spf f_v1=false){res:Bool}(h:eb v0 v1=some res):ai prog 300 [.sl (ab ay.enc v0),.fn f_v1 k_v1] [] (.lit (.bool res)) []:=by
 refine co (hi:=hi00) func300 rfl rfl ?_
 unfold eb at h
 obtain⟨r01,g1,h⟩:=ae h
 simp(config:=cS)only[go_sem,hc_v1.1,hc_v1.2,hm_v1,hk_v1]
 refine af (pB hp_v1 hc_v1 hm_v1 hk_v1 g1) ?_
 cases h
 simp(config:=cS)only[go_sem,hc_v1.1,hc_v1.2,hm_v1,hk_v1]
instance k291 {n:Int}:Ctr (ij n) (fun (res:Bool)=>ai prog 291 [.lit (.int .i64 n)] [] (.lit (.bool res)) []):=⟨by
 intro res h0
 refine co (hi:=hi00) func291 rfl rfl ?_
 unfold ij at h0
 exact run⟩
instance k301 {e:ay} {g:GGraph}:Ctr (jG e g) (fun (res:Bool)=>ai prog 301 [.agg (ay.enc e),.loc [.lit (.int .i64 g.nodes),.sl (ab ay.enc g.edges)]] [] (.lit (.bool res)) []):=⟨by
 intro res h0
 refine co (hi:=hi00) func301 rfl rfl ?_
 unfold jG at h0
 exact run⟩
instance k293 {g:GGraph}:Ctr (fZ g) (fun (res:Bool)=>ai prog 293 [.agg [.lit (.int .i64 g.nodes),.sl (ab ay.enc g.edges)]] [] (.lit (.bool res)) []):=⟨by
 intro res h0
 refine co (hi:=hi00) func293 rfl rfl ?_
 unfold fZ at h0
 obtain⟨_,h0⟩|⟨_,h0⟩:=itP h0
 ·exact run
 obtain⟨_,h0⟩|⟨_,h0⟩:=itP h0
 ·exact run
 obtain⟨_,h0⟩|⟨_,h0⟩:=itP h0
 ·exact run
 obtain⟨r01,g0,h0⟩:=ae h0
 simp(config:=cS)only[go_sem, *]
 refine af (nk (by exact fun _ _ hr=>by have q:=ctr hr;exact q) (by refine⟨fun _=>?_,fun _=>?_⟩ <;> simp only[go_sem]) (fun _=>rfl) rfl g0) ?_
 exact run⟩
@[go_sem] def nn (zb0:Bool)  : (Int × Int × (List Int))→St
 | (v2,v3,v0)=>⟨[(0,.ref 10000 0 0 v0.length),(2,.lit (.int .i64 v2)),(3,.lit (.int .i64 v3))],[(10000,0,.row zb0 (ab eI v0))],2⟩
@[go_sem] def hi294_3:DT:=.r2 0 16 .nil
def Dy:Hint where
 acts:=fun _=>[]
 draws:=fun
  | 3=>⟨hi294_3,[[],[],[],[],[],[],[4,5],[4,5,6],[],[],[8,9],[8,9,10],[0,1,4,5,6,7,8,9,10,11],[0,1,4,5,6,7,8,9,10,11,12],.range 14,.range 15],[0,1,12,13,2,3,4,5,6,7,8,9,10,11,14,15]⟩
  | _=>⟨.nil,[],[]⟩
theorem JU (i:Nat):Dy.acts i=[]:=rfl
attribute[go_sem] JU ntmps294 results294
@[go_sem] theorem Wk:(Dy.draws 3).order=hi294_3:=rfl
theorem gk {v0:List Int}{zb0:Bool}{res:List Int}(h0:gu v0=some res):ai prog 294 [.ref 10000 0 0 v0.length] [(10000,0,.row zb0 (ab eI v0))] (.tup []) [(10000,0,.row zb0 (ab eI res))]:=by
 refine co (hi:=Dy) func294 rfl rfl ?_
 unfold gu at h0
 obtain⟨q04,l0,h0⟩:=ae h0
 simp(config:=cS)only[go_sem, *]
 refine aj (m1:=.mk) (m2:=.mk) [.nf [0,2,3] [10000]] (nn zb0) l0 ?_ ?_
 ·simp(config:=cS)only[go_sem, *]
 have k0:=h0
 clear h0 l0
 intro _ s0 _ h0 gb0
 obtain⟨v2_1,v3_1,v0_1⟩:=s0
 unfold jn at h0
 try dsimp only at h0
 exact run
@[go_sem] def dU (round:Int)(v31:List ay)(v32 g_0:Int):(Int × Int × (List Int) × (List Int))→St
 | (changed,v33,numbers,last)=>⟨[(1,.ptr 64 1 0 0),(3,.ref 1216 1 0 numbers.length),(4,.ref 1472 1 0 last.length),(5,.lit (.int .i64 changed)),(6,.lit (.int .i64 round)),(31,.sl (ab ay.enc v31)),(32,.lit (.int .i64 v32)),(33,.lit (.int .i64 v33))],[(64,1,.var [.lit (.int .i64 g_0),.sl (ab ay.enc v31)]),(1216,1,.row true (ab eI numbers)),(1472,1,.row true (ab eI last))],2⟩
@[go_sem] def dV (g_0:Int)(g_1:List ay):(Int × Int × (List Int) × (List Int))→St
 | (changed,round,numbers,last)=>⟨[(1,.ptr 64 1 0 0),(3,.ref 1216 1 0 numbers.length),(4,.ref 1472 1 0 last.length),(5,.lit (.int .i64 changed)),(6,.lit (.int .i64 round))],[(64,1,.var [.lit (.int .i64 g_0),.sl (ab ay.enc g_1)]),(1216,1,.row true (ab eI numbers)),(1472,1,.row true (ab eI last))],2⟩
@[go_sem] def dW (g_0:Int)(g_1:List ay)(last:List Int):(Int × Int)→St
 | (node,i)=>⟨[(1,.ptr 64 1 0 0),(4,.ref 1472 1 0 last.length),(10,.lit (.int .i64 node)),(11,.lit (.int .i64 i))],[(64,1,.var [.lit (.int .i64 g_0),.sl (ab ay.enc g_1)]),(1472,1,.row true (ab eI last))],2⟩
@[go_sem] def dX (node g_0:Int)(g_1:List ay)(last:List Int):(Int × (List Int))→St
 | (at_,out)=>⟨[(1,.ptr 64 1 0 0),(4,.ref 1472 1 0 last.length),(10,.lit (.int .i64 node)),(12,.ref 831 1 0 out.length),(13,.lit (.int .i64 at_))],[(64,1,.var [.lit (.int .i64 g_0),.sl (ab ay.enc g_1)]),(1472,1,.row true (ab eI last)),(831,1,.row true (ab eI out))],2⟩
@[go_sem] def hi277_26:DT:=.r2 0 10 .nil
@[go_sem] def hi277_22:DT:=.r2 0 10 .nil
@[go_sem] def hi277_14:DT:=.r2 0 4 (.i1 4 (.i1 5 (.r2 6 4 (.i0 10 [4,5] (.r2 11 3 .nil)))))
@[go_sem] def hi277_12:DT:=.r2 0 9 .nil
@[go_sem] def hi277_3:DT:=.i1 0 (.i1 1 (.i1 4 (.i1 5 (.fork (.i0 2 [4,5] (.i0 3 [0,1,4,5] (.i0 6 [0,1] (.i2 7 (.i2 8 .nil))))) (.i0 3 [0,1,4,5] (.fork (.i0 2 [4,5] (.i0 6 [0,1] (.i2 7 (.i2 8 .nil)))) (.i0 6 [0,1] (.i0 2 [4,5] (.i2 7 (.i2 8 .nil))))))))))
def re:Hint where
 acts:=fun _=>[]
 draws:=fun
  | 3=>⟨hi277_3,[[],[0],[0,1],[],[],[4],[3,4,5],.range 7,.range 8],.range 9⟩
  | 12=>⟨hi277_12,[[],[],[1],[0,1,2],[0,1,2,3],[],[5],.range 7,.range 8],.range 9⟩
  | 14=>⟨hi277_14,[[],[],[1],[],[],[4],[],[],[],[0,1,2,6],[0,1,2,6,9],[0,1,2,3,4,5,6,7,9,10],[0,1,2,3,4,5,6,7,9,10,11],.range 13],[0,1,2,6,7,8,3,9,12,4,5,10,11,13]⟩
  | 22=>⟨hi277_22,[[],[0],[],[],[2,3],[2,3,4],.range 6,.range 7,.range 8,.range 9],.range 10⟩
  | 26=>⟨hi277_26,[[],[0],[],[],[2,3],[2,3,4],.range 6,.range 7,.range 8,.range 9],.range 10⟩
  | _=>⟨.nil,[],[]⟩
theorem JV (i:Nat):re.acts i=[]:=rfl
attribute[go_sem] JV ntmps277 results277
@[go_sem] theorem Wl:(re.draws 3).order=hi277_3:=rfl
@[go_sem] theorem Vu:(re.draws 12).order=hi277_12:=rfl
@[go_sem] theorem Vv:(re.draws 14).order=hi277_14:=rfl
@[go_sem] theorem Vw:(re.draws 22).order=hi277_22:=rfl
@[go_sem] theorem Vx:(re.draws 26).order=hi277_26:=rfl
instance k277 {g:GGraph}:Ctr (gv g) (fun (res:Option (List Int))=>ai prog 277 [.agg [.lit (.int .i64 g.nodes),.sl (ab ay.enc g.edges)]] [] (match res with|none=>.lit (.slice none 0 0)|some l=>.ref 20000 1 0 l.length) (match res with|none=>[]|some l=>[(20000,1,.row true (ab eI l))])):=⟨by
 intro res h0
 refine co (hi:=re) func277 rfl rfl ?_
 unfold gv at h0
 obtain⟨r01,g0,h0⟩:=ae h0
 simp(config:=cS)only[go_sem, *]
 have g0:=ctr g0
 refine af g0 ?_
 obtain⟨_,h0⟩|⟨_,h0⟩:=itB h0
 ·obtain⟨_,h0⟩:=ckP h0
  obtain⟨_,h0⟩:=ckP h0
  obtain⟨_,h0⟩:=ckP h0
  try simp(config:=cS)only[go_sem, *]
  refine bC ?_ ?_
  ·obtain⟨r02,g0,h0⟩:=ae h0
   simp(config:=cS)only[go_sem, *]
   have g0:=ctr g0
   refine af g0 ?_
   obtain⟨q18,l0,h0⟩:=ae h0
   simp(config:=cS)only[go_sem, *]
   refine aj (m1:=.mk) (m2:=.mk) [.nf [1,3,4,5,6] [64,1216,1472]] (dV g.nodes g.edges) l0 ?_ ?_
   ·simp(config:=cS)only[go_sem, *]
   have k0:=h0
   clear h0 l0
   intro _ s0 _ h0 gb0
   obtain⟨changed_1,round_1,numbers_1,last_1⟩:=s0
   unfold dg at h0
   try dsimp only at h0
   obtain⟨_,h0⟩|⟨_,h0⟩:=itP h0
   ·obtain⟨q07,l0,h0⟩:=ae h0
    simp(config:=cS)only[go_sem, *]
    refine aj (m1:=.mk) (m2:=.mk) [.nf [1,3,4,5,6,31,32,33] [64,1216,1472]] (dU round_1 g.edges (g.edges.length:Int) g.nodes) l0 ?_ ?_
    ·simp(config:=cS)only[go_sem, *]
    have k0:=h0
    clear h0 l0
    intro _ s0 _ h0 gb0
    obtain⟨changed_2,v33_2,numbers_2,last_2⟩:=s0
    unfold df at h0
    try dsimp only at h0
    exact run
   cases h0
   obtain rfl:=(aG gb0).symm
   clear gb0
   have h0:=k0
   clear k0
   try dsimp only at h0
   obtain⟨_,h0⟩|⟨_,h0⟩:=itP h0
   ·exact run
   obtain⟨x08,_,_,_,h0⟩:=gtI h0
   obtain⟨q17,l0,h0⟩:=ae h0
   simp(config:=cS)only[go_sem, *]
   refine aj (m1:=.mk) (m2:=.mk) [.nf [1,4,10,11] [64,1472]] (dW g.nodes g.edges last_1) l0 ?_ ?_
   ·simp(config:=cS)only[go_sem, *]
   have k0:=h0
   clear h0 l0
   intro _ s0 _ h0 gb0
   obtain⟨node_3,i_3⟩:=s0
   unfold dh at h0
   try dsimp only at h0
   obtain⟨_,h0⟩|⟨_,h0⟩:=itP h0
   ·exact run
   cases h0
   obtain rfl:=(aG gb0).symm
   clear gb0
   have h0:=k0
   clear k0
   try dsimp only at h0
   obtain⟨q16,l0,h0⟩:=ae h0
   simp(config:=cS)only[go_sem, *]
   refine aj (m1:=.mk) (m2:=.mk) [.home 12,.nf [1,4,10,12,13] [64,1472,831]] (dX node_3 g.nodes g.edges last_1) l0 ?_ ?_
   ·simp(config:=cS)only[go_sem, *]
   have k0:=h0
   clear h0 l0
   intro _ s0 _ h0 gb0
   obtain⟨at__4,out_4⟩:=s0
   unfold di at h0
   try dsimp only at h0
   obtain⟨_,h0⟩|⟨_,h0⟩:=itP h0
   ·exact run
   obtain⟨_,h0⟩|⟨_,h0⟩:=itP h0
   ·cases h0
    obtain rfl:=(aG gb0).symm
    clear gb0
    have h0:=k0
    clear k0
    try dsimp only at h0
    obtain⟨r13,g0,h0⟩:=ae h0
    simp(config:=cS)only[go_sem, *]
    refine af (gk g0) ?_
    exact run
   exact run
  try simp(config:=cS)only[go_sem, *]
  refine bC ?_ ?_
  ·obtain⟨r19,g0,h0⟩:=ae h0
   simp(config:=cS)only[go_sem, *]
   have g0:=ctr g0
   refine af g0 ?_
   obtain⟨q35,l0,h0⟩:=ae h0
   simp(config:=cS)only[go_sem, *]
   refine aj (m1:=.mk) (m2:=.mk) [.nf [1,3,4,5,6] [64,1216,1472]] (dV g.nodes g.edges) l0 ?_ ?_
   ·simp(config:=cS)only[go_sem, *]
   have k0:=h0
   clear h0 l0
   intro _ s0 _ h0 gb0
   obtain⟨changed_5,round_5,numbers_5,last_5⟩:=s0
   unfold dg at h0
   try dsimp only at h0
   obtain⟨_,h0⟩|⟨_,h0⟩:=itP h0
   ·obtain⟨q24,l0,h0⟩:=ae h0
    simp(config:=cS)only[go_sem, *]
    refine aj (m1:=.mk) (m2:=.mk) [.nf [1,3,4,5,6,31,32,33] [64,1216,1472]] (dU round_5 g.edges (g.edges.length:Int) g.nodes) l0 ?_ ?_
    ·simp(config:=cS)only[go_sem, *]
    have k0:=h0
    clear h0 l0
    intro _ s0 _ h0 gb0
    obtain⟨changed_6,v33_6,numbers_6,last_6⟩:=s0
    unfold df at h0
    try dsimp only at h0
    exact run
   cases h0
   obtain rfl:=(aG gb0).symm
   clear gb0
   have h0:=k0
   clear k0
   try dsimp only at h0
   obtain⟨_,h0⟩|⟨_,h0⟩:=itP h0
   ·exact run
   obtain⟨x25,_,_,_,h0⟩:=gtI h0
   obtain⟨q34,l0,h0⟩:=ae h0
   simp(config:=cS)only[go_sem, *]
   refine aj (m1:=.mk) (m2:=.mk) [.nf [1,4,10,11] [64,1472]] (dW g.nodes g.edges last_5) l0 ?_ ?_
   ·simp(config:=cS)only[go_sem, *]
   have k0:=h0
   clear h0 l0
   intro _ s0 _ h0 gb0
   obtain⟨node_7,i_7⟩:=s0
   unfold dh at h0
   try dsimp only at h0
   obtain⟨_,h0⟩|⟨_,h0⟩:=itP h0
   ·exact run
   cases h0
   obtain rfl:=(aG gb0).symm
   clear gb0
   have h0:=k0
   clear k0
   try dsimp only at h0
   obtain⟨q33,l0,h0⟩:=ae h0
   simp(config:=cS)only[go_sem, *]
   refine aj (m1:=.mk) (m2:=.mk) [.home 12,.nf [1,4,10,12,13] [64,1472,831]] (dX node_7 g.nodes g.edges last_5) l0 ?_ ?_
   ·simp(config:=cS)only[go_sem, *]
   have k0:=h0
   clear h0 l0
   intro _ s0 _ h0 gb0
   obtain⟨at__8,out_8⟩:=s0
   unfold di at h0
   try dsimp only at h0
   obtain⟨_,h0⟩|⟨_,h0⟩:=itP h0
   ·exact run
   obtain⟨_,h0⟩|⟨_,h0⟩:=itP h0
   ·cases h0
    obtain rfl:=(aG gb0).symm
    clear gb0
    have h0:=k0
    clear k0
    try dsimp only at h0
    obtain⟨r30,g0,h0⟩:=ae h0
    simp(config:=cS)only[go_sem, *]
    refine af (gk g0) ?_
    exact run
   exact run
  obtain⟨r36,g0,h0⟩:=ae h0
  simp(config:=cS)only[go_sem, *]
  have g0:=ctr g0
  refine af g0 ?_
  obtain⟨q52,l0,h0⟩:=ae h0
  simp(config:=cS)only[go_sem, *]
  refine aj (m1:=.mk) (m2:=.mk) [.nf [1,3,4,5,6] [64,1216,1472]] (dV g.nodes g.edges) l0 ?_ ?_
  ·simp(config:=cS)only[go_sem, *]
  have k0:=h0
  clear h0 l0
  intro _ s0 _ h0 gb0
  obtain⟨changed_9,round_9,numbers_9,last_9⟩:=s0
  unfold dg at h0
  try dsimp only at h0
  obtain⟨_,h0⟩|⟨_,h0⟩:=itP h0
  ·obtain⟨q41,l0,h0⟩:=ae h0
   simp(config:=cS)only[go_sem, *]
   refine aj (m1:=.mk) (m2:=.mk) [.nf [1,3,4,5,6,31,32,33] [64,1216,1472]] (dU round_9 g.edges (g.edges.length:Int) g.nodes) l0 ?_ ?_
   ·simp(config:=cS)only[go_sem, *]
   have k0:=h0
   clear h0 l0
   intro _ s0 _ h0 gb0
   obtain⟨changed_10,v33_10,numbers_10,last_10⟩:=s0
   unfold df at h0
   try dsimp only at h0
   exact run
  cases h0
  obtain rfl:=(aG gb0).symm
  clear gb0
  have h0:=k0
  clear k0
  try dsimp only at h0
  obtain⟨_,h0⟩|⟨_,h0⟩:=itP h0
  ·exact run
  obtain⟨x42,_,_,_,h0⟩:=gtI h0
  obtain⟨q51,l0,h0⟩:=ae h0
  simp(config:=cS)only[go_sem, *]
  refine aj (m1:=.mk) (m2:=.mk) [.nf [1,4,10,11] [64,1472]] (dW g.nodes g.edges last_9) l0 ?_ ?_
  ·simp(config:=cS)only[go_sem, *]
  have k0:=h0
  clear h0 l0
  intro _ s0 _ h0 gb0
  obtain⟨node_11,i_11⟩:=s0
  unfold dh at h0
  try dsimp only at h0
  obtain⟨_,h0⟩|⟨_,h0⟩:=itP h0
  ·exact run
  cases h0
  obtain rfl:=(aG gb0).symm
  clear gb0
  have h0:=k0
  clear k0
  try dsimp only at h0
  obtain⟨q50,l0,h0⟩:=ae h0
  simp(config:=cS)only[go_sem, *]
  refine aj (m1:=.mk) (m2:=.mk) [.home 12,.nf [1,4,10,12,13] [64,1472,831]] (dX node_11 g.nodes g.edges last_9) l0 ?_ ?_
  ·simp(config:=cS)only[go_sem, *]
  have k0:=h0
  clear h0 l0
  intro _ s0 _ h0 gb0
  obtain⟨at__12,out_12⟩:=s0
  unfold di at h0
  try dsimp only at h0
  obtain⟨_,h0⟩|⟨_,h0⟩:=itP h0
  ·exact run
  obtain⟨_,h0⟩|⟨_,h0⟩:=itP h0
  ·cases h0
   obtain rfl:=(aG gb0).symm
   clear gb0
   have h0:=k0
   clear k0
   try dsimp only at h0
   obtain⟨r47,g0,h0⟩:=ae h0
   simp(config:=cS)only[go_sem, *]
   refine af (gk g0) ?_
   exact run
  exact run
 exact run⟩
instance k272 {s:ap}:Ctr (gT s) (fun (res:Bool)=>ai prog 272 [.agg [.lit (.int .i64 s.events),.sl (ab aA.enc s.links)]] [] (.lit (.bool res)) []):=⟨by
 intro res h0
 refine co (hi:=hi00) func272 rfl rfl ?_
 unfold gT at h0
 obtain⟨r01,g0,h0⟩:=ae h0
 simp(config:=cS)only[go_sem, *]
 have g0:=ctr g0
 refine af g0 ?_
 obtain⟨_,h0⟩|⟨_,h0⟩:=itB h0
 ·obtain⟨r02,g0,h0⟩:=ae h0
  simp(config:=cS)only[go_sem, *]
  have g0:=ctr g0
  refine af g0 ?_
  obtain⟨r03,g0,h0⟩:=ae h0
  simp(config:=cS)only[go_sem, *]
  have g0:=ctr g0
  refine af g0 ?_
  obtain⟨l1004,_,h0⟩|⟨_,h0⟩:=xe h0
  ·exact run
  exact run
 exact run⟩
@[go_sem] def hP (round:Int)(v36:List ay)(v37 g_0:Int):(Bool × Int × (List Int) × (List Bool))→St
 | (changed,v38,out,known)=>⟨[(2,.ptr 128 1 0 0),(6,.ref 1664 1 0 out.length),(7,.ref 1856 1 0 known.length),(8,.lit (.int .i64 round)),(9,.lit (.bool changed)),(36,.sl (ab ay.enc v36)),(37,.lit (.int .i64 v37)),(38,.lit (.int .i64 v38))],[(128,1,.var [.lit (.int .i64 g_0),.sl (ab ay.enc v36)]),(1664,1,.row true (ab eI out)),(1856,1,.row true (ab eB known))],2⟩
@[go_sem] def hU (g_0:Int)(g_1:List ay):(Int × (List Int) × (List Bool))→St
 | (round,out,known)=>⟨[(2,.ptr 128 1 0 0),(6,.ref 1664 1 0 out.length),(7,.ref 1856 1 0 known.length),(8,.lit (.int .i64 round))],[(128,1,.var [.lit (.int .i64 g_0),.sl (ab ay.enc g_1)]),(1664,1,.row true (ab eI out)),(1856,1,.row true (ab eB known))],2⟩
@[go_sem] def hY (v89:Int)(known:List Bool):(Int × (List Int))→St
 | (v90,out)=>⟨[(6,.ref 1664 1 0 out.length),(7,.ref 1856 1 0 known.length),(89,.lit (.int .i64 v89)),(90,.lit (.int .i64 v90))],[(1664,1,.row true (ab eI out)),(1856,1,.row true (ab eB known))],2⟩
@[go_sem] def hi305_13:DT:=.r2 0 4 (.i1 4 (.i1 5 (.i2 6 (.i2 7 (.i0 8 [4,5] (.r2 9 3 .nil))))))
@[go_sem] def hi305_11:DT:=.r2 0 9 .nil
@[go_sem] def hi305_3:DT:=.i1 0 (.i1 1 (.i1 3 (.i1 4 (.fork (.i0 2 [3,4] (.i2 6 (.i0 5 [0,1] (.i2 7 .nil)))) (.i0 5 [0,1] (.i0 2 [3,4] (.i2 6 (.i2 7 .nil))))))))
def xw:Hint where
 acts:=fun _=>[]
 draws:=fun
  | 3=>⟨hi305_3,[[],[0],[0,1],[],[3],[3,4],[0,1,2],.range 7],.range 8⟩
  | 11=>⟨hi305_11,[[],[],[1],[0,1,2],[0,1,2,3],[],[5],.range 7,.range 8],.range 9⟩
  | 13=>⟨hi305_13,[[],[],[1],[],[],[4],[],[0,1,2,6],[0,1,2,6,7],.range 9,.range 10,.range 11],[0,1,2,6,7,8,3,4,5,9,10,11]⟩
  | _=>⟨.nil,[],[]⟩
theorem JW (i:Nat):xw.acts i=[]:=rfl
attribute[go_sem] JW ntmps305 results305
@[go_sem] theorem Wm:(xw.draws 3).order=hi305_3:=rfl
@[go_sem] theorem Vy:(xw.draws 11).order=hi305_11:=rfl
@[go_sem] theorem Vz:(xw.draws 13).order=hi305_13:=rfl
instance k305 {g:GGraph} {source:Int}:Ctr (gU g source) (fun (res:(List Int) × Bool)=>ai prog 305 [.agg [.lit (.int .i64 g.nodes),.sl (ab ay.enc g.edges)],.lit (.int .i64 source)] [] (.tup [.ref 20000 1 0 res.1.length,.lit (.bool res.2)]) [(20000,1,.row true (ab eI res.1))]):=⟨by
 intro res h0
 refine ao (ra:=[.home 4]) (md:=mdT) hT (hi:=xw) func305 rfl rfl (by decide +kernel) (by simp) ?_
 unfold gU at h0
 obtain⟨r01,g0,h0⟩:=ae h0
 simp(config:=cS)only[go_sem, *]
 have g0:=ctr g0
 refine af g0 ?_
 obtain⟨_,h0⟩|⟨_,h0⟩:=itB h0
 ·obtain⟨r02,g0,h0⟩:=ae h0
  simp(config:=cS)only[go_sem, *]
  have g0:=ctr g0
  refine af g0 ?_
  obtain⟨_,h0⟩|⟨_,h0⟩:=itB h0
  ·obtain⟨_,h0⟩:=ckP h0
   obtain⟨_,h0⟩:=ckP h0
   obtain⟨_,h0⟩:=ckP h0
   obtain⟨_,h0⟩:=ckP h0
   try simp(config:=cS)only[go_sem, *]
   refine bC ?_ ?_
   ·obtain⟨x03,_,_,_,h0⟩:=gtI h0
    obtain⟨q16,l0,h0⟩:=ae h0
    simp(config:=cS)only[go_sem, *]
    refine aj (m1:=.mk) (m2:=.mk) [.nf [2,6,7,8] [128,1664,1856]] (hU g.nodes g.edges) l0 ?_ ?_
    ·simp(config:=cS)only[go_sem, *]
    have k0:=h0
    clear h0 l0
    intro _ s0 _ h0 gb0
    obtain⟨round_1,out_1,known_1⟩:=s0
    unfold fD at h0
    try dsimp only at h0
    obtain⟨q15,l0,h0⟩:=ae h0
    simp(config:=cS)only[go_sem, *]
    refine aj (m1:=.mk) (m2:=.mk) [.nf [2,6,7,8,9,36,37,38] [128,1664,1856]] (hP round_1 g.edges (g.edges.length:Int) g.nodes) l0 ?_ ?_
    ·simp(config:=cS)only[go_sem, *]
    have k0:=h0
    clear h0 l0
    intro _ s0 _ h0 gb0
    obtain⟨changed_2,v38_2,out_2,known_2⟩:=s0
    unfold fC at h0
    try dsimp only at h0
    obtain⟨_,h0⟩|⟨_,h0⟩:=itP h0
    ·exact run
    cases h0
    obtain rfl:=(aG gb0).symm
    clear gb0
    have h0:=k0
    clear k0
    try dsimp only at h0
    obtain⟨_,h0⟩|⟨_,h0⟩:=itB h0
    ·exact run
    cases h0
    obtain rfl:=(aG gb0).symm
    clear gb0
    have h0:=k0
    clear k0
    try dsimp only at h0
    obtain⟨q14,l0,h0⟩:=ae h0
    simp(config:=cS)only[go_sem, *]
    refine aj (m1:=.mk) (m2:=.mk) [.nf [6,7,89,90] [1664,1856]] (hY (out_2.length:Int) known_2) l0 ?_ ?_
    ·simp(config:=cS)only[go_sem, *]
    have k0:=h0
    clear h0 l0
    intro _ s0 _ h0 gb0
    obtain⟨v90_3,out_3⟩:=s0
    unfold fE at h0
    try dsimp only at h0
    exact run
   obtain⟨x17,_,_,_,h0⟩:=gtI h0
   obtain⟨q30,l0,h0⟩:=ae h0
   simp(config:=cS)only[go_sem, *]
   refine aj (m1:=.mk) (m2:=.mk) [.nf [2,6,7,8] [128,1664,1856]] (hU g.nodes g.edges) l0 ?_ ?_
   ·simp(config:=cS)only[go_sem, *]
   have k0:=h0
   clear h0 l0
   intro _ s0 _ h0 gb0
   obtain⟨round_4,out_4,known_4⟩:=s0
   unfold fD at h0
   try dsimp only at h0
   obtain⟨q29,l0,h0⟩:=ae h0
   simp(config:=cS)only[go_sem, *]
   refine aj (m1:=.mk) (m2:=.mk) [.nf [2,6,7,8,9,36,37,38] [128,1664,1856]] (hP round_4 g.edges (g.edges.length:Int) g.nodes) l0 ?_ ?_
   ·simp(config:=cS)only[go_sem, *]
   have k0:=h0
   clear h0 l0
   intro _ s0 _ h0 gb0
   obtain⟨changed_5,v38_5,out_5,known_5⟩:=s0
   unfold fC at h0
   try dsimp only at h0
   obtain⟨_,h0⟩|⟨_,h0⟩:=itP h0
   ·exact run
   cases h0
   obtain rfl:=(aG gb0).symm
   clear gb0
   have h0:=k0
   clear k0
   try dsimp only at h0
   obtain⟨_,h0⟩|⟨_,h0⟩:=itB h0
   ·exact run
   cases h0
   obtain rfl:=(aG gb0).symm
   clear gb0
   have h0:=k0
   clear k0
   try dsimp only at h0
   obtain⟨q28,l0,h0⟩:=ae h0
   simp(config:=cS)only[go_sem, *]
   refine aj (m1:=.mk) (m2:=.mk) [.nf [6,7,89,90] [1664,1856]] (hY (out_5.length:Int) known_5) l0 ?_ ?_
   ·simp(config:=cS)only[go_sem, *]
   have k0:=h0
   clear h0 l0
   intro _ s0 _ h0 gb0
   obtain⟨v90_6,out_6⟩:=s0
   unfold fE at h0
   try dsimp only at h0
   exact run
  exact run
 exact run⟩
instance k270 {n:Int}:Ctr (fN n) (fun (res:Int)=>ai prog 270 [.lit (.int .i64 n)] [] (.lit (.int .i64 res)) []):=⟨by
 intro res h0
 refine co (hi:=hi00) func270 rfl rfl ?_
 unfold fN at h0
 exact run⟩
@[go_sem] def pC (i v33 g_0:Int)(g_1:List ay)(v32:List Int):(Int × (List Int))→St
 | (v34,h100016385)=>⟨[(1,.ptr 64 1 0 0),(2,.ptr 128 1 0 0),(4,.ptr 256 1 0 0),(5,.lit (.int .i64 i)),(32,.ref 1664 1 0 v32.length),(33,.lit (.int .i64 v33)),(34,.lit (.int .i64 v34))],[(64,1,.var [.lit (.int .i64 g_0),.sl (ab ay.enc g_1)]),(128,1,.var [.lit (.int .i64 0),.lit (.slice none 0 0)]),(256,1,.var [.lit (.int .i64 g_0),.ref 100016385 1 0 h100016385.length]),(100016385,1,.row true (ab eI h100016385)),(1664,1,.row true (ab eI v32))],2⟩
@[go_sem] def pD (g_0:Int)(g_1:List ay):(Int × (List Int))→St
 | (i,h100016385)=>⟨[(1,.ptr 64 1 0 0),(2,.ptr 128 1 0 0),(4,.ptr 256 1 0 0),(5,.lit (.int .i64 i))],[(64,1,.var [.lit (.int .i64 g_0),.sl (ab ay.enc g_1)]),(128,1,.var [.lit (.int .i64 0),.lit (.slice none 0 0)]),(256,1,.var [.lit (.int .i64 g_0),.ref 100016385 1 0 h100016385.length]),(100016385,1,.row true (ab eI h100016385))],2⟩
@[go_sem] def hi298_13:DT:=.i1 0 (.i1 1 (.i2 2 (.i0 3 [0,1] (.i0 4 [0,1] (.r2 5 3 .nil)))))
def Dz:Hint where
 acts:=fun _=>[]
 draws:=fun
  | 13=>⟨hi298_13,[[],[0],[],[2],[2,3],.range 5,.range 6,.range 7],.range 8⟩
  | _=>⟨.nil,[],[]⟩
theorem JX (i:Nat):Dz.acts i=[]:=rfl
attribute[go_sem] JX ntmps298 results298
@[go_sem] theorem VA:(Dz.draws 13).order=hi298_13:=rfl
instance k298 {g:GGraph}:Ctr (jH g) (fun (res:az × Bool)=>ai prog 298 [.agg [.lit (.int .i64 g.nodes),.sl (ab ay.enc g.edges)]] [] (.tup [.agg [.lit (.int .i64 res.1.size),.ref 20000 1 0 res.1.cells.length],.lit (.bool res.2)]) [(20000,1,.row true (ab eI res.1.cells))]):=⟨by
 intro res h0
 refine ao (ra:=[.homeCell 128 1]) (md:=mdT) hT (hi:=Dz) func298 rfl rfl (by decide +kernel) (by simp) ?_
 unfold jH at h0
 obtain⟨r01,g0,h0⟩:=ae h0
 simp(config:=cS)only[go_sem, *]
 have g0:=ctr g0
 refine af g0 ?_
 obtain⟨_,h0⟩|⟨_,h0⟩:=itB h0
 ·obtain⟨q06,l0,h0⟩:=ae h0
  simp(config:=cS)only[go_sem, *]
  refine aj (m1:=.mk) (m2:=.mk) [.homeCell 256 1,.nf [1,2,4,5] [64,128,256,100016385]] (pD g.nodes g.edges) l0 ?_ ?_
  ·simp(config:=cS)only[go_sem, *]
  have k0:=h0
  clear h0 l0
  intro _ s0 _ h0 gb0
  obtain⟨i_1,h100016385_1⟩:=s0
  unfold lr at h0
  try dsimp only at h0
  obtain⟨_,h0⟩|⟨_,h0⟩:=itP h0
  ·obtain⟨r02,g0,h0⟩:=ae h0
   simp(config:=cS)only[go_sem, *]
   have g0:=ctr g0
   refine af g0 ?_
   obtain⟨_,h0⟩|⟨_,h0⟩:=itB h0
   ·obtain⟨q05,l0,h0⟩:=ae h0
    simp(config:=cS)only[go_sem, *]
    refine aj (m1:=.mk) (m2:=.mk) [.homeCell 256 1,.nf [1,2,4,5,32,33,34] [64,128,256,100016385,1664]] (pC i_1 (r02.1.length:Int) g.nodes g.edges r02.1) l0 ?_ ?_
    ·simp(config:=cS)only[go_sem, *]
    have k0:=h0
    clear h0 l0
    intro _ s0 _ h0 gb0
    obtain⟨v34_2,h100016385_2⟩:=s0
    unfold lq at h0
    try dsimp only at h0
    exact run
   exact run
  exact run
 exact run⟩
@[go_sem] def rf (v25:List Int)(v26 t_0 v27:Int):St:=⟨[(1,.ptr 64 1 0 0),(25,.sl (ab eI v25)),(26,.lit (.int .i64 v26)),(27,.lit (.int .i64 v27))],[(64,1,.var [.lit (.int .i64 t_0),.sl (ab eI v25)])],2⟩
@[go_sem] def hi306_6:DT:=.r2 0 21 .nil
def DA:Hint where
 acts:=fun _=>[]
 draws:=fun
  | 6=>⟨hi306_6,[[],[0],[0,1],[0,1,2],[0,1,2,3],.range 5,.range 6,.range 7,.range 7,[0,1,2,3,4,5,6,8],.range 10,.range 7,.range 7,[0,1,2,3,4,5,6,12],[0,1,2,3,4,5,6,11,12,13],.range 15,.range 16,.range 17,.range 18,.range 19,.range 20],.range 21⟩
  | _=>⟨.nil,[],[]⟩
theorem JY (i:Nat):DA.acts i=[]:=rfl
attribute[go_sem] JY ntmps306 results306
@[go_sem] theorem Wn:(DA.draws 6).order=hi306_6:=rfl
instance k306 {t:az}:Ctr (mr t) (fun (res:Bool)=>ai prog 306 [.agg [.lit (.int .i64 t.size),.sl (ab eI t.cells)]] [] (.lit (.bool res)) []):=⟨by
 intro res h0
 refine co (hi:=DA) func306 rfl rfl ?_
 unfold mr at h0
 obtain⟨_,h0⟩|⟨_,h0⟩:=itP h0
 ·exact run
 obtain⟨_,h0⟩|⟨_,h0⟩:=itP h0
 ·exact run
 obtain⟨_,h0⟩|⟨_,h0⟩:=itP h0
 ·obtain⟨q02,l0,h0⟩:=ae h0
  simp(config:=cS)only[go_sem, *]
  refine aj (m1:=.mk) (m2:=.mk) [.nf [1,25,26,27] [64]] (rf t.cells (t.cells.length:Int) t.size) l0 ?_ ?_
  ·simp(config:=cS)only[go_sem, *]
  have k0:=h0
  clear h0 l0
  intro _ v27_1 _ h0 gb0
  unfold oh at h0
  try dsimp only at h0
  exact run
 exact run⟩
instance k308 {t:az} {i:Int} {k:Int}:Ctr (fO t i k) (fun (res:Int)=>ai prog 308 [.agg [.lit (.int .i64 t.size),.sl (ab eI t.cells)],.lit (.int .i64 i),.lit (.int .i64 k)] [] (.lit (.int .i64 res)) []):=⟨by
 intro res h0
 refine co (hi:=hi00) func308 rfl rfl ?_
 unfold fO at h0
 exact run⟩
instance k307 {i:ar} {ok:Bool}:Ctr (ms i ok) (fun (res:ar × Bool)=>ai prog 307 [.agg [.lit (.int .i64 i.low),.lit (.int .i64 i.high)],.lit (.bool ok)] [] (.tup [.agg [.lit (.int .i64 res.1.low),.lit (.int .i64 res.1.high)],.lit (.bool res.2)]) []):=⟨by
 intro res h0
 refine co (hi:=hi00) func307 rfl rfl ?_
 unfold ms at h0
 exact run⟩
end Go.Proofs.Qr
