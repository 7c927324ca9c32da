/- Functions. -/
import Derived.Test.YtpodkllkinpfmaaGreatDoorXmFK1
set_option linter.all false
set_option maxRecDepth 100000
set_option maxHeartbeats 4000000
namespace Go.Proofs.Qm
open Go Tryz
@[go_sem] def wB (v3_0 v3_1:List Int):(Int × Int × Bool × (List GNode) × (List GTie) × (List Int) × (List Int) × (List an))→St
 | (out_2,out_3,out_6,h704,h705,h706,h707,h708)=>⟨[(3,.ptr 192 1 0 0),(4,.ptr 256 1 0 0),(6,.ptr 384 1 0 0)],[(192,1,.var [.sl (ab eI v3_0),.sl (ab eI v3_1)]),(256,1,.var [.lit (.slice none 0 0),.lit (.slice none 0 0),.lit (.int .i64 0),.lit (.int .i64 0),.lit (.slice none 0 0),.lit (.slice none 0 0),.lit (.bool false),.lit (.slice none 0 0)]),(384,1,.var [.ref 704 1 0 h704.length,.ref 705 1 0 h705.length,.lit (.int .i64 out_2),.lit (.int .i64 out_3),.ref 706 1 0 h706.length,.ref 707 1 0 h707.length,.lit (.bool out_6),.ref 708 1 0 h708.length]),(704,1,.row true (ab GNode.encO h704)),(705,1,.row true (ab GTie.enc h705)),(706,1,.row true (ab eI h706)),(707,1,.row true (ab eI h707)),(708,1,.row true (ab an.encO h708))],2⟩
@[go_sem] def hi33_4:DT:=.i1 0 (.i1 1 (.i1 2 (.i1 3 (.i1 4 (.i1 5 (.i1 7 (.i1 8 (.fork (.i0 6 [0,7,8] (.fork (.i2 9 (.i2 10 (.i2 11 (.i2 12 (.i2 13 (.i0 14 [0,1,2,3,4,5,7,8] (.i2 15 (.i2 16 (.i2 17 .nil))))))))) (.i0 14 [0,1,2,3,4,5,7,8] (.i2 9 (.i2 10 (.i2 11 (.i2 12 (.i2 13 (.i2 15 (.i2 16 (.i2 17 .nil))))))))))) (.i0 14 [0,1,2,3,4,5,7,8] (.i0 6 [0,7,8] (.i2 9 (.i2 10 (.i2 11 (.i2 12 (.i2 13 (.i2 15 (.i2 16 (.i2 17 .nil))))))))))))))))))
def hi33:Hint where
 acts:=fun _=>[]
 draws:=fun
  | 4=>⟨hi33_4,[[],[],[1],[],[3],[],[1,2,3,4,5],[],[7],.range 9,.range 10,.range 11,.range 11,.range 11,[],[0,1,2,3,4,5,6,7,8,9,10,11,14],[0,1,2,3,4,5,6,7,8,9,10,11,12,14,15],.range 17],[0,1,2,3,4,5,6,7,8,9,10,11,14,16,12,13,15,17]⟩
  | _=>⟨.nil,[],[]⟩
theorem aau (i:Nat):hi33.acts i=[]:=rfl
attribute[go_sem] aau ntmps33 results33
@[go_sem] theorem adu:(hi33.draws 4).order=hi33_4:=rfl
instance k33 {d:GDesk} {v1:GChoice}:Ctr (mM d v1) (fun (res:GDesk × Int)=>aj prog 33 [.agg (GDesk.encS d),.agg [.sl (ab eI v1.lengths),.sl (ab eI v1.values)]] [] (.tup [.agg [.ref 20000 1 0 res.1.show_.nodes.length,.ref 20001 1 0 res.1.show_.ties.length,.lit (.int .i64 res.1.show_.horizon),.lit (.int .i64 res.1.state.now),.ref 20002 1 0 res.1.state.times.length,.ref 20003 1 0 res.1.state.values.length,.lit (.bool res.1.lazy),.ref 20004 1 0 res.1.log.length],.lit (.int .i64 res.2)]) [(20000,1,.row true (ab GNode.encO res.1.show_.nodes)),(20001,1,.row true (ab GTie.enc res.1.show_.ties)),(20002,1,.row true (ab eI res.1.state.times)),(20003,1,.row true (ab eI res.1.state.values)),(20004,1,.row true (ab an.encO res.1.log))]):=⟨by
 intro res h0
 refine aE (ra:=[.homeCell 256 0,.homeCell 256 1,.homeCell 256 4,.homeCell 256 5,.homeCell 256 7]) (md:=mdT) hT (hi:=hi33) func33 rfl rfl (by decide +kernel) (by simp) ?_
 unfold mM at h0
 obtain⟨r01,g0,h0⟩:=af h0
 simp(config:=cS)only[go_sem, *]
 have g0:=ctr g0
 refine ag g0 ?_
 obtain⟨r02,g0,h0⟩:=af h0
 simp(config:=cS)only[go_sem, *]
 have g0:=ctr g0
 refine ag g0 ?_
 obtain⟨_,h0⟩|⟨_,h0⟩:=itB h0
 ·obtain⟨r03,g0,h0⟩:=af h0
  simp(config:=cS)only[go_sem, *]
  have g0:=ctr g0
  refine ag g0 ?_
  obtain⟨_,h0⟩|⟨_,h0⟩:=itB h0
  ·obtain⟨q09,l0,h0⟩:=af h0
   simp(config:=cS)only[go_sem, *]
   refine ai (m1:=.mk) (m2:=.mk) [.nfp [3,4,6] [(192,192),(256,256),(384,384),(2112,704),(704,704),(2113,705),(705,705),(2114,706),(706,706),(2115,707),(707,707),(2116,708),(708,708)] []] (wB v1.lengths v1.values) l0 ?_ ?_
   ·simp(config:=cS)only[go_sem, *]
   have k0:=h0
   clear h0 l0
   intro _ s0 _ h0 gb0
   obtain⟨out_2_1,out_3_1,out_6_1,h704_1,h705_1,h706_1,h707_1,h708_1⟩:=s0
   unfold mr at h0
   try dsimp only at h0
   try simp(config:=cS)only[go_sem, *]
   refine dl ?_ ?_
   ·obtain⟨r04,g0,h0⟩:=af h0
    simp(config:=cS)only[go_sem, *]
    have g0:=ctr g0
    refine ag g0 ?_
    try simp(config:=cS)only[go_sem, *]
    refine dl ?_ ?_
    ·exact run
    exact run
   exact run
  exact run
 exact run⟩
attribute[go_sem] ntmps49 results49 ntmps271 results271 ntmps196 results196 ntmps274 results274 ntmps197 results197 ntmps95 results95 ntmps28 results28 ntmps233 results233 ntmps140 results140
instance k49 {s:GShow} {v1:GState}:Ctr (nK s v1) (fun (res:Bool)=>aj prog 49 [.agg (GShow.encS s),.agg (GState.encS v1)] [] (.lit (.bool res)) []):=⟨by
 intro res h0
 refine co (hi:=hi00) func49 rfl rfl ?_
 unfold nK at h0
 exact run⟩
instance k271 {n:Int}:Ctr (lL n) (fun (res:Bool)=>aj prog 271 [.lit (.int .i64 n)] [] (.lit (.bool res)) []):=⟨by
 intro res h0
 refine co (hi:=hi00) func271 rfl rfl ?_
 unfold lL at h0
 exact run⟩
instance k196 {s:GSimple} {times:List Int}:Ctr (jx s times) (fun (res:Bool)=>aj prog 196 [.agg [.lit (.int .i64 s.events),.sl (ab GLink.enc s.links)],.sl (ab eI times)] [] (.lit (.bool res)) []):=⟨by
 intro res h0
 refine co (hi:=hi00) func196 rfl rfl ?_
 unfold jx at h0
 obtain⟨r01,g0,h0⟩:=af h0
 simp(config:=cS)only[go_sem, *]
 have g0:=ctr g0
 refine ag g0 ?_
 obtain⟨_,h0⟩|⟨_,h0⟩:=itB h0
 ·obtain⟨_,h0⟩|⟨_,h0⟩:=itP h0
  ·obtain⟨r02,g0,h0⟩:=af h0
   simp(config:=cS)only[go_sem, *]
   refine ag (cn (by exact fun _ _ hr=>by have q:=ctr hr;exact q) (by refine⟨fun _=>?_,fun _=>?_⟩ <;> simp only[go_sem]) (fun _=>rfl) rfl g0) ?_
   exact run
  exact run
 exact run⟩
instance k274 {i:az} {n:Int}:Ctr (lM i n) (fun (res:Bool)=>aj prog 274 [.agg [.lit (.int .i64 i.low),.lit (.int .i64 i.high)],.lit (.int .i64 n)] [] (.lit (.bool res)) []):=⟨by
 intro res h0
 refine co (hi:=hi00) func274 rfl rfl ?_
 unfold lM at h0
 exact run⟩
@[go_sem] def hi273_1:DT:=.r2 0 16 .nil
def Kd:Hint where
 acts:=fun _=>[]
 draws:=fun
  | 1=>⟨hi273_1,[[],[0],[],[],[3],[2,3,4],[2,3,4,5],[],[],[8],[7,8,9],[7,8,9,10],[2,3,4,5,6,7,8,9,10,11],.range 13,.range 14,.range 15],.range 16⟩
  | _=>⟨.nil,[],[]⟩
theorem Zj (i:Nat):Kd.acts i=[]:=rfl
attribute[go_sem] Zj ntmps273 results273
@[go_sem] theorem adb:(Kd.draws 1).order=hi273_1:=rfl
instance k273 {l:GLink} {times:List Int}:Ctr (ki l times) (fun (res:Bool)=>aj prog 273 [.agg (GLink.enc l),.loc [.sl (ab eI times)]] [] (.lit (.bool res)) []):=⟨by
 intro res h0
 refine co (hi:=Kd) func273 rfl rfl ?_
 unfold ki at h0
 exact run⟩
instance k197 {s:GSimple} {times:List Int}:Ctr (ka s times) (fun (res:Int)=>aj prog 197 [.agg [.lit (.int .i64 s.events),.sl (ab GLink.enc s.links)],.sl (ab eI times)] [] (.lit (.int .i64 res)) []):=⟨by
 intro res h0
 refine co (hi:=hi00) func197 rfl rfl ?_
 unfold ka at h0
 obtain⟨r01,g0,h0⟩:=af h0
 simp(config:=cS)only[go_sem, *]
 have g0:=ctr g0
 refine ag g0 ?_
 obtain⟨_,h0⟩|⟨_,h0⟩:=itB h0
 ·obtain⟨r02,g0,h0⟩:=af h0
  simp(config:=cS)only[go_sem, *]
  refine ag (pf (by exact fun _ _ hr=>by have q:=ctr hr;exact q) (by refine⟨fun _=>?_,fun _=>?_⟩ <;> simp only[go_sem]) (fun _=>rfl) rfl g0) ?_
  exact run
 exact run⟩
instance k95 {s:GSimple} {times:List Int}:Ctr (kb s times) (fun (res:Bool)=>aj prog 95 [.agg [.lit (.int .i64 s.events),.sl (ab GLink.enc s.links)],.sl (ab eI times)] [] (.lit (.bool res)) []):=⟨by
 intro res h0
 refine co (hi:=hi00) func95 rfl rfl ?_
 unfold kb at h0
 obtain⟨r01,g0,h0⟩:=af h0
 simp(config:=cS)only[go_sem, *]
 have g0:=ctr g0
 refine ag g0 ?_
 obtain⟨_,h0⟩|⟨_,h0⟩:=itB h0
 ·obtain⟨x02,g1,h0⟩:=af h0
  have:=bD (k:=0) g1
  exact run
 exact run⟩
@[go_sem] def vi (v26:List Int)(v27:Int)(s_0:List GNode)(s_1:List GTie)(s_2:Int)(v4_0 v4_1:List Int):(Int × (List Int))→St
 | (v28,filled)=>⟨[(3,.ptr 192 1 0 0),(4,.ptr 256 1 0 0),(7,.ref 1600 1 0 filled.length),(26,.sl (ab eI v26)),(27,.lit (.int .i64 v27)),(28,.lit (.int .i64 v28))],[(192,1,.var [.sl (ab GNode.encS s_0),.sl (ab GTie.enc s_1),.lit (.int .i64 s_2)]),(256,1,.var [.sl (ab eI v4_0),.sl (ab eI v4_1)]),(1600,1,.row true (ab eI filled))],2⟩
instance k28 {s:GShow} {v1:GChoice} {times:List Int}:Ctr (lN s v1 times) (fun (res:Bool)=>aj prog 28 [.agg (GShow.encS s),.agg [.sl (ab eI v1.lengths),.sl (ab eI v1.values)],.sl (ab eI times)] [] (.lit (.bool res)) []):=⟨by
 intro res h0
 refine co (hi:=hi00) func28 rfl rfl ?_
 unfold lN at h0
 obtain⟨r01,g0,h0⟩:=af h0
 simp(config:=cS)only[go_sem, *]
 have g0:=ctr g0
 refine ag g0 ?_
 obtain⟨_,h0⟩|⟨_,h0⟩:=itB h0
 ·obtain⟨_,h0⟩|⟨_,h0⟩:=itP h0
  ·obtain⟨r02,g0,h0⟩:=af h0
   simp(config:=cS)only[go_sem, *]
   have g0:=ctr g0
   refine ag g0 ?_
   obtain⟨q08,l0,h0⟩:=af h0
   simp(config:=cS)only[go_sem, *]
   refine ai (m1:=.mk) (m2:=.mk) [.nf [3,4,7,26,27,28] [192,256,1600]] (vi times (times.length:Int) s.nodes s.ties s.horizon v1.lengths v1.values) l0 ?_ ?_
   ·simp(config:=cS)only[go_sem, *]
   have k0:=h0
   clear h0 l0
   intro _ s0 _ h0 gb0
   obtain⟨v28_1,filled_1⟩:=s0
   unfold fc at h0
   try dsimp only at h0
   obtain⟨_,h0⟩|⟨_,h0⟩:=itP h0
   ·obtain⟨x03,_,_,_,h0⟩:=gtI h0
    obtain⟨r04,g0,h0⟩:=af h0
    simp(config:=cS)only[go_sem, *]
    have g0:=ctr g0
    refine ag g0 ?_
    obtain⟨_,h0⟩|⟨_,h0⟩:=itP h0
    ·simp(config:=cS)only[go_sem, *]
     exact run
    exact run
   exact run
  exact run
 exact run⟩
instance k233 {n:Int}:Ctr (lO n) (fun (res:Bool)=>aj prog 233 [.lit (.int .i64 n)] [] (.lit (.bool res)) []):=⟨by
 intro res h0
 refine co (hi:=hi00) func233 rfl rfl ?_
 unfold lO at h0
 exact run⟩
instance k140 {s:GShow} {times:List Int}:Ctr (lP s times) (fun (res:Bool)=>aj prog 140 [.agg (GShow.encS s),.sl (ab eI times)] [] (.lit (.bool res)) []):=⟨by
 intro res h0
 refine co (hi:=hi00) func140 rfl rfl ?_
 unfold lP at h0
 obtain⟨r01,g0,h0⟩:=af h0
 simp(config:=cS)only[go_sem, *]
 have g0:=ctr g0
 refine ag g0 ?_
 obtain⟨_,h0⟩|⟨_,h0⟩:=itB h0
 ·obtain⟨_,h0⟩|⟨_,h0⟩:=itP h0
  ·obtain⟨r02,g0,h0⟩:=af h0
   simp(config:=cS)only[go_sem, *]
   refine ag (cn (by exact fun _ _ hr=>by have q:=ctr hr;exact q) (by refine⟨fun _=>?_,fun _=>?_⟩ <;> simp only[go_sem]) (fun _=>rfl) rfl g0) ?_
   exact run
  exact run
 exact run⟩
@[go_sem] def tU (times:List Int)(v15:List GTie)(v16:Int):(Int × (List Int))→St
 | (v17,out)=>⟨[(1,.sl (ab eI times)),(5,.ref 383 1 0 out.length),(15,.sl (ab GTie.enc v15)),(16,.lit (.int .i64 v16)),(17,.lit (.int .i64 v17))],[(383,1,.row true (ab eI out))],2⟩
@[go_sem] def hi50_7:DT:=.r2 0 12 .nil
def hi50:Hint where
 acts:=fun _=>[]
 draws:=fun
  | 7=>⟨hi50_7,[[],[],[1],[0,1,2],[0,1,2,3],[],[],[6],[5,6,7],[5,6,7,8],.range 5,.range 11],[0,1,2,3,4,6,7,8,9,10,5,11]⟩
  | _=>⟨.nil,[],[]⟩
theorem aaw (i:Nat):hi50.acts i=[]:=rfl
attribute[go_sem] aaw ntmps50 results50
@[go_sem] theorem adv:(hi50.draws 7).order=hi50_7:=rfl
instance k50 {s:GShow} {times:List Int}:Ctr (kc s times) (fun (res:List Int)=>aj prog 50 [.agg (GShow.encS s),.sl (ab eI times)] [] (.ref 20000 1 0 res.length) [(20000,1,.row true (ab eI res))]):=⟨by
 intro res h0
 refine aE (ra:=[.home 4]) (md:=mdT) hT (hi:=hi50) func50 rfl rfl (by decide +kernel) (by simp) ?_
 unfold kc at h0
 obtain⟨r01,g0,h0⟩:=af h0
 simp(config:=cS)only[go_sem, *]
 have g0:=ctr g0
 refine ag g0 ?_
 obtain⟨_,h0⟩|⟨_,h0⟩:=itB h0
 ·obtain⟨q05,l0,h0⟩:=af h0
  simp(config:=cS)only[go_sem, *]
  refine ai (m1:=.mk) (m2:=.mk) [.home 5,.nf [1,5,15,16,17] [383]] (tU times s.ties (s.ties.length:Int)) l0 ?_ ?_
  ·simp(config:=cS)only[go_sem, *]
  have k0:=h0
  clear h0 l0
  intro _ s0 _ h0 gb0
  obtain⟨v17_1,out_1⟩:=s0
  unfold gV at h0
  try dsimp only at h0
  exact run
 exact run⟩
@[go_sem] def hi6_12:DT:=.i1 0 (.i2 1 (.fork (.i0 2 [0] (.i2 3 (.i1 4 (.fork (.i2 5 (.i2 6 (.i2 7 (.i2 8 (.i0 9 [0,4] (.i2 10 (.i2 11 .nil))))))) (.i0 9 [0,4] (.i2 5 (.i2 6 (.i2 7 (.i2 8 (.i2 10 (.i2 11 .nil))))))))))) (.i0 9 [0] (.i0 2 [0] (.i2 3 (.i1 4 (.i2 5 (.i2 6 (.i2 7 (.i2 8 (.i2 10 (.i2 11 .nil))))))))))))
def hi6:Hint where
 acts:=fun _=>[]
 draws:=fun
  | 12=>⟨hi6_12,[[],[],[1],[1,2],[1,2,3],.range 5,.range 6,.range 7,.range 7,[],[0,1,2,3,4,5,6,7,9],.range 11],[0,1,2,3,4,5,6,7,10,8,9,11]⟩
  | _=>⟨.nil,[],[]⟩
theorem hi6a (i:Nat):hi6.acts i=[]:=rfl
attribute[go_sem] hi6a ntmps6 results6
@[go_sem] theorem adw:(hi6.draws 12).order=hi6_12:=rfl
theorem KO {code:List Int}{res:Bool}(h0:qu code=some res):aj prog 6 [.sl (ab (eK .u8) code)] [] (.lit (.bool res)) []:=by
 refine co (hi:=hi6) func6 rfl rfl ?_
 unfold qu at h0
 obtain⟨_,h0⟩|⟨_,h0⟩:=itP h0
 ·exact run
 obtain⟨r01,g0,h0⟩:=af h0
 simp(config:=cS)only[go_sem, *]
 have g0:=ctr g0
 refine ag g0 ?_
 obtain⟨r02,g0,h0⟩:=af h0
 simp(config:=cS)only[go_sem, *]
 have g0:=ctr g0
 refine ag g0 ?_
 obtain⟨_,h0⟩|⟨_,h0⟩:=itP h0
 ·obtain⟨r03,g0,h0⟩:=af h0
  simp(config:=cS)only[go_sem, *]
  have g0:=ctr g0
  refine ag g0 ?_
  obtain⟨_,h0⟩|⟨_,h0⟩:=itP h0
  ·exact run
  obtain⟨r06,g0,h0⟩:=af h0
  simp(config:=cS)only[go_sem, *]
  have g0:=ctr g0
  refine ag g0 ?_
  try simp(config:=cS)only[go_sem, *]
  refine dl ?_ ?_
  ·obtain⟨r07,g0,h0⟩:=af h0
   simp(config:=cS)only[go_sem, *]
   have g0:=ctr g0
   refine ag g0 ?_
   try simp(config:=cS)only[go_sem, *]
   refine dl ?_ ?_
   ·exact run
   exact run
  exact run
 exact run
end Go.Proofs.Qm
