/- Functions. -/
import Derived.Test.YtpodkllkinpfmaaGreatDoorXkFK1
set_option linter.all false
set_option maxRecDepth 100000
set_option maxHeartbeats 4000000
namespace Go.Proofs.Qk
open Go Tryz
@[go_sem] def uR (k:ByteArray)(v46 v3_0:Int)(v3_1 v3_2:List Int)(v45:List (List Int))(g_0:List GNode)(g_1:List GTie)(g_2:Int):(Int × (List (ByteArray × Bool)))→St
 | (v47,h10001)=>⟨[(0,.ptr 10000 0 0 0),(3,.ptr 192 1 0 0),(5,.lit (.string k)),(8,.lit (.bool true)),(45,.ref 2880 1 0 v45.length),(46,.lit (.int .i64 v46)),(47,.lit (.int .i64 v47))],[(10000,0,.var [.sl (ab GNode.encS g_0),.sl (ab GTie.enc g_1),.lit (.int .i64 g_2),.mp 10001 0]),(10001,0,.map (eM h10001)),(192,1,.var [.lit (.int .i64 v3_0),.sl (ab eI v3_1),.sl (ab eI v3_2)]),(2880,1,.tree (ab (eLS eI) v45))],2⟩
@[go_sem] def hi232_13:DT:=.r2 0 14 .nil
@[go_sem] def hi232_10:DT:=.r2 0 5 (.i2 7 (.i2 5 (.i2 6 .nil)))
@[go_sem] def hi232_3:DT:=.r2 0 7 .nil
@[go_sem] def hi232_1:DT:=.r2 0 7 .nil
def wU:Hint where
 acts:=fun _=>[]
 draws:=fun
  | 1=>⟨hi232_1,[[],[0],[0,1],[0,1,2],[],.range 5,.range 6],.range 7⟩
  | 3=>⟨hi232_3,[[],[0],[0,1],[0,1,2],[],.range 5,.range 6],.range 7⟩
  | 10=>⟨hi232_10,[[],[0],[0,1],[0,1,2],[],.range 5,.range 6,[]],.range 8⟩
  | 13=>⟨hi232_13,[[],[],[1],[1,2],[1,2,3],[],[],[1,2,3,4,5,6],.range 8,.range 9,.range 10,.range 10,.range 11,.range 13],[0,1,2,3,4,5,6,7,8,9,10,12,11,13]⟩
  | _=>⟨.nil,[],[]⟩
@[go_sem] theorem Wp (i:Nat):wU.acts i=[]:=rfl
theorem Wq (i:Nat):wU.views i=none:=rfl
attribute[go_sem] Wq ntmps232 results232
@[go_sem] theorem ZX:(wU.draws 1).order=hi232_1:=rfl
@[go_sem] theorem ZY:(wU.draws 3).order=hi232_3:=rfl
@[go_sem] theorem Yu:(wU.draws 10).order=hi232_10:=rfl
@[go_sem] theorem Yv:(wU.draws 13).order=hi232_13:=rfl
theorem yJ {rec:GShow→(List (ByteArray × Bool))→GState→Option (Bool × (List (ByteArray × Bool)))}(hrec:∀ {g_s:GShow} {g_known:List (ByteArray × Bool)} {v1:GState} {res:Bool × (List (ByteArray × Bool))},rec g_s g_known v1=some res→ak prog 232 [.ptr 10000 0 0 0,.agg (GState.encS v1)] [(10000,0,.var [.sl (ab GNode.encS g_s.nodes),.sl (ab GTie.enc g_s.ties),.lit (.int .i64 g_s.horizon),.mp 10001 0]),(10001,0,.map (eM g_known))] (.lit (.bool res.1)) [(10000,0,.var [.sl (ab GNode.encS g_s.nodes),.sl (ab GTie.enc g_s.ties),.lit (.int .i64 g_s.horizon),.mp 10001 0]),(10001,0,.map (eM res.2))]){g_s:GShow}{g_known:List (ByteArray × Bool)}{v1:GState}{res:Bool × (List (ByteArray × Bool))}(h:jv rec g_s g_known v1=some res):ak prog 232 [.ptr 10000 0 0 0,.agg (GState.encS v1)] [(10000,0,.var [.sl (ab GNode.encS g_s.nodes),.sl (ab GTie.enc g_s.ties),.lit (.int .i64 g_s.horizon),.mp 10001 0]),(10001,0,.map (eM g_known))] (.lit (.bool res.1)) [(10000,0,.var [.sl (ab GNode.encS g_s.nodes),.sl (ab GTie.enc g_s.ties),.lit (.int .i64 g_s.horizon),.mp 10001 0]),(10001,0,.map (eM res.2))]:=by
 refine co (hi:=wU) func232 rfl rfl ?_
 unfold jv at h
 obtain⟨r01,g1,h⟩:=af h
 simp(config:=cS)only[go_sem]
 have g1:=ctr g1
 refine aj g1 ?_
 obtain⟨h2,h⟩|⟨h2,h⟩:=aP h
 ·cases h
  simp(config:=cS)only[go_sem,eZt h2]
 obtain⟨r02,g3,h⟩:=af h
 simp(config:=cS)only[go_sem,eZf h2]
 have g3:=ctr g3
 refine aj g3 ?_
 obtain⟨h4,h⟩|⟨h4,h⟩:=aP h
 ·cases h
  simp(config:=cS)only[go_sem,eZf h2,eZt h4]
 obtain⟨r03,g5,h⟩:=af h
 simp(config:=cS)only[go_sem,eZf h2,eZf h4]
 have g5:=ctr g5
 refine aj g5 ?_
 obtain⟨x04,g6,h8⟩|⟨g7,h8⟩:=DE h
 ·cases h8
  simp(config:=cS)only[go_sem,eZf h2,eZf h4,g6]
 obtain⟨r05,g9,h8⟩:=af h8
 simp(config:=cS)only[go_sem,eZf h2,eZf h4,g7]
 have g9:=ctr g9
 refine aj g9 ?_
 obtain⟨q09,l10,h8⟩:=af h8
 simp(config:=cS)only[go_sem,eZf h2,eZf h4,g7]
 refine ah (m1:=.mk) (m2:=.mk) [.freeze [2880],.nf [0,3,5,8,45,46,47] [10000,10001,192,2880]] (uR r03 (r05.length:Int) v1.now v1.times v1.values r05 g_s.nodes g_s.ties g_s.horizon) l10 ?_ ?_
 ·simp(config:=cS)only[go_sem,eZf h2,eZf h4,g7]
 intro nb11 sb11 bb11 b11 gb11
 obtain⟨v47_1,h10001_1⟩:=sb11
 unfold iz at b11
 try dsimp only at b11
 obtain⟨h12,b11⟩|⟨h12,b11⟩:=aP b11
 ·obtain⟨x06,g13,b11⟩:=af b11
  obtain⟨h14,h15,h16⟩:=dO g13
  obtain⟨r07,g17,b11⟩:=af b11
  simp(config:=cS)only[go_sem,eZf h2,eZf h4,g7,eqT h12,h14,h15,h16]
  have g17:=ctr g17
  refine aj g17 ?_
  obtain⟨r08,g18,b11⟩:=af b11
  simp(config:=cS)only[go_sem,eZf h2,eZf h4,g7,eqT h12,h14,h15,h16]
  refine aj (xU @hrec g18) ?_
  obtain⟨h19,b11⟩|⟨h19,b11⟩:=aP b11
  ·cases b11
   simp(config:=cS)only[go_sem,eZf h2,eZf h4,g7,eqT h12,h14,h15,h16,eZt h19]
   refine fA gb11 ?_
   simp(config:=cS)only[go_sem,eZf h2,eZf h4,g7,eqT h12,h14,h15,h16,eZt h19]
  cases b11
  obtain rfl:=(aD gb11).symm
  try dsimp only at h8
  cases h8
  simp(config:=cS)only[go_sem,eZf h2,eZf h4,g7,eqT h12,h14,h15,h16,eZf h19]
 cases b11
 obtain rfl:=(aD gb11).symm
 try dsimp only at h8
 cases h8
 simp(config:=cS)only[go_sem,eZf h2,eZf h4,g7,eqF h12]
theorem vE (fu:Nat):∀ {g_s:GShow} {g_known:List (ByteArray × Bool)} {v1:GState} {res:Bool × (List (ByteArray × Bool))},jG fu g_s g_known v1=some res→ak prog 232 [.ptr 10000 0 0 0,.agg (GState.encS v1)] [(10000,0,.var [.sl (ab GNode.encS g_s.nodes),.sl (ab GTie.enc g_s.ties),.lit (.int .i64 g_s.horizon),.mp 10001 0]),(10001,0,.map (eM g_known))] (.lit (.bool res.1)) [(10000,0,.var [.sl (ab GNode.encS g_s.nodes),.sl (ab GTie.enc g_s.ties),.lit (.int .i64 g_s.horizon),.mp 10001 0]),(10001,0,.map (eM res.2))]:=by
 induction fu with
 | zero=>intro _ _ _ _ h;cases h
 | succ fu ih=>intro _ _ _ _ h;exact yJ (@ih) h
theorem Ch {g_s:GShow}{g_known:List (ByteArray × Bool)}{v1:GState}{res:Bool × (List (ByteArray × Bool))}(h:m_impl_game_wins g_s g_known v1=some res):ak prog 232 [.ptr 10000 0 0 0,.agg (GState.encS v1)] [(10000,0,.var [.sl (ab GNode.encS g_s.nodes),.sl (ab GTie.enc g_s.ties),.lit (.int .i64 g_s.horizon),.mp 10001 0]),(10001,0,.map (eM g_known))] (.lit (.bool res.1)) [(10000,0,.var [.sl (ab GNode.encS g_s.nodes),.sl (ab GTie.enc g_s.ties),.lit (.int .i64 g_s.horizon),.mp 10001 0]),(10001,0,.map (eM res.2))]:=vE 40 h
@[go_sem] def hi287_1:DT:=.r2 0 5 (.i1 6 (.i0 5 [6] (.r2 7 3 .nil)))
def II:Hint where
 acts:=fun _=>[]
 draws:=fun
  | 1=>⟨hi287_1,[[],[],[0,1],[0,1,2],[0,1,2,3],.range 5,[0,1,2,3],.range 7,.range 8,.range 9],.range 10⟩
  | _=>⟨.nil,[],[]⟩
theorem Wr (i:Nat):II.acts i=[]:=rfl
theorem Ws (i:Nat):II.views i=none:=rfl
attribute[go_sem] Wr Ws ntmps287 results287
@[go_sem] theorem ZZ:(II.draws 1).order=hi287_1:=rfl
instance k287 {s:GShow} {v1:GState}:Ctr (nU s v1) (fun (res:Bool)=>ak prog 287 [.agg (GShow.encS s),.agg (GState.encS v1)] [] (.lit (.bool res)) []):=⟨by
 intro res h0
 refine co (hi:=II) func287 rfl rfl ?_
 unfold nU at h0
 obtain⟨r01,g0,h0⟩:=af h0
 simp(config:=cS)only[go_sem, *]
 have g0:=ctr g0
 refine aj g0 ?_
 obtain⟨_,h0⟩|⟨_,h0⟩:=itB h0
 ·obtain⟨r02,g0,h0⟩:=af h0
  simp(config:=cS)only[go_sem, *]
  have g0:=ctr g0
  refine aj g0 ?_
  obtain⟨r03,g0,h0⟩:=af h0
  simp(config:=cS)only[go_sem, *]
  refine aj (Ch g0) ?_
  exact run
 exact run⟩
@[go_sem] def hi217_1:DT:=.i1 0 (.i2 1 (.i0 2 [0] (.i2 3 (.i2 4 .nil))))
def IJ:Hint where
 acts:=fun _=>[]
 draws:=fun
  | 1=>⟨hi217_1,[[],[],[1],[0,1,2],[0,1,2,3]],.range 5⟩
  | _=>⟨.nil,[],[]⟩
theorem Wt (i:Nat):IJ.acts i=[]:=rfl
theorem Wu (i:Nat):IJ.views i=none:=rfl
attribute[go_sem] Wt Wu ntmps217 results217
@[go_sem] theorem aaa:(IJ.draws 1).order=hi217_1:=rfl
instance k217 {s:GShow}:Ctr (lj s) (fun (res:Bool)=>ak prog 217 [.agg (GShow.encS s)] [] (.lit (.bool res)) []):=⟨by
 intro res h0
 refine co (hi:=IJ) func217 rfl rfl ?_
 unfold lj at h0
 exact run⟩
@[go_sem] def vF (v7:List GTie)(v8:Int):(Int × (List Int))→St
 | (v9,out)=>⟨[(3,.ref 255 1 0 out.length),(7,.sl (ab GTie.enc v7)),(8,.lit (.int .i64 v8)),(9,.lit (.int .i64 v9))],[(255,1,.row true (ab eI out))],2⟩
attribute[go_sem] ntmps87 results87 ntmps90 results90 ntmps252 results252 ntmps110 results110 ntmps113 results113 ntmps68 results68 ntmps37 results37 ntmps218 results218 ntmps115 results115 ntmps45 results45 ntmps244 results244 ntmps56 results56
instance k87 {s:GShow}:Ctr (eQ s) (fun (res:List Int)=>ak prog 87 [.agg (GShow.encS s)] [] (.ref 20000 1 0 res.length) [(20000,1,.row true (ab eI res))]):=⟨by
 intro res h0
 refine aB (ra:=[.home 2]) (md:=mdT) hT (hi:=hi00) func87 rfl rfl (by decide +kernel) (by simp) ?_
 unfold eQ at h0
 obtain⟨q02,l0,h0⟩:=af h0
 simp(config:=cS)only[go_sem, *]
 refine ah (m1:=.mk) (m2:=.mk) [.home 3,.nf [3,7,8,9] [255]] (vF s.ties (s.ties.length:Int)) l0 ?_ ?_
 ·simp(config:=cS)only[go_sem, *]
 have k0:=h0
 clear h0 l0
 intro _ s0 _ h0 gb0
 obtain⟨v9_1,out_1⟩:=s0
 unfold jw at h0
 try dsimp only at h0
 exact run⟩
@[go_sem] def sJ (v12:Int)(s_0:List GNode)(s_1:List GTie)(s_2:Int)(v11:List Int):(Int × Int)→St
 | (n,v13)=>⟨[(1,.ptr 64 1 0 0),(3,.lit (.int .i64 n)),(11,.ref 704 1 0 v11.length),(12,.lit (.int .i64 v12)),(13,.lit (.int .i64 v13))],[(64,1,.var [.sl (ab GNode.encS s_0),.sl (ab GTie.enc s_1),.lit (.int .i64 s_2)]),(704,1,.row true (ab eI v11))],2⟩
@[go_sem] def sK (s_0:List GNode)(s_1:List GTie)(s_2:Int):(Int × Int)→St
 | (n,p)=>⟨[(1,.ptr 64 1 0 0),(3,.lit (.int .i64 n)),(6,.lit (.int .i64 p))],[(64,1,.var [.sl (ab GNode.encS s_0),.sl (ab GTie.enc s_1),.lit (.int .i64 s_2)])],2⟩
@[go_sem] def hi25_7:DT:=.r2 0 17 .nil
def hi25:Hint where
 acts:=fun _=>[]
 draws:=fun
  | 7=>⟨hi25_7,[[],[],[1],[],[1,2,3],[1,2,3,4],[1,2,3,4,5],[],[7],[],[7,8,9],[7,8,9,10],[7,8,9,10,11],[1,2,3,4,5,6,7,8,9,10,11,12],[1,2,3,4,5,6,7,8,9,10,11,12,13],.range 15,.range 16],.range 17⟩
  | _=>⟨.nil,[],[]⟩
theorem Xz (i:Nat):hi25.acts i=[]:=rfl
theorem XA (i:Nat):hi25.views i=none:=rfl
attribute[go_sem] Xz XA ntmps25 results25
@[go_sem] theorem aaz:(hi25.draws 7).order=hi25_7:=rfl
instance k25 {s:GShow}:Ctr (iA s) (fun (res:Int)=>ak prog 25 [.agg (GShow.encS s)] [] (.lit (.int .i64 res)) []):=⟨by
 intro res h0
 refine co (hi:=hi25) func25 rfl rfl ?_
 unfold iA at h0
 obtain⟨r01,g0,h0⟩:=af h0
 simp(config:=cS)only[go_sem, *]
 have g0:=ctr g0
 refine aj g0 ?_
 obtain⟨_,h0⟩|⟨_,h0⟩:=itB h0
 ·obtain⟨r02,g0,h0⟩:=af h0
  simp(config:=cS)only[go_sem, *]
  have g0:=ctr g0
  refine aj g0 ?_
  obtain⟨q07,l0,h0⟩:=af h0
  simp(config:=cS)only[go_sem, *]
  refine ah (m1:=.mk) (m2:=.mk) [.nf [1,3,11,12,13] [64,704]] (sJ (r02.length:Int) s.nodes s.ties s.horizon r02) l0 ?_ ?_
  ·simp(config:=cS)only[go_sem, *]
  have k0:=h0
  clear h0 l0
  intro _ s0 _ h0 gb0
  obtain⟨n_1,v13_1⟩:=s0
  unfold mq at h0
  try dsimp only at h0
  obtain⟨_,h0⟩|⟨_,h0⟩:=itP h0
  ·exact run
  cases h0
  obtain rfl:=(aD gb0).symm
  clear gb0
  have h0:=k0
  clear k0
  try dsimp only at h0
  obtain⟨q06,l0,h0⟩:=af h0
  simp(config:=cS)only[go_sem, *]
  refine ah (m1:=.mk) (m2:=.mk) [.nf [1,3,6] [64]] (sK s.nodes s.ties s.horizon) l0 ?_ ?_
  ·simp(config:=cS)only[go_sem, *]
  have k0:=h0
  clear h0 l0
  intro _ s0 _ h0 gb0
  obtain⟨n_2,p_2⟩:=s0
  unfold fe at h0
  try dsimp only at h0
  exact run
 exact run⟩
@[go_sem] def vG (v13:Int)(s_0:List GNode)(s_1:List GTie)(s_2:Int)(v12:List Int):(Int × Int × (List Int))→St
 | (n,v14,h100020480)=>⟨[(1,.lit (.int .i64 n)),(2,.ptr 128 1 0 0),(4,.ptr 256 1 0 0),(5,.ptr 320 1 0 0),(12,.ref 768 1 0 v12.length),(13,.lit (.int .i64 v13)),(14,.lit (.int .i64 v14))],[(128,1,.var [.sl (ab GNode.encS s_0),.sl (ab GTie.enc s_1),.lit (.int .i64 s_2)]),(256,1,.var [.lit (.slice none 0 0),.lit (.slice none 0 0)]),(320,1,.var [.ref 100020480 1 0 h100020480.length,.lit (.slice none 0 0)]),(100020480,1,.row true (ab eI h100020480)),(768,1,.row true (ab eI v12))],2⟩
@[go_sem] def vH (s_0:List GNode)(s_1:List GTie)(s_2:Int)(h100020480:List Int):(Int × Int × (List Int))→St
 | (n,p,h100020481)=>⟨[(1,.lit (.int .i64 n)),(2,.ptr 128 1 0 0),(4,.ptr 256 1 0 0),(5,.ptr 320 1 0 0),(9,.lit (.int .i64 p))],[(128,1,.var [.sl (ab GNode.encS s_0),.sl (ab GTie.enc s_1),.lit (.int .i64 s_2)]),(256,1,.var [.lit (.slice none 0 0),.lit (.slice none 0 0)]),(320,1,.var [.ref 100020480 1 0 h100020480.length,.ref 100020481 1 0 h100020481.length]),(100020480,1,.row true (ab eI h100020480)),(100020481,1,.row true (ab eI h100020481))],2⟩
@[go_sem] def hi89_6:DT:=.i1 0 (.i1 1 (.r2 2 10 (.i0 12 [0,1] (.r2 13 3 .nil))))
@[go_sem] def hi89_5:DT:=.r2 0 15 .nil
def hi89:Hint where
 acts:=fun _=>[]
 draws:=fun
  | 5=>⟨hi89_5,[[],[0],[],[0,1,2],[0,1,2,3],.range 5,[],[6],[],[6,7,8],[6,7,8,9],[6,7,8,9,10],.range 12,.range 13,.range 14],.range 15⟩
  | 6=>⟨hi89_6,[[],[0],[],[2],[],[2,3,4],[2,3,4,5],[2,3,4,5,6],[],[],[8,9],[2,3,4,5,6,7,8,9,10],[2,3,4,5,6,7,8,9,10,11],.range 13,.range 14,.range 15],.range 16⟩
  | _=>⟨.nil,[],[]⟩
theorem XB (i:Nat):hi89.acts i=[]:=rfl
theorem XC (i:Nat):hi89.views i=none:=rfl
attribute[go_sem] XB XC ntmps89 results89
@[go_sem] theorem aaA:(hi89.draws 5).order=hi89_5:=rfl
@[go_sem] theorem aaB:(hi89.draws 6).order=hi89_6:=rfl
instance k89 {s:GShow} {n:Int}:Ctr (cw s n) (fun (res:GChoice)=>ak prog 89 [.agg (GShow.encS s),.lit (.int .i64 n)] [] (.agg [.ref 20000 1 0 res.lengths.length,.ref 20001 1 0 res.values.length]) [(20000,1,.row true (ab eI res.lengths)),(20001,1,.row true (ab eI res.values))]):=⟨by
 intro res h0
 refine aB (ra:=[.homeCell 256 0,.homeCell 256 1]) (md:=mdT) hT (hi:=hi89) func89 rfl rfl (by decide +kernel) (by simp) ?_
 unfold cw at h0
 obtain⟨r01,g0,h0⟩:=af h0
 simp(config:=cS)only[go_sem, *]
 have g0:=ctr g0
 refine aj g0 ?_
 obtain⟨q06,l0,h0⟩:=af h0
 simp(config:=cS)only[go_sem, *]
 refine ah (m1:=.mk) (m2:=.mk) [.homeCell 320 0,.nf [1,2,4,5,12,13,14] [128,256,320,100020480,768]] (vG (r01.length:Int) s.nodes s.ties s.horizon r01) l0 ?_ ?_
 ·simp(config:=cS)only[go_sem, *]
 have k0:=h0
 clear h0 l0
 intro _ s0 _ h0 gb0
 obtain⟨n_1,v14_1,h100020480_1⟩:=s0
 unfold ma at h0
 try dsimp only at h0
 obtain⟨_,h0⟩|⟨_,h0⟩:=itP h0
 ·exact run
 cases h0
 obtain rfl:=(aD gb0).symm
 clear gb0
 have h0:=k0
 clear k0
 try dsimp only at h0
 obtain⟨q05,l0,h0⟩:=af h0
 simp(config:=cS)only[go_sem, *]
 refine ah (m1:=.mk) (m2:=.mk) [.homeCell 320 1,.nf [1,2,4,5,9] [128,256,320,100020480,100020481]] (vH s.nodes s.ties s.horizon h100020480_1) l0 ?_ ?_
 ·simp(config:=cS)only[go_sem, *]
 have k0:=h0
 clear h0 l0
 intro _ s0 _ h0 gb0
 obtain⟨n_2,p_2,h100020481_2⟩:=s0
 unfold jx at h0
 try dsimp only at h0
 exact run⟩
@[go_sem] def vI (v25:Int)(s_0:List GNode)(s_1:List GTie)(s_2:Int)(v3_0 v3_1 v24:List Int)(v26:Int):St:=⟨[(2,.ptr 128 1 0 0),(3,.ptr 192 1 0 0),(24,.ref 704 1 0 v24.length),(25,.lit (.int .i64 v25)),(26,.lit (.int .i64 v26))],[(128,1,.var [.sl (ab GNode.encS s_0),.sl (ab GTie.enc s_1),.lit (.int .i64 s_2)]),(192,1,.var [.sl (ab eI v3_0),.sl (ab eI v3_1)]),(704,1,.row true (ab eI v24))],2⟩
@[go_sem] def vJ (v59:List Int)(v60:Int)(s_0:List GNode)(s_1:List GTie)(s_2 v61:Int):St:=⟨[(2,.ptr 128 1 0 0),(59,.sl (ab eI v59)),(60,.lit (.int .i64 v60)),(61,.lit (.int .i64 v61))],[(128,1,.var [.sl (ab GNode.encS s_0),.sl (ab GTie.enc s_1),.lit (.int .i64 s_2)])],2⟩
@[go_sem] def hi103_7:DT:=.r2 0 26 .nil
def IK:Hint where
 acts:=fun _=>[]
 draws:=fun
  | 7=>⟨hi103_7,[[],[0],[],[0,1,2],[0,1,2,3],[],[5],[],[5,6,7],[5,6,7,8],[5,6,7,8,9],.range 11,.range 12,.range 13,.range 14,.range 13,.range 16,.range 17,.range 13,[0,1,2,3,4,5,6,7,8,9,10,11,12,18],.range 13,[0,1,2,3,4,5,6,7,8,9,10,11,12,18,19,20],[0,1,2,3,4,5,6,7,8,9,10,11,12,18,19,20,21],[0,1,2,3,4,5,6,7,8,9,10,11,12,18,19,20,21,22],.range 24,.range 25],.range 26⟩
  | _=>⟨.nil,[],[]⟩
theorem Wv (i:Nat):IK.acts i=[]:=rfl
theorem Ww (i:Nat):IK.views i=none:=rfl
attribute[go_sem] Wv Ww ntmps103 results103
@[go_sem] theorem aab:(IK.draws 7).order=hi103_7:=rfl
instance k103 {s:GShow} {v1:GChoice}:Ctr (mb s v1) (fun (res:Bool)=>ak prog 103 [.agg (GShow.encS s),.agg [.sl (ab eI v1.lengths),.sl (ab eI v1.values)]] [] (.lit (.bool res)) []):=⟨by
 intro res h0
 refine co (hi:=IK) func103 rfl rfl ?_
 unfold mb at h0
 obtain⟨r01,g0,h0⟩:=af h0
 simp(config:=cS)only[go_sem, *]
 have g0:=ctr g0
 refine aj g0 ?_
 obtain⟨_,h0⟩|⟨_,h0⟩:=itP h0
 ·obtain⟨_,h0⟩|⟨_,h0⟩:=itP h0
  ·obtain⟨q09,l0,h0⟩:=af h0
   simp(config:=cS)only[go_sem, *]
   refine ah (m1:=.mk) (m2:=.mk) [.nf [2,3,24,25,26] [128,192,704]] (vI (r01.length:Int) s.nodes s.ties s.horizon v1.lengths v1.values r01) l0 ?_ ?_
   ·simp(config:=cS)only[go_sem, *]
   have k0:=h0
   clear h0 l0
   intro _ v26_1 _ h0 gb0
   unfold gd at h0
   try dsimp only at h0
   obtain⟨_,h0⟩|⟨_,h0⟩:=itP h0
   ·exact run
   cases h0
   obtain rfl:=(aD gb0).symm
   clear gb0
   have h0:=k0
   clear k0
   try dsimp only at h0
   obtain⟨q08,l0,h0⟩:=af h0
   simp(config:=cS)only[go_sem, *]
   refine ah (m1:=.mk) (m2:=.mk) [.nf [2,59,60,61] [128]] (vJ v1.values (v1.values.length:Int) s.nodes s.ties s.horizon) l0 ?_ ?_
   ·simp(config:=cS)only[go_sem, *]
   have k0:=h0
   clear h0 l0
   intro _ v61_2 _ h0 gb0
   unfold gg at h0
   try dsimp only at h0
   exact run
  exact run
 exact run⟩
instance k90 {s:GShow} {v1:GChoice}:Ctr (mc s v1) (fun (res:Bool)=>ak prog 90 [.agg (GShow.encS s),.agg [.sl (ab eI v1.lengths),.sl (ab eI v1.values)]] [] (.lit (.bool res)) []):=⟨by
 intro res h0
 refine co (hi:=hi00) func90 rfl rfl ?_
 unfold mc at h0
 exact run⟩
@[go_sem] def hi69_1:DT:=.r2 0 11 .nil
def hi69:Hint where
 acts:=fun _=>[]
 draws:=fun
  | 1=>⟨hi69_1,[[],[0],[],[0,1,2],[0,1,2,3],.range 5,[],[6],.range 8,.range 9,.range 10],.range 11⟩
  | _=>⟨.nil,[],[]⟩
theorem XD (i:Nat):hi69.acts i=[]:=rfl
theorem XE (i:Nat):hi69.views i=none:=rfl
attribute[go_sem] XD XE ntmps69 results69
@[go_sem] theorem aaC:(hi69.draws 1).order=hi69_1:=rfl
instance k69 {s:GShow} {v1:GChoice} {node:Int}:Ctr (ep s v1 node) (fun (res:Bool)=>ak prog 69 [.agg (GShow.encS s),.agg [.sl (ab eI v1.lengths),.sl (ab eI v1.values)],.lit (.int .i64 node)] [] (.lit (.bool res)) []):=⟨by
 intro res h0
 refine co (hi:=hi69) func69 rfl rfl ?_
 unfold ep at h0
 exact run⟩
instance k252 {from_:Int} {to:Int} {low:Int} {high:Int} {reason:ByteArray} {out:GSimple} {reasons:List ByteArray}:Ctr (cH from_ to low high reason out reasons) (fun (res:GSimple × (List ByteArray))=>ak prog 252 [.lit (.int .i64 from_),.lit (.int .i64 to),.lit (.int .i64 low),.lit (.int .i64 high),.lit (.string reason),.ptr 10000 0 0 0,.ptr 10002 0 0 0] [(10000,0,.var [.lit (.int .i64 out.events),.ref 10001 0 0 out.links.length]),(10001,0,.row true (ab GLink.enc out.links)),(10002,0,.var [.ref 10003 0 0 reasons.length]),(10003,0,.row true (ab eS reasons))] (.tup []) [(10000,0,.var [.lit (.int .i64 res.1.events),.ref 20000 1 0 res.1.links.length]),(10002,0,.var [.ref 20001 1 0 res.2.length]),(20000,1,.row true (ab GLink.enc res.1.links)),(20001,1,.row true (ab eS res.2))]):=⟨by
 intro res h0
 refine co (hi:=hi00) func252 rfl rfl ?_
 unfold cH at h0
 exact run⟩
instance k110 {n:Int}:Ctr (dW n) (fun (res:ByteArray)=>ak prog 110 [.lit (.int .i64 n)] [] (.lit (.string res)) []):=⟨by
 intro res h0
 refine co (hi:=hi00) func110 rfl rfl ?_
 unfold dW at h0
 obtain⟨r01,g0,h0⟩:=af h0
 simp(config:=cS)only[go_sem, *]
 refine aj (Gs g0) ?_
 exact run⟩
instance k113 {l:List ByteArray} {by_:ByteArray}:Ctr (mr l by_) (fun (res:ByteArray)=>ak prog 113 [.sl (ab eS l),.lit (.string by_)] [] (.lit (.string res)) []):=⟨by
 intro res h0
 refine co (hi:=hi00) func113 rfl rfl ?_
 unfold mr at h0
 obtain⟨r01,g0,h0⟩:=af h0
 simp(config:=cS)only[go_sem, *]
 refine aj (Gt g0) ?_
 exact run⟩
@[go_sem] def hi253_5:DT:=.i2 0 (.i1 1 (.i1 2 (.i1 3 (.i1 4 (.i1 5 (.i1 6 (.i1 7 (.i1 8 (.i1 9 (.i1 10 (.i1 11 (.i1 12 (.i1 13 (.i1 14 (.i2 15 (.i2 16 (.i1 18 (.i1 19 (.i0 17 [1,2,3,4,5,6,7,8,9,10,11,12,13,14,18,19] (.i0 20 [1,2,3,4,5,6,7,8,9,10,11,12,13,14] (.r2 21 3 .nil)))))))))))))))))))))
def IL:Hint where
 acts:=fun _=>[]
 draws:=fun
  | 5=>⟨hi253_5,[[],[],[1],[],[3],[1,2,3,4],[1,2,3,4,5],[1,2,3,4,5,6],[],[8],[],[10],[8,9,10,11],[8,9,10,11,12],[8,9,10,11,12,13],[],[15],[15,16],[],[18],[15,16,17,18,19],.range 21,.range 22,.range 23],.range 24⟩
  | _=>⟨.nil,[],[]⟩
theorem Wx (i:Nat):IL.acts i=[]:=rfl
theorem Wy (i:Nat):IL.views i=none:=rfl
attribute[go_sem] Wx Wy ntmps253 results253
@[go_sem] theorem aac:(IL.draws 5).order=hi253_5:=rfl
instance k253 {s:GShow} {i:Int}:Ctr (kF s i) (fun (res:ByteArray)=>ak prog 253 [.agg (GShow.encS s),.lit (.int .i64 i)] [] (.lit (.string res)) []):=⟨by
 intro res h0
 refine co (hi:=IL) func253 rfl rfl ?_
 unfold kF at h0
 exact run⟩
@[go_sem] def wV (v28:List GNode)(v29:Int)(s_1:List GTie)(s_2:Int)(v3_0 v3_1:List Int):(Int × Int × (List GLink) × (List ByteArray))→St
 | (v30,out_0,h100024577,h100028672)=>⟨[(2,.ptr 128 1 0 0),(3,.ptr 192 1 0 0),(4,.ptr 256 1 0 0),(6,.ptr 384 1 0 0),(7,.ptr 448 1 0 0),(8,.fn 252 [.ptr 384 1 0 0,.ptr 448 1 0 0]),(28,.sl (ab GNode.encS v28)),(29,.lit (.int .i64 v29)),(30,.lit (.int .i64 v30))],[(128,1,.var [.sl (ab GNode.encS v28),.sl (ab GTie.enc s_1),.lit (.int .i64 s_2)]),(192,1,.var [.sl (ab eI v3_0),.sl (ab eI v3_1)]),(256,1,.var [.lit (.int .i64 0),.lit (.slice none 0 0)]),(384,1,.var [.lit (.int .i64 out_0),.ref 100024577 1 0 h100024577.length]),(100024577,1,.row true (ab GLink.enc h100024577)),(448,1,.var [.ref 100028672 1 0 h100028672.length]),(100028672,1,.row true (ab eS h100028672))],2⟩
@[go_sem] def wW (v51:List GTie)(v52:Int)(s_0:List GNode)(s_2:Int)(v3_0 v3_1 free:List Int):(Int × Int × (List GLink) × (List ByteArray))→St
 | (v53,out_0,h100024577,h100028672)=>⟨[(2,.ptr 128 1 0 0),(3,.ptr 192 1 0 0),(4,.ptr 256 1 0 0),(6,.ptr 384 1 0 0),(7,.ptr 448 1 0 0),(8,.fn 252 [.ptr 384 1 0 0,.ptr 448 1 0 0]),(11,.ref 3136 1 0 free.length),(51,.sl (ab GTie.enc v51)),(52,.lit (.int .i64 v52)),(53,.lit (.int .i64 v53))],[(128,1,.var [.sl (ab GNode.encS s_0),.sl (ab GTie.enc v51),.lit (.int .i64 s_2)]),(192,1,.var [.sl (ab eI v3_0),.sl (ab eI v3_1)]),(256,1,.var [.lit (.int .i64 0),.lit (.slice none 0 0)]),(384,1,.var [.lit (.int .i64 out_0),.ref 100024577 1 0 h100024577.length]),(100024577,1,.row true (ab GLink.enc h100024577)),(448,1,.var [.ref 100028672 1 0 h100028672.length]),(100028672,1,.row true (ab eS h100028672)),(3136,1,.row true (ab eI free))],2⟩
@[go_sem] def wX (v100:Int)(s_0:List GNode)(s_1:List GTie)(s_2:Int)(v3_0 v3_1:List Int):(Int × Int × (List GLink) × (List ByteArray))→St
 | (v101,out_0,h100024577,h100028672)=>⟨[(2,.ptr 128 1 0 0),(3,.ptr 192 1 0 0),(4,.ptr 256 1 0 0),(6,.ptr 384 1 0 0),(7,.ptr 448 1 0 0),(8,.fn 252 [.ptr 384 1 0 0,.ptr 448 1 0 0]),(100,.lit (.int .i64 v100)),(101,.lit (.int .i64 v101))],[(128,1,.var [.sl (ab GNode.encS s_0),.sl (ab GTie.enc s_1),.lit (.int .i64 s_2)]),(192,1,.var [.sl (ab eI v3_0),.sl (ab eI v3_1)]),(256,1,.var [.lit (.int .i64 0),.lit (.slice none 0 0)]),(384,1,.var [.lit (.int .i64 out_0),.ref 100024577 1 0 h100024577.length]),(100024577,1,.row true (ab GLink.enc h100024577)),(448,1,.var [.ref 100028672 1 0 h100028672.length]),(100028672,1,.row true (ab eS h100028672))],2⟩
@[go_sem] def wY (i:Int)(v114:List GNode)(v115:Int)(v122:List Int)(v123:Int)(s_1:List GTie)(s_2:Int)(v3_0 v3_1:List Int)(n_0:ByteArray)(n_2:Int):(Int × Int × (List GLink) × (List ByteArray))→St
 | (v124,out_0,h100024577,h100028672)=>⟨[(2,.ptr 128 1 0 0),(3,.ptr 192 1 0 0),(4,.ptr 256 1 0 0),(6,.ptr 384 1 0 0),(7,.ptr 448 1 0 0),(8,.fn 252 [.ptr 384 1 0 0,.ptr 448 1 0 0]),(17,.lit (.int .i64 i)),(18,.ptr 1152 1 0 0),(114,.sl (ab GNode.encS v114)),(115,.lit (.int .i64 v115)),(116,.lit (.int .i64 i)),(122,.sl (ab eI v122)),(123,.lit (.int .i64 v123)),(124,.lit (.int .i64 v124))],[(128,1,.var [.sl (ab GNode.encS v114),.sl (ab GTie.enc s_1),.lit (.int .i64 s_2)]),(192,1,.var [.sl (ab eI v3_0),.sl (ab eI v3_1)]),(256,1,.var [.lit (.int .i64 0),.lit (.slice none 0 0)]),(384,1,.var [.lit (.int .i64 out_0),.ref 100024577 1 0 h100024577.length]),(100024577,1,.row true (ab GLink.enc h100024577)),(448,1,.var [.ref 100028672 1 0 h100028672.length]),(100028672,1,.row true (ab eS h100028672)),(1152,1,.var [.lit (.string n_0),.sl (ab eI v122),.lit (.int .i64 n_2)])],2⟩
@[go_sem] def wZ (v114:List GNode)(v115:Int)(s_1:List GTie)(s_2:Int)(v3_0 v3_1:List Int):(Int × Int × (List GLink) × (List ByteArray))→St
 | (v116,out_0,h100024577,h100028672)=>⟨[(2,.ptr 128 1 0 0),(3,.ptr 192 1 0 0),(4,.ptr 256 1 0 0),(6,.ptr 384 1 0 0),(7,.ptr 448 1 0 0),(8,.fn 252 [.ptr 384 1 0 0,.ptr 448 1 0 0]),(114,.sl (ab GNode.encS v114)),(115,.lit (.int .i64 v115)),(116,.lit (.int .i64 v116))],[(128,1,.var [.sl (ab GNode.encS v114),.sl (ab GTie.enc s_1),.lit (.int .i64 s_2)]),(192,1,.var [.sl (ab eI v3_0),.sl (ab eI v3_1)]),(256,1,.var [.lit (.int .i64 0),.lit (.slice none 0 0)]),(384,1,.var [.lit (.int .i64 out_0),.ref 100024577 1 0 h100024577.length]),(100024577,1,.row true (ab GLink.enc h100024577)),(448,1,.var [.ref 100028672 1 0 h100028672.length]),(100028672,1,.row true (ab eS h100028672))],2⟩
@[go_sem] def hi171_38:DT:=.i2 0 (.i1 1 (.i0 2 [1] (.i2 3 .nil)))
@[go_sem] def hi171_35:DT:=.r2 0 15 .nil
@[go_sem] def hi171_34:DT:=.i1 0 (.i2 1 (.i0 2 [0] (.i2 3 (.i2 4 .nil))))
@[go_sem] def hi171_19:DT:=.i2 0 (.i1 1 (.i1 2 (.i1 3 (.i1 4 (.r2 5 4 (.i0 9 [1,2,3,4] (.i2 10 .nil)))))))
@[go_sem] def hi171_17:DT:=.i1 0 (.i1 1 (.i2 2 (.i2 3 (.i0 4 [0,1] (.r2 5 3 .nil)))))
@[go_sem] def hi171_15:DT:=.r2 0 6 .nil
def bp:Hint where
 acts:=fun i=>match i with|8=>[.homeCell 384 1,.homeCell 448 0]|_=>[]
 draws:=fun
  | 15=>⟨hi171_15,[[],[0],[],[2],[0,1],.range 5],[0,1,3,4,2,5]⟩
  | 17=>⟨hi171_17,[[],[0],[],[],[2,3],.range 5,.range 6,.range 7],.range 8⟩
  | 19=>⟨hi171_19,[[],[],[1],[],[3],[],[],[],[],[7,8],.range 10],.range 11⟩
  | 34=>⟨hi171_34,[[],[],[1],[0,1,2],[0,1,2,3]],.range 5⟩
  | 35=>⟨hi171_35,[[],[],[],[],[3],[],[3,4,5],[3,4,5,6],[3,4,5,6,7],[3,4,5,6,7,8],[3,4,5,6,7,8,9],[],[11],[3,4,5,6,7,8,9,10,11,12],.range 14],.range 15⟩
  | 38=>⟨hi171_38,[[],[],[0],[0,1,2]],[0,2,1,3]⟩
  | _=>⟨.nil,[],[]⟩
@[go_sem] theorem aad:bp.acts 0=[]:=rfl
@[go_sem] theorem aae:bp.acts 1=[]:=rfl
@[go_sem] theorem aaf:bp.acts 2=[]:=rfl
@[go_sem] theorem aag:bp.acts 3=[]:=rfl
@[go_sem] theorem aah:bp.acts 4=[]:=rfl
@[go_sem] theorem aai:bp.acts 5=[]:=rfl
@[go_sem] theorem aaj:bp.acts 6=[]:=rfl
@[go_sem] theorem aak:bp.acts 7=[]:=rfl
@[go_sem] theorem aal:bp.acts 8=[.homeCell 384 1,.homeCell 448 0]:=rfl
@[go_sem] theorem aam:bp.acts 9=[]:=rfl
@[go_sem] theorem Yw:bp.acts 10=[]:=rfl
@[go_sem] theorem Yx:bp.acts 11=[]:=rfl
@[go_sem] theorem Yy:bp.acts 12=[]:=rfl
@[go_sem] theorem Yz:bp.acts 13=[]:=rfl
@[go_sem] theorem YA:bp.acts 14=[]:=rfl
@[go_sem] theorem YB:bp.acts 15=[]:=rfl
@[go_sem] theorem YC:bp.acts 16=[]:=rfl
@[go_sem] theorem YD:bp.acts 17=[]:=rfl
@[go_sem] theorem YE:bp.acts 18=[]:=rfl
@[go_sem] theorem YF:bp.acts 19=[]:=rfl
@[go_sem] theorem YG:bp.acts 20=[]:=rfl
@[go_sem] theorem YH:bp.acts 21=[]:=rfl
@[go_sem] theorem YI:bp.acts 22=[]:=rfl
@[go_sem] theorem YJ:bp.acts 23=[]:=rfl
@[go_sem] theorem YK:bp.acts 24=[]:=rfl
@[go_sem] theorem YL:bp.acts 25=[]:=rfl
@[go_sem] theorem YM:bp.acts 26=[]:=rfl
@[go_sem] theorem YN:bp.acts 27=[]:=rfl
@[go_sem] theorem YO:bp.acts 28=[]:=rfl
@[go_sem] theorem YP:bp.acts 29=[]:=rfl
@[go_sem] theorem YQ:bp.acts 30=[]:=rfl
@[go_sem] theorem YR:bp.acts 31=[]:=rfl
@[go_sem] theorem YS:bp.acts 32=[]:=rfl
@[go_sem] theorem YT:bp.acts 33=[]:=rfl
@[go_sem] theorem YU:bp.acts 34=[]:=rfl
@[go_sem] theorem YV:bp.acts 35=[]:=rfl
@[go_sem] theorem YW:bp.acts 36=[]:=rfl
@[go_sem] theorem YX:bp.acts 37=[]:=rfl
@[go_sem] theorem YY:bp.acts 38=[]:=rfl
theorem Wz (i:Nat):bp.views i=none:=rfl
attribute[go_sem] Wz ntmps171 results171
@[go_sem] theorem YZ:(bp.draws 15).order=hi171_15:=rfl
@[go_sem] theorem Za:(bp.draws 17).order=hi171_17:=rfl
@[go_sem] theorem Zb:(bp.draws 19).order=hi171_19:=rfl
@[go_sem] theorem Zc:(bp.draws 34).order=hi171_34:=rfl
@[go_sem] theorem Zd:(bp.draws 35).order=hi171_35:=rfl
@[go_sem] theorem Ze:(bp.draws 38).order=hi171_38:=rfl
instance k171 {s:GShow} {v1:GChoice}:Ctr (mY s v1) (fun (res:GSimple × (List ByteArray))=>ak prog 171 [.agg (GShow.encS s),.agg [.sl (ab eI v1.lengths),.sl (ab eI v1.values)]] [] (.tup [.agg [.lit (.int .i64 res.1.events),.ref 20000 1 0 res.1.links.length],.ref 20001 1 0 res.2.length]) [(20000,1,.row true (ab GLink.enc res.1.links)),(20001,1,.row true (ab eS res.2))]):=⟨by
 intro res h0
 refine aB (ra:=[.homeCell 256 1,.home 5]) (md:=mdT) hT (hi:=bp) func171 rfl rfl (by decide +kernel) (by simp) ?_
 unfold mY at h0
 obtain⟨q27,l0,h0⟩:=af h0
 simp(config:=cS)only[go_sem, *]
 refine ah (m1:=.mk) (m2:=.mk) [.homeCell 384 1,.homeCell 448 0,.nfp [2,3,4,6,7,8,28,29,30] [(128,128),(192,192),(256,256),(384,384),(2944,100024577),(100024577,100024577),(448,448),(2945,100028672),(100028672,100028672)] []] (wV s.nodes (s.nodes.length:Int) s.ties s.horizon v1.lengths v1.values) l0 ?_ ?_
 ·simp(config:=cS)only[go_sem, *]
 have k0:=h0
 clear h0 l0
 intro _ s0 _ h0 gb0
 obtain⟨v30_1,out_0_1,h100024577_1,h100028672_1⟩:=s0
 unfold ke at h0
 try dsimp only at h0
 obtain⟨_,h0⟩|⟨_,h0⟩:=itP h0
 ·exact run
 cases h0
 obtain rfl:=(aD gb0).symm
 clear gb0
 have h0:=k0
 clear k0
 try dsimp only at h0
 obtain⟨r04,g0,h0⟩:=af h0
 simp(config:=cS)only[go_sem, *]
 have g0:=ctr g0
 refine aj g0 ?_
 obtain⟨q26,l0,h0⟩:=af h0
 simp(config:=cS)only[go_sem, *]
 refine ah (m1:=.mk) (m2:=.mk) [.nfp [2,3,4,6,7,8,11,51,52,53] [(128,128),(192,192),(256,256),(384,384),(6144,100024577),(100024577,100024577),(448,448),(6145,100028672),(100028672,100028672),(3136,3136)] []] (wW s.ties (s.ties.length:Int) s.nodes s.horizon v1.lengths v1.values r04) l0 ?_ ?_
 ·simp(config:=cS)only[go_sem, *]
 have k0:=h0
 clear h0 l0
 intro _ s0 _ h0 gb0
 obtain⟨v53_2,out_0_2,h100024577_2,h100028672_2⟩:=s0
 unfold kf at h0
 try dsimp only at h0
 obtain⟨_,h0⟩|⟨_,h0⟩:=itP h0
 ·exact run
 cases h0
 obtain rfl:=(aD gb0).symm
 clear gb0
 have h0:=k0
 clear k0
 try dsimp only at h0
 obtain⟨q25,l0,h0⟩:=af h0
 simp(config:=cS)only[go_sem, *]
 refine ah (m1:=.mk) (m2:=.mk) [.nfp [2,3,4,6,7,8,100,101] [(128,128),(192,192),(256,256),(384,384),(7104,100024577),(100024577,100024577),(448,448),(7105,100028672),(100028672,100028672)] []] (wX (s.nodes.length:Int) s.nodes s.ties s.horizon v1.lengths v1.values) l0 ?_ ?_
 ·simp(config:=cS)only[go_sem, *]
 have k0:=h0
 clear h0 l0
 intro _ s0 _ h0 gb0
 obtain⟨v101_3,out_0_3,h100024577_3,h100028672_3⟩:=s0
 unfold kg at h0
 try dsimp only at h0
 obtain⟨_,h0⟩|⟨_,h0⟩:=itP h0
 ·exact run
 cases h0
 obtain rfl:=(aD gb0).symm
 clear gb0
 have h0:=k0
 clear k0
 try dsimp only at h0
 obtain⟨q24,l0,h0⟩:=af h0
 simp(config:=cS)only[go_sem, *]
 refine ah (m1:=.mk) (m2:=.mk) [.nf [2,3,4,6,7,8,114,115,116] [128,192,256,384,100024577,448,100028672]] (wZ s.nodes (s.nodes.length:Int) s.ties s.horizon v1.lengths v1.values) l0 ?_ ?_
 ·simp(config:=cS)only[go_sem, *]
 have k0:=h0
 clear h0 l0
 intro _ s0 _ h0 gb0
 obtain⟨v116_4,out_0_4,h100024577_4,h100028672_4⟩:=s0
 unfold ki at h0
 try dsimp only at h0
 obtain⟨_,h0⟩|⟨_,h0⟩:=itP h0
 ·obtain⟨x16,_,_,_,h0⟩:=gtI h0
  obtain⟨q23,l0,h0⟩:=af h0
  simp(config:=cS)only[go_sem, *]
  refine ah (m1:=.mk) (m2:=.mk) [.nfp [2,3,4,6,7,8,17,18,114,115,116,122,123,124] [(128,128),(192,192),(256,256),(384,384),(9600,100024577),(100024577,100024577),(448,448),(9601,100028672),(100028672,100028672),(1152,1152)] []] (wY v116_4 s.nodes (s.nodes.length:Int) x16.label (x16.label.length:Int) s.ties s.horizon v1.lengths v1.values x16.name x16.watch) l0 ?_ ?_
  ·simp(config:=cS)only[go_sem, *]
  have k0:=h0
  clear h0 l0
  intro _ s0 _ h0 gb0
  obtain⟨v124_5,out_0_5,h100024577_5,h100028672_5⟩:=s0
  unfold kh at h0
  try dsimp only at h0
  obtain⟨_,h0⟩|⟨_,h0⟩:=itP h0
  ·obtain⟨x17,_,_,_,h0⟩:=gtI h0
   obtain⟨r18,g0,h0⟩:=af h0
   simp(config:=cS)only[go_sem, *]
   have g0:=ctr g0
   refine aj g0 ?_
   obtain⟨_,h0⟩|⟨_,h0⟩:=itB h0
   ·obtain⟨r19,g0,h0⟩:=af h0
    simp(config:=cS)only[go_sem, *]
    have g0:=ctr g0
    refine aj g0 ?_
    obtain⟨r20,g0,h0⟩:=af h0
    simp(config:=cS)only[go_sem, *]
    have g0:=ctr g0
    refine aj g0 ?_
    obtain⟨x21,_,_,_,h0⟩:=gtI h0
    obtain⟨_,h0⟩:=ckP h0
    obtain⟨a1,h0⟩:=ckP h0
    try simp(config:=cS)only[go_sem]at a1
    obtain⟨a2,h0⟩:=ckP h0
    try simp(config:=cS)only[go_sem]at a2
    exact run
   exact run
  exact run
 exact run⟩
instance k68 {s:GShow} {v1:GChoice}:Ctr (jy s v1) (fun (res:GSimple × Bool)=>ak prog 68 [.agg (GShow.encS s),.agg [.sl (ab eI v1.lengths),.sl (ab eI v1.values)]] [] (.tup [.agg [.lit (.int .i64 res.1.events),.ref 20000 1 0 res.1.links.length],.lit (.bool res.2)]) [(20000,1,.row true (ab GLink.enc res.1.links))]):=⟨by
 intro res h0
 refine aB (ra:=[.homeCell 256 1]) (md:=mdT) hT (hi:=hi00) func68 rfl rfl (by decide +kernel) (by simp) ?_
 unfold jy at h0
 exact run⟩
instance k37 {s:GShow} {v1:GChoice}:Ctr (lk s v1) (fun (res:Bool)=>ak prog 37 [.agg (GShow.encS s),.agg [.sl (ab eI v1.lengths),.sl (ab eI v1.values)]] [] (.lit (.bool res)) []):=⟨by
 intro res h0
 refine co (hi:=hi00) func37 rfl rfl ?_
 unfold lk at h0
 exact run⟩
@[go_sem] def tD (most:Int)(s_0:List GNode)(s_1:List GTie)(s_2 n:Int):St:=⟨[(1,.ptr 64 1 0 0),(3,.lit (.int .i64 n)),(4,.lit (.int .i64 most))],[(64,1,.var [.sl (ab GNode.encS s_0),.sl (ab GTie.enc s_1),.lit (.int .i64 s_2)])],2⟩
@[go_sem] def hi288_4:DT:=.i1 0 (.i2 1 (.i2 2 (.i0 3 [0] (.i2 4 (.i2 5 .nil)))))
def IM:Hint where
 acts:=fun _=>[]
 draws:=fun
  | 4=>⟨hi288_4,[[],[],[],[1,2],[0,1,2,3],.range 5],.range 6⟩
  | _=>⟨.nil,[],[]⟩
theorem WA (i:Nat):IM.acts i=[]:=rfl
theorem WB (i:Nat):IM.views i=none:=rfl
attribute[go_sem] WA WB ntmps288 results288
@[go_sem] theorem aan:(IM.draws 4).order=hi288_4:=rfl
instance k288 {s:GShow}:Ctr (jz s) (fun (res:Int)=>ak prog 288 [.agg (GShow.encS s)] [] (.lit (.int .i64 res)) []):=⟨by
 intro res h0
 refine co (hi:=IM) func288 rfl rfl ?_
 unfold jz at h0
 obtain⟨r01,g0,h0⟩:=af h0
 simp(config:=cS)only[go_sem, *]
 have g0:=ctr g0
 refine aj g0 ?_
 obtain⟨q04,l0,h0⟩:=af h0
 simp(config:=cS)only[go_sem, *]
 refine ah (m1:=.mk) (m2:=.mk) [.nf [1,3,4] [64]] (tD r01 s.nodes s.ties s.horizon) l0 ?_ ?_
 ·simp(config:=cS)only[go_sem, *]
 have k0:=h0
 clear h0 l0
 intro _ n_1 _ h0 gb0
 unfold dN at h0
 try dsimp only at h0
 exact run⟩
instance k218 {s:GShow}:Ctr (nV s) (fun (res:Bool)=>ak prog 218 [.agg (GShow.encS s)] [] (.lit (.bool res)) []):=⟨by
 intro res h0
 refine co (hi:=hi00) func218 rfl rfl ?_
 unfold nV at h0
 exact run⟩
instance k115 {s:GShow}:Ctr (mZ s) (fun (res:Int)=>ak prog 115 [.agg (GShow.encS s)] [] (.lit (.int .i64 res)) []):=⟨by
 intro res h0
 refine co (hi:=hi00) func115 rfl rfl ?_
 unfold mZ at h0
 exact run⟩
instance k45 {t:GSheet}:Ctr (iB t) (fun (res:Int)=>ak prog 45 [.agg (GSheet.encS t)] [] (.lit (.int .i64 res)) []):=⟨by
 intro res h0
 refine co (hi:=hi00) func45 rfl rfl ?_
 unfold iB at h0
 exact run⟩
instance k244 {a:GCue} {b:GCue}:Ctr (qp a b) (fun (res:Bool)=>ak prog 244 [.agg (GCue.enc a),.agg (GCue.enc b)] [] (.lit (.bool res)) []):=⟨by
 intro res h0
 refine co (hi:=hi00) func244 rfl rfl ?_
 unfold qp at h0
 exact run⟩
@[go_sem] def xV (a b:List GCue)(i:Int):St:=⟨[(0,.sl (ab GCue.enc a)),(1,.sl (ab GCue.enc b)),(5,.lit (.int .i64 i))],[],2⟩
@[go_sem] def hi154_6:DT:=.r2 0 10 .nil
def IP:Hint where
 acts:=fun _=>[]
 draws:=fun
  | 6=>⟨hi154_6,[[],[],[0,1],[0,1,2],[],[],[4,5],[4,5,6],.range 8,.range 9],.range 10⟩
  | _=>⟨.nil,[],[]⟩
theorem WC (i:Nat):IP.acts i=[]:=rfl
theorem WD (i:Nat):IP.views i=none:=rfl
attribute[go_sem] WC WD ntmps154 results154
@[go_sem] theorem aao:(IP.draws 6).order=hi154_6:=rfl
instance k154 {a:List GCue} {b:List GCue}:Ctr (nW a b) (fun (res:Bool)=>ak prog 154 [.sl (ab GCue.enc a),.sl (ab GCue.enc b)] [] (.lit (.bool res)) []):=⟨by
 intro res h0
 refine co (hi:=IP) func154 rfl rfl ?_
 unfold nW at h0
 obtain⟨_,h0⟩|⟨_,h0⟩:=itP h0
 ·obtain⟨q04,l0,h0⟩:=af h0
  simp(config:=cS)only[go_sem, *]
  refine ah (m1:=.mk) (m2:=.mk) [.nf [0,1,5] []] (xV a b) l0 ?_ ?_
  ·simp(config:=cS)only[go_sem, *]
  have k0:=h0
  clear h0 l0
  intro _ i_1 _ h0 gb0
  unfold ll at h0
  try dsimp only at h0
  exact run
 exact run⟩
@[go_sem] def xW (a b:List Int)(i:Int):St:=⟨[(0,.sl (ab eI a)),(1,.sl (ab eI b)),(5,.lit (.int .i64 i))],[],2⟩
@[go_sem] def hi74_6:DT:=.r2 0 9 .nil
def hi74:Hint where
 acts:=fun _=>[]
 draws:=fun
  | 6=>⟨hi74_6,[[],[],[0,1],[0,1,2],[],[],[4,5],[4,5,6],.range 8],.range 9⟩
  | _=>⟨.nil,[],[]⟩
theorem XF (i:Nat):hi74.acts i=[]:=rfl
theorem XG (i:Nat):hi74.views i=none:=rfl
attribute[go_sem] XF XG ntmps74 results74
@[go_sem] theorem aaD:(hi74.draws 6).order=hi74_6:=rfl
instance k74 {a:List Int} {b:List Int}:Ctr (lA a b) (fun (res:Bool)=>ak prog 74 [.sl (ab eI a),.sl (ab eI b)] [] (.lit (.bool res)) []):=⟨by
 intro res h0
 refine co (hi:=hi74) func74 rfl rfl ?_
 unfold lA at h0
 obtain⟨_,h0⟩|⟨_,h0⟩:=itP h0
 ·obtain⟨q03,l0,h0⟩:=af h0
  simp(config:=cS)only[go_sem, *]
  refine ah (m1:=.mk) (m2:=.mk) [.nf [0,1,5] []] (xW a b) l0 ?_ ?_
  ·simp(config:=cS)only[go_sem, *]
  have k0:=h0
  clear h0 l0
  intro _ i_1 _ h0 gb0
  unfold iW at h0
  try dsimp only at h0
  exact run
 exact run⟩
instance k56 {a:GSheet} {b:GSheet}:Ctr (na a b) (fun (res:Bool)=>ak prog 56 [.agg (GSheet.encS a),.agg (GSheet.encS b)] [] (.lit (.bool res)) []):=⟨by
 intro res h0
 refine co (hi:=hi00) func56 rfl rfl ?_
 unfold na at h0
 exact run⟩
@[go_sem] def hi8_10:DT:=.i1 0 (.i2 1 (.i0 2 [0] (.i2 3 (.i2 4 .nil))))
def hi8:Hint where
 acts:=fun _=>[]
 draws:=fun
  | 10=>⟨hi8_10,[[],[],[1],[0,1,2],[0,1,2,3]],.range 5⟩
  | _=>⟨.nil,[],[]⟩
theorem hi8a (i:Nat):hi8.acts i=[]:=rfl
theorem hi8v (i:Nat):hi8.views i=none:=rfl
attribute[go_sem] hi8a hi8v ntmps8 results8
@[go_sem] theorem aaE:(hi8.draws 10).order=hi8_10:=rfl
theorem sf {aT:GSheet}{res:Bool}(h0:fk aT=some res):ak prog 8 [.agg (GSheet.encS aT)] [] (.lit (.bool res)) []:=by
 refine co (hi:=hi8) func8 rfl rfl ?_
 unfold fk at h0
 exact run
end Go.Proofs.Qk
