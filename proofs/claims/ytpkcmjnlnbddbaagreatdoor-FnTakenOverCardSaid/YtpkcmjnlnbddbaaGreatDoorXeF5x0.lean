/- Functions. -/
import Derived.Test.YtpkcmjnlnbddbaaGreatDoorXeJ
set_option linter.all false
set_option maxRecDepth 100000
set_option maxHeartbeats 4000000
namespace Go.Proofs.Qe
open Go Tryz
def qZ (a:List Int):(Int × Int)→St
 | (b,i)=>⟨[(0,.sl (ab (eK .u8) a)),(3,.lit (.int .i64 b)),(4,.lit (.int .i64 i))],[],2⟩
attribute[go_sem] qZ
attribute[go_sem] ntmps74 results74 ntmps111 results111 ntmps112 results112 ntmps251 results251 ntmps92 results92 ntmps151 results151 ntmps21 results21 ntmps155 results155 ntmps157 results157 ntmps80 results80 ntmps23 results23 ntmps104 results104 ntmps105 results105 ntmps42 results42 ntmps82 results82 ntmps83 results83 ntmps25 results25 ntmps89 results89 ntmps29 results29
instance k74 {code:List Int}:Ctr (ku code) (fun (res:GL01Cur)=>aj prog 74 [.sl (ab (eK .u8) code)] [] (.ptr 20000 1 0 0) [(20000,1,.var [.sl (ab (eK .u8) res.b),.lit (.int .i64 res.i),.lit (.int .i64 res.h)])]):=⟨by
 intro res h0
 refine co (hi:=hi00) func74 rfl rfl ?_
 unfold ku at h0
 obtain⟨q02,l0,h0⟩:=ae h0
 simp(config:=cS)only[go_sem, *]
 refine ai (m1:=.mk) (m2:=.mk) [.nf [0,3,4] []] (qZ code) l0 ?_ ?_
 ·simp(config:=cS)only[go_sem, *]
 ·have k0:=h0
  clear h0 l0
  intro _ s0 _ h0 gb0
  obtain⟨v3_1,i_1⟩:=s0
  unfold kc at h0
  try dsimp only at h0
  exact run⟩
@[go_sem] def hi90_4:DT:=.r2 0 15 .nil
@[go_sem] def hi90_3:DT:=.r2 0 10 .nil
@[go_sem] def hi90_2:DT:=.r2 0 13 .nil
def hi90:Hint where
 acts:=fun _=>[]
 draws:=fun
  | 2=>⟨hi90_2,[[],[0],[0,1],[0,1,2],[0,1,2,3],[],[5],[5,6],[5,6,7],[5,6,7,8],.range 10,.range 11,.range 12],.range 13⟩
  | 3=>⟨hi90_3,[[],[0],[0,1],[0,1,2],[],[4],[4,5],[4,5,6],[4,5,6,7],.range 9],.range 10⟩
  | 4=>⟨hi90_4,[[],[],[1],[1,2],[1,2,3],[],[5],[5,6],[5,6,7],[1,2,3,4,5,6,7,8],[1,2,3,4,5,6,7,8,9],[1,2,3,4,5,6,7,8,9,10],.range 12,.range 13,.range 14],.range 15⟩
  | _=>⟨.nil,[],[]⟩
theorem VI (i:Nat):hi90.acts i=[]:=rfl
theorem VJ (i:Nat):hi90.views i=none:=rfl
attribute[go_sem] VI VJ ntmps90 results90
@[go_sem] theorem Ze:(hi90.draws 2).order=hi90_2:=rfl
@[go_sem] theorem Zf:(hi90.draws 3).order=hi90_3:=rfl
@[go_sem] theorem Zg:(hi90.draws 4).order=hi90_4:=rfl
instance k90 {v0:GL01Cur}:Ctr (ck v0) (fun (res:Int × GL01Cur)=>aj prog 90 [.ptr 10000 0 0 0] [(10000,0,.var [.sl (ab (eK .u8) v0.b),.lit (.int .i64 v0.i),.lit (.int .i64 v0.h)])] (.lit (.int .i64 res.1)) [(10000,0,.var [.sl (ab (eK .u8) res.2.b),.lit (.int .i64 res.2.i),.lit (.int .i64 res.2.h)])]):=⟨by
 intro res h0
 refine co (hi:=hi90) func90 rfl rfl ?_
 unfold ck at h0
 exact run⟩
instance k111 {v0:GL01Cur} {n:Int}:Ctr (aF v0 n) (fun (res:Int × GL01Cur)=>aj prog 111 [.ptr 10000 0 0 0,.lit (.int .i64 n)] [(10000,0,.var [.sl (ab (eK .u8) v0.b),.lit (.int .i64 v0.i),.lit (.int .i64 v0.h)])] (.lit (.int .i64 res.1)) [(10000,0,.var [.sl (ab (eK .u8) res.2.b),.lit (.int .i64 res.2.i),.lit (.int .i64 res.2.h)])]):=⟨by
 intro res h0
 refine co (hi:=hi00) func111 rfl rfl ?_
 unfold aF at h0
 exact run⟩
instance k112 {v0:GL01Cur} {n:Int}:Ctr (dM v0 n) (fun (res:Bool × GL01Cur)=>aj prog 112 [.ptr 10000 0 0 0,.lit (.int .i64 n)] [(10000,0,.var [.sl (ab (eK .u8) v0.b),.lit (.int .i64 v0.i),.lit (.int .i64 v0.h)])] (.lit (.bool res.1)) [(10000,0,.var [.sl (ab (eK .u8) res.2.b),.lit (.int .i64 res.2.i),.lit (.int .i64 res.2.h)])]):=⟨by
 intro res h0
 refine co (hi:=hi00) func112 rfl rfl ?_
 unfold dM at h0
 exact run⟩
def oA (f:Int)(a:List GNode):(Int × (List GTie) × (List Int) × Int × Int)→St
 | (i,b,c,d,e)=>⟨[(0,.ptr 10000 0 0 0),(2,.ptr 128 1 0 0),(3,.ptr 192 1 0 0),(5,.lit (.int .i64 i))],[(10000,0,.var [.sl (ab (eK .u8) c),.lit (.int .i64 d),.lit (.int .i64 e)]),(128,1,.var [.lit (.slice none 0 0),.lit (.slice none 0 0),.lit (.int .i64 0)]),(192,1,.var [.ref 1024 1 0 a.length,.ref 1664 1 0 b.length,.lit (.int .i64 f)]),(1024,1,.row true (ab GNode.encO a)),(1664,1,.row true (ab GTie.enc b))],2⟩
attribute[go_sem] oA
@[go_sem] def hi178_13:DT:=.i1 0 (.i1 1 (.r2 2 3 (.i0 5 [0,1] (.i2 6 (.i2 7 (.i0 8 [0,1] (.r2 9 3 .nil)))))))
@[go_sem] def hi178_9:DT:=.i1 0 (.i1 1 (.i2 2 (.r2 4 5 (.i0 3 [0,1] (.i0 9 [0,1] (.i2 10 (.i2 11 (.i0 12 [0,1] (.r2 13 3 .nil)))))))))
def CO:Hint where
 acts:=fun _=>[]
 draws:=fun
  | 9=>⟨hi178_9,[[],[0],[],[2],[],[],[],[6],[],[2,3,8],[2,3,6,7,8,9],[2,3,4,5,6,7,8,9,10],[2,3,4,5,6,7,8,9,10,11],.range 13,.range 14,.range 15],.range 16⟩
  | 13=>⟨hi178_13,[[],[0],[],[],[],[4],[3,4,5],[2,3,4,5,6],[2,3,4,5,6,7],.range 9,.range 10,.range 11],.range 12⟩
  | _=>⟨.nil,[],[]⟩
theorem SS (i:Nat):CO.acts i=[]:=rfl
theorem ST (i:Nat):CO.views i=none:=rfl
attribute[go_sem] SS ST ntmps178 results178
@[go_sem] theorem XX:(CO.draws 9).order=hi178_9:=rfl
@[go_sem] theorem Xa:(CO.draws 13).order=hi178_13:=rfl
instance k178 {v0:GL01Cur}:Ctr (kd v0) (fun (res:GShow × GL01Cur)=>aj prog 178 [.ptr 10000 0 0 0] [(10000,0,.var [.sl (ab (eK .u8) v0.b),.lit (.int .i64 v0.i),.lit (.int .i64 v0.h)])] (.agg [.ref 20000 1 0 res.1.nodes.length,.ref 20001 1 0 res.1.ties.length,.lit (.int .i64 res.1.horizon)]) [(10000,0,.var [.sl (ab (eK .u8) res.2.b),.lit (.int .i64 res.2.i),.lit (.int .i64 res.2.h)]),(20000,1,.row true (ab GNode.encO res.1.nodes)),(20001,1,.row true (ab GTie.enc res.1.ties))]):=⟨by
 intro res h0
 refine aw (ra:=[.homeCell 128 0,.homeCell 128 1]) (md:=mdT) hT (hi:=CO) func178 rfl rfl (by decide +kernel) (by simp) ?_
 unfold kd at h0
 obtain⟨r01,g0,h0⟩:=ae h0
 simp(config:=cS)only[go_sem, *]
 have g0:=ctr g0
 refine ag g0 ?_
 obtain⟨r02,g0,h0⟩:=ae h0
 simp(config:=cS)only[go_sem, *]
 have g0:=ctr g0
 refine ag g0 ?_
 obtain⟨r03,g0,h0⟩:=ae h0
 simp(config:=cS)only[go_sem, *]
 have g0:=ctr g0
 refine ag g0 ?_
 obtain⟨q10,l0,h0⟩:=ae h0
 simp(config:=cS)only[go_sem, *]
 refine ai (m1:=.mk) (m2:=.mk) [.nf [0,2,3,5] [10000,128,192,1024,1664]] (oA (IntKind.wrap .i64 (4+r01.1)) ([(GNode.mk (ByteArray.mk #[103,111]) ([]) 0),(GNode.mk (ByteArray.mk #[97]) ([]) 1),(GNode.mk (ByteArray.mk #[98]) ([1]) 0),(GNode.mk (ByteArray.mk #[99]) ([(-1)]) 0)])) l0 ?_ ?_
 ·simp(config:=cS)only[go_sem, *]
 ·have k0:=h0
  clear h0 l0
  intro _ s0 _ h0 gb0
  obtain⟨i_1,h1664_1,v0_0_1,v0_1_1,v0_2_1⟩:=s0
  unfold gF at h0
  try dsimp only at h0
  exact run⟩
instance k251 {i:Int}:Ctr (jJ i) (fun (res:ByteArray)=>aj prog 251 [.lit (.int .i64 i)] [] (.lit (.string res)) []):=⟨by
 intro res h0
 refine co (hi:=hi00) func251 rfl rfl ?_
 unfold jJ at h0
 obtain⟨x01,a1,a2,a3,h0⟩:=gtI h0
 try simp only[List.length_append,List.length_cons,List.length_nil,Nat.zero_add,Nat.reduceAdd]at a1
 try simp only[List.length_append,List.length_cons,List.length_nil,Nat.zero_add,Nat.reduceAdd]at a2
 try simp only[List.length_append,List.length_cons,List.length_nil,Nat.zero_add,Nat.reduceAdd]at a3
 exact run⟩
def qo (m f:Int)(a:List GNode):(Int × (List Int) × Int × Int × (List GTie))→St
 | (k,c,d,e,b)=>⟨[(0,.ptr 10000 0 0 0),(3,.ptr 192 1 0 0),(4,.ptr 256 1 0 0),(5,.lit (.int .i64 m)),(6,.lit (.int .i64 k))],[(10000,0,.var [.sl (ab (eK .u8) c),.lit (.int .i64 d),.lit (.int .i64 e)]),(192,1,.var [.ref 10001 0 0 a.length,.ref 10002 1 0 b.length,.lit (.int .i64 f)]),(10001,0,.row true (ab GNode.encO a)),(10002,1,.row true (ab GTie.enc b)),(256,1,.var [.lit (.slice none 0 0),.lit (.slice none 0 0),.lit (.int .i64 0)])],2⟩
attribute[go_sem] qo
@[go_sem] def hi252_7:DT:=.i1 0 (.i1 1 (.r2 2 6 (.i2 10 (.r2 12 4 (.i0 8 [0,1] (.i2 9 (.i2 11 (.i0 16 [0,1] (.i2 17 (.i2 18 (.i0 19 [0,1] (.r2 20 3 .nil))))))))))))
def GZ:Hint where
 acts:=fun _=>[]
 draws:=fun
  | 7=>⟨hi252_7,[[],[0],[],[],[3],[],[],[6],[5,6,7],[3,4,5,6,7,8],[],[3,4,5,6,7,8,9,10],[],[],[13],[],[5,6,7,8,15],[5,6,7,8,13,14,15,16],[2,3,4,5,6,7,8,9,10,11,12,13,14,15,16,17],[2,3,4,5,6,7,8,9,10,11,12,13,14,15,16,17,18],.range 20,.range 21,.range 22],.range 23⟩
  | _=>⟨.nil,[],[]⟩
theorem SU (i:Nat):GZ.acts i=[]:=rfl
theorem SV (i:Nat):GZ.views i=none:=rfl
attribute[go_sem] SU SV ntmps252 results252
@[go_sem] theorem XY:(GZ.draws 7).order=hi252_7:=rfl
instance k252 {v0:GL01Cur} {s:GShow}:Ctr (lP v0 s) (fun (res:GShow × GL01Cur × (List GNode))=>aj prog 252 [.ptr 10000 0 0 0,.agg [.ref 10001 0 0 s.nodes.length,.ref 10002 0 0 s.ties.length,.lit (.int .i64 s.horizon)]] [(10000,0,.var [.sl (ab (eK .u8) v0.b),.lit (.int .i64 v0.i),.lit (.int .i64 v0.h)]),(10001,0,.row true (ab GNode.encO s.nodes)),(10002,0,.row true (ab GTie.enc s.ties))] (.agg [.ref 10001 0 0 res.2.2.length,.ref 20000 1 0 res.1.ties.length,.lit (.int .i64 res.1.horizon)]) [(10000,0,.var [.sl (ab (eK .u8) res.2.1.b),.lit (.int .i64 res.2.1.i),.lit (.int .i64 res.2.1.h)]),(10001,0,.row true (ab GNode.encO res.2.2)),(20000,1,.row true (ab GTie.enc res.1.ties))]):=⟨by
 intro res h0
 refine aw (ra:=[.homeCell 256 0,.homeCell 256 1]) (md:=mdT) hT (hi:=GZ) func252 rfl rfl (by decide +kernel) (by simp) ?_
 unfold lP at h0
 obtain⟨r01,g0,h0⟩:=ae h0
 simp(config:=cS)only[go_sem, *]
 have g0:=ctr g0
 refine ag g0 ?_
 obtain⟨q06,l0,h0⟩:=ae h0
 simp(config:=cS)only[go_sem, *]
 refine ai (m1:=.mk) (m2:=.mk) [.nfo [0,3,4,5,6] [10000,192,10001,10002,256] [10002]] (qo ((s.nodes.length:Nat):Int) s.horizon s.nodes) l0 ?_ ?_
 ·simp(config:=cS)only[go_sem, *]
 ·have k0:=h0
  clear h0 l0
  intro _ s0 _ h0 gb0
  obtain⟨k_1,v0_0_1,v0_1_1,v0_2_1,h10002_1⟩:=s0
  unfold jj at h0
  try dsimp only at h0
  exact run⟩
def pB (f:Int):(Int × (List GNode) × (List Int) × Int × Int × (List GTie))→St
 | (n,b,c,d,e,a)=>⟨[(0,.ptr 10000 0 0 0),(2,.ptr 128 1 0 0),(3,.ptr 192 1 0 0),(4,.lit (.int .i64 n))],[(10000,0,.var [.sl (ab (eK .u8) c),.lit (.int .i64 d),.lit (.int .i64 e)]),(128,1,.var [.lit (.slice none 0 0),.lit (.slice none 0 0),.lit (.int .i64 0)]),(192,1,.var [.ref 512 1 0 b.length,.ref 100012289 1 0 a.length,.lit (.int .i64 f)]),(512,1,.row true (ab GNode.encO b)),(100012289,1,.row true (ab GTie.enc a))],2⟩
attribute[go_sem] pB
@[go_sem] def hi179_12:DT:=.i1 0 (.i1 1 (.r2 2 6 (.i0 8 [0,1] (.i2 9 (.i2 10 (.i0 11 [0,1] (.r2 12 3 .nil)))))))
@[go_sem] def hi179_11:DT:=.i1 0 (.i1 1 (.i2 2 (.i2 3 (.i0 4 [0,1] (.i2 5 (.i0 6 [0,1] (.r2 7 3 .nil)))))))
@[go_sem] def hi179_8:DT:=.i1 0 (.i1 1 (.i2 2 (.i2 3 (.r2 5 4 (.i0 4 [0,1] (.i0 9 [0,1] (.i2 10 (.i2 11 (.i0 12 [0,1] (.r2 13 3 .nil))))))))))
@[go_sem] def hi179_7:DT:=.i1 0 (.i1 1 (.i2 2 (.i0 3 [0,1] (.i2 4 (.i0 5 [0,1] (.r2 6 3 .nil))))))
def vE:Hint where
 acts:=fun _=>[]
 draws:=fun
  | 7=>⟨hi179_7,[[],[0],[],[2],[2,3],[2,3,4],.range 6,.range 7,.range 8],.range 9⟩
  | 8=>⟨hi179_8,[[],[0],[],[],[2,3],[],[],[],[],[2,3,4,8],[2,3,4,7,8,9],[2,3,4,5,6,7,8,9,10],[2,3,4,5,6,7,8,9,10,11],.range 13,.range 14,.range 15],.range 16⟩
  | 11=>⟨hi179_11,[[],[0],[],[2],[2,3],[2,3,4],[2,3,4,5],.range 7,.range 8,.range 9],.range 10⟩
  | 12=>⟨hi179_12,[[],[0],[],[],[3],[],[],[],[7],[6,7,8],[2,3,4,5,6,7,8,9],[2,3,4,5,6,7,8,9,10],.range 12,.range 13,.range 14],.range 15⟩
  | _=>⟨.nil,[],[]⟩
theorem SW (i:Nat):vE.acts i=[]:=rfl
theorem SX (i:Nat):vE.views i=none:=rfl
attribute[go_sem] SW SX ntmps179 results179
@[go_sem] theorem XZ:(vE.draws 7).order=hi179_7:=rfl
@[go_sem] theorem Ya:(vE.draws 8).order=hi179_8:=rfl
@[go_sem] theorem Xb:(vE.draws 11).order=hi179_11:=rfl
@[go_sem] theorem Xc:(vE.draws 12).order=hi179_12:=rfl
instance k179 {v0:GL01Cur}:Ctr (kS v0) (fun (res:GShow × GL01Cur)=>aj prog 179 [.ptr 10000 0 0 0] [(10000,0,.var [.sl (ab (eK .u8) v0.b),.lit (.int .i64 v0.i),.lit (.int .i64 v0.h)])] (.agg [.ref 20000 1 0 res.1.nodes.length,.ref 20001 1 0 res.1.ties.length,.lit (.int .i64 res.1.horizon)]) [(10000,0,.var [.sl (ab (eK .u8) res.2.b),.lit (.int .i64 res.2.i),.lit (.int .i64 res.2.h)]),(20000,1,.row true (ab GNode.encO res.1.nodes)),(20001,1,.row true (ab GTie.enc res.1.ties))]):=⟨by
 intro res h0
 refine aw (ra:=[.homeCell 128 0,.homeCell 128 1]) (md:=mdT) hT (hi:=vE) func179 rfl rfl (by decide +kernel) (by simp) ?_
 unfold kS at h0
 obtain⟨r01,g0,h0⟩:=ae h0
 simp(config:=cS)only[go_sem, *]
 have g0:=ctr g0
 refine ag g0 ?_
 obtain⟨r02,g0,h0⟩:=ae h0
 simp(config:=cS)only[go_sem, *]
 have g0:=ctr g0
 refine ag g0 ?_
 obtain⟨q12,l0,h0⟩:=ae h0
 simp(config:=cS)only[go_sem, *]
 refine ai (m1:=.mk) (m2:=.mk) [.homeCell 192 1,.nf [0,2,3,4] [10000,128,192,512,100012289]] (pB (IntKind.wrap .i64 (4+r01.1))) l0 ?_ ?_
 ·simp(config:=cS)only[go_sem, *]
 ·have k0:=h0
  clear h0 l0
  intro _ s0 _ h0 gb0
  obtain⟨n_1,h512_1,v0_0_1,v0_1_1,v0_2_1,h100012289_1⟩:=s0
  unfold iA at h0
  try dsimp only at h0
  obtain⟨_,h0⟩|⟨_,h0⟩:=itP h0
  ·obtain⟨r03,g0,h0⟩:=ae h0
   simp(config:=cS)only[go_sem, *]
   have g0:=ctr g0
   refine ag g0 ?_
   obtain⟨r04,g0,h0⟩:=ae h0
   simp(config:=cS)only[go_sem, *]
   have g0:=ctr g0
   refine ag g0 ?_
   obtain⟨_,h0⟩:=ckP h0
   obtain⟨_,h0⟩:=ckP h0
   obtain⟨r05,g0,h0⟩:=ae h0
   simp(config:=cS)only[go_sem, *]
   have g0:=ctr g0
   refine ag g0 ?_
   obtain⟨r06,g0,h0⟩:=ae h0
   simp(config:=cS)only[go_sem, *]
   have g0:=ctr g0
   refine ag g0 ?_
   obtain⟨_,h0⟩:=ckP h0
   obtain⟨_,h0⟩:=ckP h0
   obtain⟨r07,g0,h0⟩:=ae h0
   simp(config:=cS)only[go_sem, *]
   have g0:=ctr g0
   refine ag g0 ?_
   obtain⟨_,h0⟩|⟨_,h0⟩:=itB h0
   ·obtain⟨_,h0⟩|⟨_,h0⟩:=itP h0
    ·obtain⟨r08,g0,h0⟩:=ae h0
     simp(config:=cS)only[go_sem, *]
     have g0:=ctr g0
     refine ag g0 ?_
     obtain⟨r09,g0,h0⟩:=ae h0
     simp(config:=cS)only[go_sem, *]
     have g0:=ctr g0
     refine ag g0 ?_
     obtain⟨a1,h0⟩:=ckP h0
     try simp(config:=cS)only[go_sem]at a1
     obtain⟨a2,h0⟩:=ckP h0
     try simp(config:=cS)only[go_sem]at a2
     obtain⟨r10,g0,h0⟩:=ae h0
     simp(config:=cS)only[go_sem, *]
     have g0:=ctr g0
     refine ag g0 ?_
     obtain⟨a3,h0⟩:=ckP h0
     try simp(config:=cS)only[go_sem]at a3
     obtain⟨a4,h0⟩:=ckP h0
     try simp(config:=cS)only[go_sem]at a4
     exact run
    ·exact run
   ·exact run
  ·exact run⟩
instance k92 {v0:GL01Cur}:Ctr (lQ v0) (fun (res:GShow × GL01Cur)=>aj prog 92 [.ptr 10000 0 0 0] [(10000,0,.var [.sl (ab (eK .u8) v0.b),.lit (.int .i64 v0.i),.lit (.int .i64 v0.h)])] (.agg [.ref 20000 1 0 res.1.nodes.length,.ref 20001 1 0 res.1.ties.length,.lit (.int .i64 res.1.horizon)]) [(10000,0,.var [.sl (ab (eK .u8) res.2.b),.lit (.int .i64 res.2.i),.lit (.int .i64 res.2.h)]),(20000,1,.row true (ab GNode.encO res.1.nodes)),(20001,1,.row true (ab GTie.enc res.1.ties))]):=⟨by
 intro res h0
 refine aw (ra:=[.homeCell 128 0,.homeCell 128 1]) (md:=mdT) hT (hi:=hi00) func92 rfl rfl (by decide +kernel) (by simp) ?_
 unfold lQ at h0
 exact run⟩
def oB  : (Int × (List Int) × (List Int) × Int × Int)→St
 | (p,v,a,b,c)=>⟨[(0,.ptr 10000 0 0 0),(3,.ref 320 1 0 v.length),(4,.lit (.int .i64 p))],[(10000,0,.var [.sl (ab (eK .u8) a),.lit (.int .i64 b),.lit (.int .i64 c)]),(320,1,.row true (ab eI v))],2⟩
attribute[go_sem] oB
instance k151 {v0:GL01Cur}:Ctr (ke v0) (fun (res:(List Int) × GL01Cur)=>aj prog 151 [.ptr 10000 0 0 0] [(10000,0,.var [.sl (ab (eK .u8) v0.b),.lit (.int .i64 v0.i),.lit (.int .i64 v0.h)])] (.ref 20000 1 0 res.1.length) [(10000,0,.var [.sl (ab (eK .u8) res.2.b),.lit (.int .i64 res.2.i),.lit (.int .i64 res.2.h)]),(20000,1,.row true (ab eI res.1))]):=⟨by
 intro res h0
 refine aw (ra:=[.home 2]) (md:=mdT) hT (hi:=hi00) func151 rfl rfl (by decide +kernel) (by simp) ?_
 unfold ke at h0
 obtain⟨q04,l0,h0⟩:=ae h0
 simp(config:=cS)only[go_sem, *]
 refine ai (m1:=.mk) (m2:=.mk) [.nf [0,3,4] [10000,320]] (oB) l0 ?_ ?_
 ·simp(config:=cS)only[go_sem, *]
 ·have k0:=h0
  clear h0 l0
  intro _ s0 _ h0 gb0
  obtain⟨p_1,v_1,v0_0_1,v0_1_1,v0_2_1⟩:=s0
  unfold gG at h0
  try dsimp only at h0
  obtain⟨_,h0⟩|⟨_,h0⟩:=itP h0
  ·exact run
  ·cases h0
   obtain rfl:=(aN gb0).symm
   clear gb0
   have h0:=k0
   clear k0
   try dsimp only at h0
   obtain⟨r02,g0,h0⟩:=ae h0
   simp(config:=cS)only[go_sem, *]
   have g0:=ctr g0
   refine ag g0 ?_
   obtain⟨_,h0⟩|⟨_,h0⟩:=itB h0
   ·obtain⟨x03,g1,h0⟩:=ae h0
    have:=cg (k:=0) g1
    exact run
   ·exact run⟩
def qp  : (Int × Int × Int × Bool × (List GNode) × (List GTie) × (List Int) × (List Int) × (List GEntry) × (List Int) × Int × Int)→St
 | (n,i,j,k,a,b,c,d,e,f,g,h)=>⟨[(0,.ptr 10000 0 0 0),(2,.ptr 128 1 0 0),(3,.ptr 192 1 0 0),(5,.lit (.int .i64 n))],[(10000,0,.var [.sl (ab (eK .u8) f),.lit (.int .i64 g),.lit (.int .i64 h)]),(128,1,.var [.lit (.slice none 0 0),.lit (.slice none 0 0),.lit (.int .i64 0),.lit (.int .i64 0),.lit (.slice none 0 0),.lit (.slice none 0 0),.lit (.bool false),.lit (.slice none 0 0)]),(192,1,.var [.ref 768 1 0 a.length,.ref 769 1 0 b.length,.lit (.int .i64 i),.lit (.int .i64 j),.ref 770 1 0 c.length,.ref 771 1 0 d.length,.lit (.bool k),.ref 772 1 0 e.length]),(768,1,.row true (ab GNode.encO a)),(769,1,.row true (ab GTie.enc b)),(770,1,.row true (ab eI c)),(771,1,.row true (ab eI d)),(772,1,.row true (ab GEntry.encO e))],2⟩
attribute[go_sem] qp
@[go_sem] def hi73_8:DT:=.i1 0 (.r2 1 4 (.i2 8 (.i0 5 [0] (.i1 6 (.i1 7 (.i0 9 [0,6,7] (.r2 10 6 .nil)))))))
def hi73:Hint where
 acts:=fun i=>match i with|8=>[.freeze [1600]]|_=>[]
 draws:=fun
  | 8=>⟨hi73_8,[[],[],[],[],[3],[2,3,4],[1,2,3,4,5],[1,2,3,4,5,6],[],[2,3,4,5,8],.range 10,.range 11,.range 12,.range 12,.range 12,.range 13],[0,1,2,3,4,5,6,7,8,9,10,11,12,14,15,13]⟩
  | _=>⟨.nil,[],[]⟩
@[go_sem] theorem Zh:hi73.acts 0=[]:=rfl
@[go_sem] theorem Zi:hi73.acts 1=[]:=rfl
@[go_sem] theorem Zj:hi73.acts 2=[]:=rfl
@[go_sem] theorem Zk:hi73.acts 3=[]:=rfl
@[go_sem] theorem Zl:hi73.acts 5=[]:=rfl
@[go_sem] theorem Zm:hi73.acts 6=[]:=rfl
@[go_sem] theorem Zn:hi73.acts 7=[]:=rfl
@[go_sem] theorem Zo:hi73.acts 8=[.freeze [1600]]:=rfl
@[go_sem] theorem Zp:hi73.acts 4=[]:=rfl
@[go_sem] theorem Zq:hi73.acts 9=[]:=rfl
theorem VK (i:Nat):hi73.views i=none:=rfl
attribute[go_sem] VK ntmps73 results73
@[go_sem] theorem Zr:(hi73.draws 8).order=hi73_8:=rfl
instance k73 {v0:GL01Cur}:Ctr (nX v0) (fun (res:GDesk × GL01Cur)=>aj prog 73 [.ptr 10000 0 0 0] [(10000,0,.var [.sl (ab (eK .u8) v0.b),.lit (.int .i64 v0.i),.lit (.int .i64 v0.h)])] (.agg [.ref 20000 1 0 res.1.show_.nodes.length,.ref 20001 1 0 res.1.show_.ties.length,.lit (.int .i64 res.1.show_.horizon),.lit (.int .i64 res.1.state.now),.ref 20002 1 0 res.1.state.times.length,.ref 20003 1 0 res.1.state.values.length,.lit (.bool res.1.lazy),.ref 20004 1 0 res.1.log.length]) [(10000,0,.var [.sl (ab (eK .u8) res.2.b),.lit (.int .i64 res.2.i),.lit (.int .i64 res.2.h)]),(20000,1,.row true (ab GNode.encO res.1.show_.nodes)),(20001,1,.row true (ab GTie.enc res.1.show_.ties)),(20002,1,.row true (ab eI res.1.state.times)),(20003,1,.row true (ab eI res.1.state.values)),(20004,1,.row true (ab GEntry.encO res.1.log))]):=⟨by
 intro res h0
 refine aw (ra:=[.homeCell 128 0,.homeCell 128 1,.homeCell 128 4,.homeCell 128 5,.homeCell 128 7]) (md:=mdT) hT (hi:=hi73) func73 rfl rfl (by decide +kernel) (by simp) ?_
 unfold nX at h0
 obtain⟨r01,g0,h0⟩:=ae h0
 simp(config:=cS)only[go_sem, *]
 have g0:=ctr g0
 refine ag g0 ?_
 obtain⟨r02,g0,h0⟩:=ae h0
 simp(config:=cS)only[go_sem, *]
 have g0:=ctr g0
 refine ag g0 ?_
 obtain⟨r03,g0,h0⟩:=ae h0
 simp(config:=cS)only[go_sem, *]
 have g0:=ctr g0
 refine ag g0 ?_
 obtain⟨r04,g0,h0⟩:=ae h0
 simp(config:=cS)only[go_sem, *]
 have g0:=ctr g0
 refine ag g0 ?_
 obtain⟨q10,l0,h0⟩:=ae h0
 simp(config:=cS)only[go_sem, *]
 refine ai (m1:=.mk) (m2:=.mk) [.nfp [0,2,3,5] [(10000,10000),(128,128),(192,192),(2624,768),(768,768),(2625,769),(769,769),(2626,770),(770,770),(2627,771),(771,771),(2628,772),(772,772)] []] (qp) l0 ?_ ?_
 ·simp(config:=cS)only[go_sem, *]
 ·have k0:=h0
  clear h0 l0
  intro _ s0 _ h0 gb0
  obtain⟨n_1,d_2_1,d_3_1,d_6_1,h768_1,h769_1,h770_1,h771_1,h772_1,v0_0_1,v0_1_1,v0_2_1⟩:=s0
  unfold jk at h0
  try dsimp only at h0
  exact run⟩
instance k21 {code:List Int}:Ctr (kT code) (fun (res:GDesk)=>aj prog 21 [.sl (ab (eK .u8) code)] [] (.agg [.ref 20000 1 0 res.show_.nodes.length,.ref 20001 1 0 res.show_.ties.length,.lit (.int .i64 res.show_.horizon),.lit (.int .i64 res.state.now),.ref 20002 1 0 res.state.times.length,.ref 20003 1 0 res.state.values.length,.lit (.bool res.lazy),.ref 20004 1 0 res.log.length]) [(20000,1,.row true (ab GNode.encO res.show_.nodes)),(20001,1,.row true (ab GTie.enc res.show_.ties)),(20002,1,.row true (ab eI res.state.times)),(20003,1,.row true (ab eI res.state.values)),(20004,1,.row true (ab GEntry.encO res.log))]):=⟨by
 intro res h0
 refine aw (ra:=[.homeCell 128 0,.homeCell 128 1,.homeCell 128 4,.homeCell 128 5,.homeCell 128 7]) (md:=mdT) hT (hi:=hi00) func21 rfl rfl (by decide +kernel) (by simp) ?_
 unfold kT at h0
 exact run⟩
def pC (s c:ByteArray):(Int × Int × (List ByteArray))→St
 | (a,i,b)=>⟨[(0,.lit (.string s)),(1,.lit (.string c)),(5,.ref 383 1 0 b.length),(6,.lit (.int .i64 a)),(7,.lit (.int .i64 i))],[(383,1,.row true (ab eS b))],2⟩
attribute[go_sem] pC
instance k155 {s:ByteArray} {by_:ByteArray}:Ctr (iP s by_) (fun (res:List ByteArray)=>aj prog 155 [.lit (.string s),.lit (.string by_)] [] (.ref 20000 1 0 res.length) [(20000,1,.row true (ab eS res))]):=⟨by
 intro res h0
 refine aw (ra:=[.home 4]) (md:=mdT) hT (hi:=hi00) func155 rfl rfl (by decide +kernel) (by simp) ?_
 unfold iP at h0
 obtain⟨q03,l0,h0⟩:=ae h0
 simp(config:=cS)only[go_sem, *]
 refine ai (m1:=.mk) (m2:=.mk) [.home 5,.nf [0,1,5,6,7] [383]] (pC s by_) l0 ?_ ?_
 ·simp(config:=cS)only[go_sem, *]
 ·have k0:=h0
  clear h0 l0
  intro _ s0 _ h0 gb0
  obtain⟨from__1,i_1,out_1⟩:=s0
  unfold iB at h0
  try dsimp only at h0
  obtain⟨_,h0⟩|⟨_,h0⟩:=itP h0
  ·obtain⟨c1001,_,_,_,h0⟩:=gsI h0
   obtain⟨r02,g0,h0⟩:=ae h0
   simp(config:=cS)only[go_sem, *]
   refine ag (xc g0) ?_
   exact run
  ·exact run⟩
def pD (c:Int)(a:List ByteArray):(Int × (List Int))→St
 | (d,b)=>⟨[(4,.ref 319 1 0 b.length),(12,.ref 768 1 0 a.length),(13,.lit (.int .i64 c)),(14,.lit (.int .i64 d))],[(319,1,.row true (ab eI b)),(768,1,.row true (ab eS a))],2⟩
attribute[go_sem] pD
instance k157 {s:ByteArray}:Ctr (fK s) (fun (res:(List Int) × Bool)=>aj prog 157 [.lit (.string s)] [] (.tup [.ref 20000 1 0 res.1.length,.lit (.bool res.2)]) [(20000,1,.row true (ab eI res.1))]):=⟨by
 intro res h0
 refine aw (ra:=[.home 2]) (md:=mdT) hT (hi:=hi00) func157 rfl rfl (by decide +kernel) (by simp) ?_
 unfold fK at h0
 obtain⟨_,h0⟩|⟨_,h0⟩:=itP h0
 ·exact run
 ·obtain⟨r01,g0,h0⟩:=ae h0
  simp(config:=cS)only[go_sem, *]
  have g0:=ctr g0
  refine ag g0 ?_
  obtain⟨q04,l0,h0⟩:=ae h0
  simp(config:=cS)only[go_sem, *]
  refine ai (m1:=.mk) (m2:=.mk) [.home 4,.nf [4,12,13,14] [319,768]] (pD ((r01.length:Nat):Int) r01) l0 ?_ ?_
  ·simp(config:=cS)only[go_sem, *]
  ·have k0:=h0
   clear h0 l0
   intro _ s0 _ h0 gb0
   obtain⟨v14_1,out_1⟩:=s0
   unfold kV at h0
   try dsimp only at h0
   obtain⟨_,h0⟩|⟨_,h0⟩:=itP h0
   ·obtain⟨x02,_,_,_,h0⟩:=gtI h0
    obtain⟨r03,g0,h0⟩:=ae h0
    simp(config:=cS)only[go_sem, *]
    refine ag (ux g0) ?_
    exact run
   ·exact run⟩
instance k80 {line:ByteArray}:Ctr (jl line) (fun (res:GEntry × Bool)=>aj prog 80 [.lit (.string line)] [] (.tup [.agg [.lit (.int .i64 res.1.now),.ref 20000 1 0 res.1.ties.length,.ref 20001 1 0 res.1.nodes.length,.ref 20002 1 0 res.1.values.length],.lit (.bool res.2)]) [(20000,1,.row true (ab eI res.1.ties)),(20001,1,.row true (ab eI res.1.nodes)),(20002,1,.row true (ab eI res.1.values))]):=⟨by
 intro res h0
 refine aw (ra:=[.homeCell 128 1,.homeCell 128 2,.homeCell 128 3]) (md:=mdT) hT (hi:=hi00) func80 rfl rfl (by decide +kernel) (by simp) ?_
 unfold jl at h0
 obtain⟨r01,g0,h0⟩:=ae h0
 simp(config:=cS)only[go_sem, *]
 have g0:=ctr g0
 refine ag g0 ?_
 obtain⟨_,h0⟩|⟨_,h0⟩:=itP h0
 ·obtain⟨x02,g1,h0⟩:=ae h0
  have:=cg (k:=0) g1
  obtain⟨r03,g0,h0⟩:=ae h0
  simp(config:=cS)only[go_sem, *]
  refine ag (ux g0) ?_
  obtain⟨x04,g2,h0⟩:=ae h0
  have:=cg (k:=1) g2
  obtain⟨r05,g0,h0⟩:=ae h0
  simp(config:=cS)only[go_sem, *]
  have g0:=ctr g0
  refine ag g0 ?_
  obtain⟨x06,g3,h0⟩:=ae h0
  have:=cg (k:=2) g3
  obtain⟨r07,g0,h0⟩:=ae h0
  simp(config:=cS)only[go_sem, *]
  have g0:=ctr g0
  refine ag g0 ?_
  obtain⟨x08,g4,h0⟩:=ae h0
  have:=cg (k:=3) g4
  exact run
 ·exact run⟩
def nn  : (ByteArray × (List GEntry))→St
 | (b,a)=>⟨[(0,.lit (.string b)),(4,.ref 319 1 0 a.length)],[(319,1,.row true (ab GEntry.encO a))],2⟩
attribute[go_sem] nn
instance k23 {text:ByteArray}:Ctr (fo text) (fun (res:(List GEntry) × Int)=>aj prog 23 [.lit (.string text)] [] (.tup [.ref 20000 1 0 res.1.length,.lit (.int .i64 res.2)]) [(20000,1,.row true (ab GEntry.encO res.1))]):=⟨by
 intro res h0
 refine aw (ra:=[.home 2]) (md:=mdT) hT (hi:=hi00) func23 rfl rfl (by decide +kernel) (by simp) ?_
 unfold fo at h0
 obtain⟨q03,l0,h0⟩:=ae h0
 simp(config:=cS)only[go_sem, *]
 refine ai (m1:=.mk) (m2:=.mk) [.home 4,.nf [0,4] [319]] (nn) l0 ?_ ?_
 ·simp(config:=cS)only[go_sem, *]
 ·have k0:=h0
  clear h0 l0
  intro _ s0 _ h0 gb0
  obtain⟨text_1,out_1⟩:=s0
  unfold iR at h0
  try dsimp only at h0
  obtain⟨r01,g0,h0⟩:=ae h0
  simp(config:=cS)only[go_sem, *]
  refine ag (GM g0) ?_
  exact run⟩
@[go_sem] def hi24_5:DT:=.i2 0 (.i1 2 (.i2 3 (.i2 4 (.i0 1 [2] (.r2 5 3 .nil)))))
def hi24:Hint where
 acts:=fun _=>[]
 draws:=fun
  | 5=>⟨hi24_5,[[],[0],[],[],[],.range 5,.range 6,.range 7],.range 8⟩
  | _=>⟨.nil,[],[]⟩
theorem VL (i:Nat):hi24.acts i=[]:=rfl
theorem VM (i:Nat):hi24.views i=none:=rfl
attribute[go_sem] VL VM ntmps24 results24
@[go_sem] theorem Zs:(hi24.draws 5).order=hi24_5:=rfl
instance k24 {s:GShow} {text:ByteArray} {lazy:Bool}:Ctr (kW s text lazy) (fun (res:GDesk × Bool)=>aj prog 24 [.agg (GShow.encS s),.lit (.string text),.lit (.bool lazy)] [] (.tup [.agg [.ref 20000 1 0 res.1.show_.nodes.length,.ref 20001 1 0 res.1.show_.ties.length,.lit (.int .i64 res.1.show_.horizon),.lit (.int .i64 res.1.state.now),.ref 20002 1 0 res.1.state.times.length,.ref 20003 1 0 res.1.state.values.length,.lit (.bool res.1.lazy),.ref 20004 1 0 res.1.log.length],.lit (.bool res.2)]) [(20000,1,.row true (ab GNode.encO res.1.show_.nodes)),(20001,1,.row true (ab GTie.enc res.1.show_.ties)),(20002,1,.row true (ab eI res.1.state.times)),(20003,1,.row true (ab eI res.1.state.values)),(20004,1,.row true (ab GEntry.encO res.1.log))]):=⟨by
 intro res h0
 refine aw (ra:=[.homeCell 384 0,.homeCell 384 1,.homeCell 384 4,.homeCell 384 5,.homeCell 384 7]) (md:=mdT) hT (hi:=hi24) func24 rfl rfl (by decide +kernel) (by simp) ?_
 unfold kW at h0
 exact run⟩
def ln (f:List GNode)(a:Nat)(b:List AV)(c:List GNode)(d e:Int):St:=⟨[(1,.sl (ab GNode.encS f)),(2,.fn a b),(15,.sl (ab GNode.encS c)),(16,.lit (.int .i64 d)),(17,.lit (.int .i64 e))],[],2⟩
attribute[go_sem] ln
theorem tV {v0 v1:List GNode}{v2:GNode→GNode→Option Bool}{f_v2:Nat}{k_v2:List AV}(hp_v2:∀ y0 y1 r,v2 y0 y1=some r→aj prog f_v2 ([.agg (GNode.encS y0),.agg (GNode.encS y1)]++k_v2) [] (.lit (.bool r)) [])(hc_v2:KC k_v2)(hm_v2:∀ a,mdT f_v2 a=⟨[],false⟩)(hk_v2:spf f_v2=false){res:Bool}(h:dQ v0 v1 v2=some res):aj prog 104 [.sl (ab GNode.encS v0),.sl (ab GNode.encS v1),.fn f_v2 k_v2] [] (.lit (.bool res)) []:=by
 refine co (hi:=hi00) func104 rfl rfl ?_
 unfold dQ at h
 obtain⟨h1,h⟩|⟨h1,h⟩:=aS h
 ·obtain⟨q04,l2,h⟩:=ae h
  simp(config:=cS)only[go_sem,hc_v2.1,hc_v2.2,hm_v2,hk_v2,eqT h1]
  refine ai (m1:=.mk) (m2:=.mk) [.nf [1,2,15,16,17] []] (ln v1 f_v2 k_v2 v0 ((v0.length:Nat):Int)) l2 ?_ ?_
  ·simp(config:=cS)only[go_sem,hc_v2.1,hc_v2.2,hm_v2,hk_v2,eqT h1]
  ·intro nb3 v17_1 bb3 b3 gb3
   unfold cm at b3
   try dsimp only at b3
   obtain⟨h4,b3⟩|⟨h4,b3⟩:=aS b3
   ·obtain⟨x01,g5,b3⟩:=ae b3
    obtain⟨h6,h7,h8⟩:=cM g5
    obtain⟨x02,g9,b3⟩:=ae b3
    obtain⟨h10,h11,h12⟩:=cM g9
    obtain⟨r03,g13,b3⟩:=ae b3
    simp(config:=cS)only[go_sem,hc_v2.1,hc_v2.2,hm_v2,hk_v2,eqT h1,eqT h4,h6,h7,h8,h10,h11,h12]
    refine ag (hp_v2 _ _ _ g13) ?_
    obtain⟨h14,b3⟩|⟨h14,b3⟩:=aS b3
    ·cases b3
     simp(config:=cS)only[go_sem,hc_v2.1,hc_v2.2,hm_v2,hk_v2,eqT h1,eqT h4,h6,h7,h8,h10,h11,h12,eZt h14]
     refine fP gb3 ?_
     simp(config:=cS)only[go_sem,hc_v2.1,hc_v2.2,hm_v2,hk_v2,eqT h1,eqT h4,h6,h7,h8,h10,h11,h12,eZt h14]
    ·cases b3
     obtain rfl:=(aN gb3).symm
     try dsimp only at h
     cases h
     simp(config:=cS)only[go_sem,hc_v2.1,hc_v2.2,hm_v2,hk_v2,eqT h1,eqT h4,h6,h7,h8,h10,h11,h12,eZf h14]
   ·cases b3
    obtain rfl:=(aN gb3).symm
    try dsimp only at h
    cases h
    simp(config:=cS)only[go_sem,hc_v2.1,hc_v2.2,hm_v2,hk_v2,eqT h1,eqF h4]
 ·cases h
  simp(config:=cS)only[go_sem,hc_v2.1,hc_v2.2,hm_v2,hk_v2,eqF h1]
instance k105 {a:GNode} {b:GNode}:Ctr (eC a b) (fun (res:Bool)=>aj prog 105 [.agg (GNode.encS a),.agg (GNode.encS b)] [] (.lit (.bool res)) []):=⟨by
 intro res h0
 refine co (hi:=hi00) func105 rfl rfl ?_
 unfold eC at h0
 exact run⟩
def np (c d:List GTie)(a b:Int):St:=⟨[(0,.sl (ab GTie.enc c)),(1,.sl (ab GTie.enc d)),(12,.lit (.int .i64 a)),(13,.lit (.int .i64 b))],[],2⟩
attribute[go_sem] np
@[go_sem] def hi106_6:DT:=.r2 0 9 .nil
def Ha:Hint where
 acts:=fun _=>[]
 draws:=fun
  | 6=>⟨hi106_6,[[],[],[0,1],[0,1,2],[],[],[4,5],[4,5,6],.range 8],.range 9⟩
  | _=>⟨.nil,[],[]⟩
theorem SY (i:Nat):Ha.acts i=[]:=rfl
theorem SZ (i:Nat):Ha.views i=none:=rfl
attribute[go_sem] SY SZ ntmps106 results106
@[go_sem] theorem Yb:(Ha.draws 6).order=hi106_6:=rfl
instance k106 {v0:List GTie} {v1:List GTie}:Ctr (iC v0 v1) (fun (res:Bool)=>aj prog 106 [.sl (ab GTie.enc v0),.sl (ab GTie.enc v1)] [] (.lit (.bool res)) []):=⟨by
 intro res h0
 refine co (hi:=Ha) func106 rfl rfl ?_
 unfold iC at h0
 obtain⟨_,h0⟩|⟨_,h0⟩:=itP h0
 ·obtain⟨q03,l0,h0⟩:=ae h0
  simp(config:=cS)only[go_sem, *]
  refine ai (m1:=.mk) (m2:=.mk) [.nf [0,1,12,13] []] (np v0 v1 ((v0.length:Nat):Int)) l0 ?_ ?_
  ·simp(config:=cS)only[go_sem, *]
  ·have k0:=h0
   clear h0 l0
   intro _ v13_1 _ h0 gb0
   unfold dm at h0
   try dsimp only at h0
   exact run
 ·exact run⟩
instance k42 {a:GShow} {b:GShow}:Ctr (kf a b) (fun (res:Bool)=>aj prog 42 [.agg (GShow.encS a),.agg (GShow.encS b)] [] (.lit (.bool res)) []):=⟨by
 intro res h0
 refine co (hi:=hi00) func42 rfl rfl ?_
 unfold kf at h0
 obtain⟨r01,g0,h0⟩:=ae h0
 simp(config:=cS)only[go_sem, *]
 refine ag (tV (by exact fun _ _ _ hr=>by have q:=ctr hr;exact q) (by refine⟨fun _=>?_,fun _=>?_⟩ <;> simp only[go_sem]) (fun _=>rfl) rfl g0) ?_
 exact run⟩
def kz (f:List GEntry)(a:Nat)(b:List AV)(c:List GEntry)(d e:Int):St:=⟨[(1,.sl (ab GEntry.encS f)),(2,.fn a b),(15,.sl (ab GEntry.encS c)),(16,.lit (.int .i64 d)),(17,.lit (.int .i64 e))],[],2⟩
attribute[go_sem] kz
theorem tn {v0 v1:List GEntry}{v2:GEntry→GEntry→Option Bool}{f_v2:Nat}{k_v2:List AV}(hp_v2:∀ y0 y1 r,v2 y0 y1=some r→aj prog f_v2 ([.agg (GEntry.encS y0),.agg (GEntry.encS y1)]++k_v2) [] (.lit (.bool r)) [])(hc_v2:KC k_v2)(hm_v2:∀ a,mdT f_v2 a=⟨[],false⟩)(hk_v2:spf f_v2=false){res:Bool}(h:dy v0 v1 v2=some res):aj prog 82 [.sl (ab GEntry.encS v0),.sl (ab GEntry.encS v1),.fn f_v2 k_v2] [] (.lit (.bool res)) []:=by
 refine co (hi:=hi00) func82 rfl rfl ?_
 unfold dy at h
 obtain⟨h1,h⟩|⟨h1,h⟩:=aS h
 ·obtain⟨q04,l2,h⟩:=ae h
  simp(config:=cS)only[go_sem,hc_v2.1,hc_v2.2,hm_v2,hk_v2,eqT h1]
  refine ai (m1:=.mk) (m2:=.mk) [.nf [1,2,15,16,17] []] (kz v1 f_v2 k_v2 v0 ((v0.length:Nat):Int)) l2 ?_ ?_
  ·simp(config:=cS)only[go_sem,hc_v2.1,hc_v2.2,hm_v2,hk_v2,eqT h1]
  ·intro nb3 v17_1 bb3 b3 gb3
   unfold ce at b3
   try dsimp only at b3
   obtain⟨h4,b3⟩|⟨h4,b3⟩:=aS b3
   ·obtain⟨x01,g5,b3⟩:=ae b3
    obtain⟨h6,h7,h8⟩:=cM g5
    obtain⟨x02,g9,b3⟩:=ae b3
    obtain⟨h10,h11,h12⟩:=cM g9
    obtain⟨r03,g13,b3⟩:=ae b3
    simp(config:=cS)only[go_sem,hc_v2.1,hc_v2.2,hm_v2,hk_v2,eqT h1,eqT h4,h6,h7,h8,h10,h11,h12]
    refine ag (hp_v2 _ _ _ g13) ?_
    obtain⟨h14,b3⟩|⟨h14,b3⟩:=aS b3
    ·cases b3
     simp(config:=cS)only[go_sem,hc_v2.1,hc_v2.2,hm_v2,hk_v2,eqT h1,eqT h4,h6,h7,h8,h10,h11,h12,eZt h14]
     refine fP gb3 ?_
     simp(config:=cS)only[go_sem,hc_v2.1,hc_v2.2,hm_v2,hk_v2,eqT h1,eqT h4,h6,h7,h8,h10,h11,h12,eZt h14]
    ·cases b3
     obtain rfl:=(aN gb3).symm
     try dsimp only at h
     cases h
     simp(config:=cS)only[go_sem,hc_v2.1,hc_v2.2,hm_v2,hk_v2,eqT h1,eqT h4,h6,h7,h8,h10,h11,h12,eZf h14]
   ·cases b3
    obtain rfl:=(aN gb3).symm
    try dsimp only at h
    cases h
    simp(config:=cS)only[go_sem,hc_v2.1,hc_v2.2,hm_v2,hk_v2,eqT h1,eqF h4]
 ·cases h
  simp(config:=cS)only[go_sem,hc_v2.1,hc_v2.2,hm_v2,hk_v2,eqF h1]
instance k83 {a:GEntry} {b:GEntry}:Ctr (dz a b) (fun (res:Bool)=>aj prog 83 [.agg (GEntry.encS a),.agg (GEntry.encS b)] [] (.lit (.bool res)) []):=⟨by
 intro res h0
 refine co (hi:=hi00) func83 rfl rfl ?_
 unfold dz at h0
 exact run⟩
instance k25 {a:GDesk} {b:GDesk}:Ctr (eD a b) (fun (res:Bool)=>aj prog 25 [.agg (GDesk.encS a),.agg (GDesk.encS b)] [] (.lit (.bool res)) []):=⟨by
 intro res h0
 refine co (hi:=hi00) func25 rfl rfl ?_
 unfold eD at h0
 obtain⟨r01,g0,h0⟩:=ae h0
 simp(config:=cS)only[go_sem, *]
 have g0:=ctr g0
 refine ag g0 ?_
 obtain⟨_,h0⟩|⟨_,h0⟩:=itB h0
 ·obtain⟨r02,g0,h0⟩:=ae h0
  simp(config:=cS)only[go_sem, *]
  have g0:=ctr g0
  refine ag g0 ?_
  obtain⟨_,h0⟩|⟨_,h0⟩:=itB h0
  ·obtain⟨_,h0⟩|⟨_,h0⟩:=itP h0
   ·obtain⟨r03,g0,h0⟩:=ae h0
    simp(config:=cS)only[go_sem, *]
    refine ag (tn (by exact fun _ _ _ hr=>by have q:=ctr hr;exact q) (by refine⟨fun _=>?_,fun _=>?_⟩ <;> simp only[go_sem]) (fun _=>rfl) rfl g0) ?_
    exact run
   ·exact run
  ·exact run
 ·exact run⟩
def rb (n:Int):(Int × (List Int) × Int × Int)→St
 | (i,a,b,c)=>⟨[(1,.lit (.int .i64 n)),(5,.ptr 512 1 0 0),(6,.lit (.int .i64 i))],[(512,1,.var [.sl (ab (eK .u8) a),.lit (.int .i64 b),.lit (.int .i64 c)])],2⟩
attribute[go_sem] rb
instance k89 {code:List Int} {n:Int}:Ctr (mD code n) (fun (res:GL01Cur)=>aj prog 89 [.sl (ab (eK .u8) code),.lit (.int .i64 n)] [] (.ptr 20000 1 0 0) [(20000,1,.var [.sl (ab (eK .u8) res.b),.lit (.int .i64 res.i),.lit (.int .i64 res.h)])]):=⟨by
 intro res h0
 refine co (hi:=hi00) func89 rfl rfl ?_
 unfold mD at h0
 obtain⟨r01,g0,h0⟩:=ae h0
 simp(config:=cS)only[go_sem, *]
 have g0:=ctr g0
 refine ag g0 ?_
 obtain⟨q03,l0,h0⟩:=ae h0
 simp(config:=cS)only[go_sem, *]
 refine ai (m1:=.mk) (m2:=.mk) [.nf [1,5,6] [512]] (rb n) l0 ?_ ?_
 ·simp(config:=cS)only[go_sem, *]
 ·have k0:=h0
  clear h0 l0
  intro _ s0 _ h0 gb0
  obtain⟨i_1,v5_0_1,v5_1_1,v5_2_1⟩:=s0
  unfold kg at h0
  try dsimp only at h0
  exact run⟩
instance k29 {code:List Int} {n:Int}:Ctr (fq code n) (fun (res:Int)=>aj prog 29 [.sl (ab (eK .u8) code),.lit (.int .i64 n)] [] (.lit (.int .i64 res)) []):=⟨by
 intro res h0
 refine co (hi:=hi00) func29 rfl rfl ?_
 unfold fq at h0
 exact run⟩
@[go_sem] def hi26_1:DT:=.i1 0 (.i2 1 (.i2 2 (.i1 4 (.fork (.i0 3 [0,4] (.fork (.i0 5 [0] (.i2 6 (.fork (.i2 7 (.i2 8 (.i2 9 (.i2 10 (.i0 11 [0,4] (.i2 12 (.i2 13 .nil))))))) (.i0 11 [0,4] (.i2 7 (.i2 8 (.i2 9 (.i2 10 (.i2 12 (.i2 13 .nil)))))))))) (.i0 11 [0,4] (.i0 5 [0] (.i2 6 (.i2 7 (.i2 8 (.i2 9 (.i2 10 (.i2 12 (.i2 13 .nil))))))))))) (.i0 11 [0,4] (.i0 3 [0,4] (.i0 5 [0] (.i2 6 (.i2 7 (.i2 8 (.i2 9 (.i2 10 (.i2 12 (.i2 13 .nil))))))))))))))
def hi26:Hint where
 acts:=fun _=>[]
 draws:=fun
  | 1=>⟨hi26_1,[[],[],[],[1,2],[],[1,2,3,4],[1,2,3,4,5],.range 7,.range 8,.range 9,.range 9,[],[0,1,2,3,4,5,6,7,8,9,11],.range 13],[0,1,2,3,4,5,6,7,8,9,12,10,11,13]⟩
  | _=>⟨.nil,[],[]⟩
theorem VN (i:Nat):hi26.acts i=[]:=rfl
theorem VO (i:Nat):hi26.views i=none:=rfl
attribute[go_sem] VN VO ntmps26 results26
@[go_sem] theorem Zt:(hi26.draws 1).order=hi26_1:=rfl
instance k26 {code:List Int} {n:Int} {s:GShow}:Ctr (jm code n s) (fun (res:GChoice)=>aj prog 26 [.sl (ab (eK .u8) code),.lit (.int .i64 n),.agg (GShow.encS s)] [] (.agg [.ref 20000 1 0 res.lengths.length,.ref 20001 1 0 res.values.length]) [(20000,1,.row true (ab eI res.lengths)),(20001,1,.row true (ab eI res.values))]):=⟨by
 intro res h0
 refine aw (ra:=[.homeCell 384 0,.homeCell 384 1]) (md:=mdT) hT (hi:=hi26) func26 rfl rfl (by decide +kernel) (by simp) ?_
 unfold jm at h0
 try simp(config:=cS)only[go_sem, *]
 refine bb ?_ ?_
 ·obtain⟨r01,g0,h0⟩:=ae h0
  simp(config:=cS)only[go_sem, *]
  have g0:=ctr g0
  refine ag g0 ?_
  try simp(config:=cS)only[go_sem, *]
  refine bb ?_ ?_
  ·obtain⟨r02,g0,h0⟩:=ae h0
   simp(config:=cS)only[go_sem, *]
   have g0:=ctr g0
   refine ag g0 ?_
   obtain⟨_,h0⟩:=ckN h0
   try simp(config:=cS)only[go_sem, *]
   refine bb ?_ ?_
   ·exact run
   ·exact run
  ·exact run
 ·exact run⟩
@[go_sem] def hi5_16:DT:=.i1 0 (.i1 1 (.i1 2 (.i1 3 (.i2 4 (.i1 5 (.fork (.i2 6 (.i2 7 (.i2 8 (.i2 9 (.i0 10 [0,1,2,3,5] (.i2 11 (.i2 12 .nil))))))) (.i0 10 [0,1,2,3,5] (.i2 6 (.i2 7 (.i2 8 (.i2 9 (.i2 11 (.i2 12 .nil)))))))))))))
@[go_sem] def hi5_15:DT:=.i2 0 (.i1 2 (.i1 3 (.i1 4 (.i0 1 [2,3,4] (.i2 5 (.i2 6 .nil))))))
def hi5:Hint where
 acts:=fun _=>[]
 draws:=fun
  | 15=>⟨hi5_15,[[],[0],[],[2],[2,3],.range 5,.range 6],.range 7⟩
  | 16=>⟨hi5_16,[[],[0],[],[2],[],[2,3,4],.range 6,.range 7,.range 8,.range 8,[],[0,1,2,3,4,5,6,7,8,10],.range 12],[0,1,2,3,4,5,6,7,8,11,9,10,12]⟩
  | _=>⟨.nil,[],[]⟩
theorem hi5a (i:Nat):hi5.acts i=[]:=rfl
theorem hi5v (i:Nat):hi5.views i=none:=rfl
attribute[go_sem] hi5a hi5v ntmps5 results5
@[go_sem] theorem Zu:(hi5.draws 15).order=hi5_15:=rfl
@[go_sem] theorem Zv:(hi5.draws 16).order=hi5_16:=rfl
theorem xt {code:List Int}{res:Bool}(h0:kX code=some res):aj prog 5 [.sl (ab (eK .u8) code)] [] (.lit (.bool res)) []:=by
 refine co (hi:=hi5) func5 rfl rfl ?_
 unfold kX at h0
 obtain⟨_,h0⟩|⟨_,h0⟩:=itP h0
 ·exact run
 ·obtain⟨r01,g0,h0⟩:=ae h0
  simp(config:=cS)only[go_sem, *]
  have g0:=ctr g0
  refine ag g0 ?_
  obtain⟨r02,g0,h0⟩:=ae h0
  simp(config:=cS)only[go_sem, *]
  refine ag (wF g0) ?_
  obtain⟨r03,g0,h0⟩:=ae h0
  simp(config:=cS)only[go_sem, *]
  have g0:=ctr g0
  refine ag g0 ?_
  obtain⟨r04,g0,h0⟩:=ae h0
  simp(config:=cS)only[go_sem, *]
  have g0:=ctr g0
  refine ag g0 ?_
  obtain⟨_,h0⟩|⟨_,h0⟩:=itB h0
  ·obtain⟨_,h0⟩|⟨_,h0⟩:=itP h0
   ·obtain⟨_,h0⟩|⟨_,h0⟩:=itP h0
    ·obtain⟨r05,g0,h0⟩:=ae h0
     simp(config:=cS)only[go_sem, *]
     have g0:=ctr g0
     refine ag g0 ?_
     obtain⟨_,h0⟩|⟨_,h0⟩:=itB h0
     ·obtain⟨r06,g0,h0⟩:=ae h0
      simp(config:=cS)only[go_sem, *]
      have g0:=ctr g0
      refine ag g0 ?_
      obtain⟨r07,g0,h0⟩:=ae h0
      simp(config:=cS)only[go_sem, *]
      have g0:=ctr g0
      refine ag g0 ?_
      obtain⟨r08,g0,h0⟩:=ae h0
      simp(config:=cS)only[go_sem, *]
      have g0:=ctr g0
      refine ag g0 ?_
      obtain⟨r09,g0,h0⟩:=ae h0
      simp(config:=cS)only[go_sem, *]
      have g0:=ctr g0
      refine ag g0 ?_
      obtain⟨_,h0⟩|⟨_,h0⟩:=itP h0
      ·obtain⟨r10,g0,h0⟩:=ae h0
       simp(config:=cS)only[go_sem, *]
       have g0:=ctr g0
       refine ag g0 ?_
       obtain⟨_,h0⟩:=ckN h0
       obtain⟨_,h0⟩:=ckP h0
       obtain⟨_,h0⟩:=ckP h0
       try simp(config:=cS)only[go_sem, *]
       refine bb ?_ ?_
       ·exact run
       ·exact run
      ·obtain⟨_,h0⟩:=ckP h0
       try simp(config:=cS)only[go_sem, *]
       refine bb ?_ ?_
       ·exact run
       ·exact run
     ·exact run
    ·exact run
   ·exact run
  ·exact run
end Go.Proofs.Qe
