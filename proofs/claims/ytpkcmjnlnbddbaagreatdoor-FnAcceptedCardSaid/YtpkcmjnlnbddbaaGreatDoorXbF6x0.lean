/- Functions. -/
import Derived.Test.YtpkcmjnlnbddbaaGreatDoorXbFK2
set_option linter.all false
set_option maxRecDepth 100000
set_option maxHeartbeats 4000000
namespace Go.Proofs.Qb
open Go
def qk (a:List Int):(Int × Int)→St
 | (b,i)=>⟨[(0,.sl (ab (eK .u8) a)),(3,.lit (.int .i64 b)),(4,.lit (.int .i64 i))],[],2⟩
attribute [go_sem] qk
attribute [go_sem] Tryz.ntmps74 Tryz.results74
instance k74 {code:List Int}:Ctr (jW code) (fun (res:GL01Cur)=>ai Tryz.prog 74 [.sl (ab (eK .u8) code)] [] (.ptr 20000 1 0 0) [(20000,1,.var [.sl (ab (eK .u8) res.b),.lit (.int .i64 res.i),.lit (.int .i64 res.h)])]):=⟨by
 intro res h0
 refine co (hi:=hi00) Tryz.func74 rfl rfl ?_
 unfold jW at h0
 obtain ⟨q02,l0,h0⟩:=ae h0
 simp(config:=cS)only[go_sem, *]
 refine aj (m1:=.mk) (m2:=.mk) [.nf [0,3,4] []] (qk code) l0 ?_ ?_
 ·simp(config:=cS)only[go_sem, *]
 ·have k0:=h0
  clear h0 l0
  intro _ s0 _ h0 gb0
  obtain ⟨v3_1,i_1⟩:=s0
  unfold jJ at h0
  try dsimp only at h0
  exact run⟩
@[go_sem] def hi90_4:DT:=.r2 0 15 .nil
@[go_sem] def hi90_3:DT:=.r2 0 10 .nil
@[go_sem] def hi90_2:DT:=.r2 0 13 .nil
def hi90:Hint where
 acts:=fun _=>[]
 draws:=fun
  | 2=>⟨hi90_2,[[],[0],[0,1],[0,1,2],[0,1,2,3],[],[5],[5,6],[5,6,7],[5,6,7,8],.range 10,.range 11,.range 12],.range 13⟩
  | 3=>⟨hi90_3,[[],[0],[0,1],[0,1,2],[],[4],[4,5],[4,5,6],[4,5,6,7],.range 9],.range 10⟩
  | 4=>⟨hi90_4,[[],[],[1],[1,2],[1,2,3],[],[5],[5,6],[5,6,7],[1,2,3,4,5,6,7,8],[1,2,3,4,5,6,7,8,9],[1,2,3,4,5,6,7,8,9,10],.range 12,.range 13,.range 14],.range 15⟩
  | _=>⟨.nil,[],[]⟩
theorem TL (i:Nat):hi90.acts i=[]:=rfl
theorem TM (i:Nat):hi90.views i=none:=rfl
attribute [go_sem] TL TM Tryz.ntmps90 Tryz.results90
@[go_sem] theorem Xj:(hi90.draws 2).order=hi90_2:=rfl
@[go_sem] theorem Xk:(hi90.draws 3).order=hi90_3:=rfl
@[go_sem] theorem Xl:(hi90.draws 4).order=hi90_4:=rfl
instance k90 {v0:GL01Cur}:Ctr (cm v0) (fun (res:Int × GL01Cur)=>ai Tryz.prog 90 [.ptr 10000 0 0 0] [(10000,0,.var [.sl (ab (eK .u8) v0.b),.lit (.int .i64 v0.i),.lit (.int .i64 v0.h)])] (.lit (.int .i64 res.1)) [(10000,0,.var [.sl (ab (eK .u8) res.2.b),.lit (.int .i64 res.2.i),.lit (.int .i64 res.2.h)])]):=⟨by
 intro res h0
 refine co (hi:=hi90) Tryz.func90 rfl rfl ?_
 unfold cm at h0
 exact run⟩
attribute [go_sem] Tryz.ntmps111 Tryz.results111
instance k111 {v0:GL01Cur} {n:Int}:Ctr (aJ v0 n) (fun (res:Int × GL01Cur)=>ai Tryz.prog 111 [.ptr 10000 0 0 0,.lit (.int .i64 n)] [(10000,0,.var [.sl (ab (eK .u8) v0.b),.lit (.int .i64 v0.i),.lit (.int .i64 v0.h)])] (.lit (.int .i64 res.1)) [(10000,0,.var [.sl (ab (eK .u8) res.2.b),.lit (.int .i64 res.2.i),.lit (.int .i64 res.2.h)])]):=⟨by
 intro res h0
 refine co (hi:=hi00) Tryz.func111 rfl rfl ?_
 unfold aJ at h0
 exact run⟩
attribute [go_sem] Tryz.ntmps112 Tryz.results112
instance k112 {v0:GL01Cur} {n:Int}:Ctr (gM v0 n) (fun (res:Bool × GL01Cur)=>ai Tryz.prog 112 [.ptr 10000 0 0 0,.lit (.int .i64 n)] [(10000,0,.var [.sl (ab (eK .u8) v0.b),.lit (.int .i64 v0.i),.lit (.int .i64 v0.h)])] (.lit (.bool res.1)) [(10000,0,.var [.sl (ab (eK .u8) res.2.b),.lit (.int .i64 res.2.i),.lit (.int .i64 res.2.h)])]):=⟨by
 intro res h0
 refine co (hi:=hi00) Tryz.func112 rfl rfl ?_
 unfold gM at h0
 exact run⟩
def nJ (f:Int)(a:List GNode):(Int × (List GTie) × (List Int) × Int × Int)→St
 | (i,b,c,d,e)=>⟨[(0,.ptr 10000 0 0 0),(2,.ptr 128 1 0 0),(3,.ptr 192 1 0 0),(5,.lit (.int .i64 i))],[(10000,0,.var [.sl (ab (eK .u8) c),.lit (.int .i64 d),.lit (.int .i64 e)]),(128,1,.var [.lit (.slice none 0 0),.lit (.slice none 0 0),.lit (.int .i64 0)]),(192,1,.var [.ref 1024 1 0 a.length,.ref 1664 1 0 b.length,.lit (.int .i64 f)]),(1024,1,.row true (ab GNode.encO a)),(1664,1,.row true (ab GTie.enc b))],2⟩
attribute [go_sem] nJ
@[go_sem] def hi178_13:DT:=.i1 0 (.i1 1 (.r2 2 3 (.i0 5 [0,1] (.i2 6 (.i2 7 (.i0 8 [0,1] (.r2 9 3 .nil)))))))
@[go_sem] def hi178_9:DT:=.i1 0 (.i1 1 (.i2 2 (.r2 4 5 (.i0 3 [0,1] (.i0 9 [0,1] (.i2 10 (.i2 11 (.i0 12 [0,1] (.r2 13 3 .nil)))))))))
def BD:Hint where
 acts:=fun _=>[]
 draws:=fun
  | 9=>⟨hi178_9,[[],[0],[],[2],[],[],[],[6],[],[2,3,8],[2,3,6,7,8,9],[2,3,4,5,6,7,8,9,10],[2,3,4,5,6,7,8,9,10,11],.range 13,.range 14,.range 15],.range 16⟩
  | 13=>⟨hi178_13,[[],[0],[],[],[],[4],[3,4,5],[2,3,4,5,6],[2,3,4,5,6,7],.range 9,.range 10,.range 11],.range 12⟩
  | _=>⟨.nil,[],[]⟩
theorem Ra (i:Nat):BD.acts i=[]:=rfl
theorem Rb (i:Nat):BD.views i=none:=rfl
attribute [go_sem] Ra Rb Tryz.ntmps178 Tryz.results178
@[go_sem] theorem Wd:(BD.draws 9).order=hi178_9:=rfl
@[go_sem] theorem Vf:(BD.draws 13).order=hi178_13:=rfl
instance k178 {v0:GL01Cur}:Ctr (jK v0) (fun (res:GShow × GL01Cur)=>ai Tryz.prog 178 [.ptr 10000 0 0 0] [(10000,0,.var [.sl (ab (eK .u8) v0.b),.lit (.int .i64 v0.i),.lit (.int .i64 v0.h)])] (.agg [.ref 20000 1 0 res.1.nodes.length,.ref 20001 1 0 res.1.ties.length,.lit (.int .i64 res.1.horizon)]) [(10000,0,.var [.sl (ab (eK .u8) res.2.b),.lit (.int .i64 res.2.i),.lit (.int .i64 res.2.h)]),(20000,1,.row true (ab GNode.encO res.1.nodes)),(20001,1,.row true (ab GTie.enc res.1.ties))]):=⟨by
 intro res h0
 refine aC (ra:=[.homeCell 128 0,.homeCell 128 1]) (md:=mdT) hT (hi:=BD) Tryz.func178 rfl rfl (by decide +kernel) (by simp) ?_
 unfold jK at h0
 obtain ⟨r01,g0,h0⟩:=ae h0
 simp(config:=cS)only[go_sem, *]
 have g0:=ctr g0
 refine ag g0 ?_
 obtain ⟨r02,g0,h0⟩:=ae h0
 simp(config:=cS)only[go_sem, *]
 have g0:=ctr g0
 refine ag g0 ?_
 obtain ⟨r03,g0,h0⟩:=ae h0
 simp(config:=cS)only[go_sem, *]
 have g0:=ctr g0
 refine ag g0 ?_
 obtain ⟨q10,l0,h0⟩:=ae h0
 simp(config:=cS)only[go_sem, *]
 refine aj (m1:=.mk) (m2:=.mk) [.nf [0,2,3,5] [10000,128,192,1024,1664]] (nJ (IntKind.wrap .i64 (4+r01.1)) ([(GNode.mk (ByteArray.mk #[103,111]) ([]) 0),(GNode.mk (ByteArray.mk #[97]) ([]) 1),(GNode.mk (ByteArray.mk #[98]) ([1]) 0),(GNode.mk (ByteArray.mk #[99]) ([(-1)]) 0)])) l0 ?_ ?_
 ·simp(config:=cS)only[go_sem, *]
 ·have k0:=h0
  clear h0 l0
  intro _ s0 _ h0 gb0
  obtain ⟨i_1,h1664_1,v0_0_1,v0_1_1,v0_2_1⟩:=s0
  unfold gp at h0
  try dsimp only at h0
  exact run⟩
attribute [go_sem] Tryz.ntmps251 Tryz.results251
instance k251 {i:Int}:Ctr (jo i) (fun (res:ByteArray)=>ai Tryz.prog 251 [.lit (.int .i64 i)] [] (.lit (.string res)) []):=⟨by
 intro res h0
 refine co (hi:=hi00) Tryz.func251 rfl rfl ?_
 unfold jo at h0
 obtain ⟨x01,a1,a2,a3,h0⟩:=gtI h0
 try simp only [List.length_append,List.length_cons,List.length_nil,Nat.zero_add,Nat.reduceAdd] at a1
 try simp only [List.length_append,List.length_cons,List.length_nil,Nat.zero_add,Nat.reduceAdd] at a2
 try simp only [List.length_append,List.length_cons,List.length_nil,Nat.zero_add,Nat.reduceAdd] at a3
 exact run⟩
def pC (m f:Int)(a:List GNode):(Int × (List Int) × Int × Int × (List GTie))→St
 | (k,c,d,e,b)=>⟨[(0,.ptr 10000 0 0 0),(3,.ptr 192 1 0 0),(4,.ptr 256 1 0 0),(5,.lit (.int .i64 m)),(6,.lit (.int .i64 k))],[(10000,0,.var [.sl (ab (eK .u8) c),.lit (.int .i64 d),.lit (.int .i64 e)]),(192,1,.var [.ref 10001 0 0 a.length,.ref 10002 1 0 b.length,.lit (.int .i64 f)]),(10001,0,.row true (ab GNode.encO a)),(10002,1,.row true (ab GTie.enc b)),(256,1,.var [.lit (.slice none 0 0),.lit (.slice none 0 0),.lit (.int .i64 0)])],2⟩
attribute [go_sem] pC
@[go_sem] def hi252_7:DT:=.i1 0 (.i1 1 (.r2 2 6 (.i2 10 (.r2 12 4 (.i0 8 [0,1] (.i2 9 (.i2 11 (.i0 16 [0,1] (.i2 17 (.i2 18 (.i0 19 [0,1] (.r2 20 3 .nil))))))))))))
def FA:Hint where
 acts:=fun _=>[]
 draws:=fun
  | 7=>⟨hi252_7,[[],[0],[],[],[3],[],[],[6],[5,6,7],[3,4,5,6,7,8],[],[3,4,5,6,7,8,9,10],[],[],[13],[],[5,6,7,8,15],[5,6,7,8,13,14,15,16],[2,3,4,5,6,7,8,9,10,11,12,13,14,15,16,17],[2,3,4,5,6,7,8,9,10,11,12,13,14,15,16,17,18],.range 20,.range 21,.range 22],.range 23⟩
  | _=>⟨.nil,[],[]⟩
theorem Rc (i:Nat):FA.acts i=[]:=rfl
theorem Rd (i:Nat):FA.views i=none:=rfl
attribute [go_sem] Rc Rd Tryz.ntmps252 Tryz.results252
@[go_sem] theorem We:(FA.draws 7).order=hi252_7:=rfl
instance k252 {v0:GL01Cur} {s:GShow}:Ctr (lp v0 s) (fun (res:GShow × GL01Cur × (List GNode))=>ai Tryz.prog 252 [.ptr 10000 0 0 0,.agg [.ref 10001 0 0 s.nodes.length,.ref 10002 0 0 s.ties.length,.lit (.int .i64 s.horizon)]] [(10000,0,.var [.sl (ab (eK .u8) v0.b),.lit (.int .i64 v0.i),.lit (.int .i64 v0.h)]),(10001,0,.row true (ab GNode.encO s.nodes)),(10002,0,.row true (ab GTie.enc s.ties))] (.agg [.ref 10001 0 0 res.2.2.length,.ref 20000 1 0 res.1.ties.length,.lit (.int .i64 res.1.horizon)]) [(10000,0,.var [.sl (ab (eK .u8) res.2.1.b),.lit (.int .i64 res.2.1.i),.lit (.int .i64 res.2.1.h)]),(10001,0,.row true (ab GNode.encO res.2.2)),(20000,1,.row true (ab GTie.enc res.1.ties))]):=⟨by
 intro res h0
 refine aC (ra:=[.homeCell 256 0,.homeCell 256 1]) (md:=mdT) hT (hi:=FA) Tryz.func252 rfl rfl (by decide +kernel) (by simp) ?_
 unfold lp at h0
 obtain ⟨r01,g0,h0⟩:=ae h0
 simp(config:=cS)only[go_sem, *]
 have g0:=ctr g0
 refine ag g0 ?_
 obtain ⟨q06,l0,h0⟩:=ae h0
 simp(config:=cS)only[go_sem, *]
 refine aj (m1:=.mk) (m2:=.mk) [.nfo [0,3,4,5,6] [10000,192,10001,10002,256] [10002]] (pC ((s.nodes.length:Nat):Int) s.horizon s.nodes) l0 ?_ ?_
 ·simp(config:=cS)only[go_sem, *]
 ·have k0:=h0
  clear h0 l0
  intro _ s0 _ h0 gb0
  obtain ⟨k_1,v0_0_1,v0_1_1,v0_2_1,h10002_1⟩:=s0
  unfold iW at h0
  try dsimp only at h0
  exact run⟩
def oK (f:Int):(Int × (List GNode) × (List Int) × Int × Int × (List GTie))→St
 | (n,b,c,d,e,a)=>⟨[(0,.ptr 10000 0 0 0),(2,.ptr 128 1 0 0),(3,.ptr 192 1 0 0),(4,.lit (.int .i64 n))],[(10000,0,.var [.sl (ab (eK .u8) c),.lit (.int .i64 d),.lit (.int .i64 e)]),(128,1,.var [.lit (.slice none 0 0),.lit (.slice none 0 0),.lit (.int .i64 0)]),(192,1,.var [.ref 512 1 0 b.length,.ref 100012289 1 0 a.length,.lit (.int .i64 f)]),(512,1,.row true (ab GNode.encO b)),(100012289,1,.row true (ab GTie.enc a))],2⟩
attribute [go_sem] oK
@[go_sem] def hi179_12:DT:=.i1 0 (.i1 1 (.r2 2 6 (.i0 8 [0,1] (.i2 9 (.i2 10 (.i0 11 [0,1] (.r2 12 3 .nil)))))))
@[go_sem] def hi179_11:DT:=.i1 0 (.i1 1 (.i2 2 (.i2 3 (.i0 4 [0,1] (.i2 5 (.i0 6 [0,1] (.r2 7 3 .nil)))))))
@[go_sem] def hi179_8:DT:=.i1 0 (.i1 1 (.i2 2 (.i2 3 (.r2 5 4 (.i0 4 [0,1] (.i0 9 [0,1] (.i2 10 (.i2 11 (.i0 12 [0,1] (.r2 13 3 .nil))))))))))
@[go_sem] def hi179_7:DT:=.i1 0 (.i1 1 (.i2 2 (.i0 3 [0,1] (.i2 4 (.i0 5 [0,1] (.r2 6 3 .nil))))))
def uw:Hint where
 acts:=fun _=>[]
 draws:=fun
  | 7=>⟨hi179_7,[[],[0],[],[2],[2,3],[2,3,4],.range 6,.range 7,.range 8],.range 9⟩
  | 8=>⟨hi179_8,[[],[0],[],[],[2,3],[],[],[],[],[2,3,4,8],[2,3,4,7,8,9],[2,3,4,5,6,7,8,9,10],[2,3,4,5,6,7,8,9,10,11],.range 13,.range 14,.range 15],.range 16⟩
  | 11=>⟨hi179_11,[[],[0],[],[2],[2,3],[2,3,4],[2,3,4,5],.range 7,.range 8,.range 9],.range 10⟩
  | 12=>⟨hi179_12,[[],[0],[],[],[3],[],[],[],[7],[6,7,8],[2,3,4,5,6,7,8,9],[2,3,4,5,6,7,8,9,10],.range 12,.range 13,.range 14],.range 15⟩
  | _=>⟨.nil,[],[]⟩
theorem Re (i:Nat):uw.acts i=[]:=rfl
theorem Rf (i:Nat):uw.views i=none:=rfl
attribute [go_sem] Re Rf Tryz.ntmps179 Tryz.results179
@[go_sem] theorem Wf:(uw.draws 7).order=hi179_7:=rfl
@[go_sem] theorem Wg:(uw.draws 8).order=hi179_8:=rfl
@[go_sem] theorem Vg:(uw.draws 11).order=hi179_11:=rfl
@[go_sem] theorem Vh:(uw.draws 12).order=hi179_12:=rfl
instance k179 {v0:GL01Cur}:Ctr (ku v0) (fun (res:GShow × GL01Cur)=>ai Tryz.prog 179 [.ptr 10000 0 0 0] [(10000,0,.var [.sl (ab (eK .u8) v0.b),.lit (.int .i64 v0.i),.lit (.int .i64 v0.h)])] (.agg [.ref 20000 1 0 res.1.nodes.length,.ref 20001 1 0 res.1.ties.length,.lit (.int .i64 res.1.horizon)]) [(10000,0,.var [.sl (ab (eK .u8) res.2.b),.lit (.int .i64 res.2.i),.lit (.int .i64 res.2.h)]),(20000,1,.row true (ab GNode.encO res.1.nodes)),(20001,1,.row true (ab GTie.enc res.1.ties))]):=⟨by
 intro res h0
 refine aC (ra:=[.homeCell 128 0,.homeCell 128 1]) (md:=mdT) hT (hi:=uw) Tryz.func179 rfl rfl (by decide +kernel) (by simp) ?_
 unfold ku at h0
 obtain ⟨r01,g0,h0⟩:=ae h0
 simp(config:=cS)only[go_sem, *]
 have g0:=ctr g0
 refine ag g0 ?_
 obtain ⟨r02,g0,h0⟩:=ae h0
 simp(config:=cS)only[go_sem, *]
 have g0:=ctr g0
 refine ag g0 ?_
 obtain ⟨q12,l0,h0⟩:=ae h0
 simp(config:=cS)only[go_sem, *]
 refine aj (m1:=.mk) (m2:=.mk) [.homeCell 192 1,.nf [0,2,3,4] [10000,128,192,512,100012289]] (oK (IntKind.wrap .i64 (4+r01.1))) l0 ?_ ?_
 ·simp(config:=cS)only[go_sem, *]
 ·have k0:=h0
  clear h0 l0
  intro _ s0 _ h0 gb0
  obtain ⟨n_1,h512_1,v0_0_1,v0_1_1,v0_2_1,h100012289_1⟩:=s0
  unfold il at h0
  try dsimp only at h0
  obtain ⟨_,h0⟩|⟨_,h0⟩:=itP h0
  ·obtain ⟨r03,g0,h0⟩:=ae h0
   simp(config:=cS)only[go_sem, *]
   have g0:=ctr g0
   refine ag g0 ?_
   obtain ⟨r04,g0,h0⟩:=ae h0
   simp(config:=cS)only[go_sem, *]
   have g0:=ctr g0
   refine ag g0 ?_
   obtain ⟨_,h0⟩:=ckP h0
   obtain ⟨_,h0⟩:=ckP h0
   obtain ⟨r05,g0,h0⟩:=ae h0
   simp(config:=cS)only[go_sem, *]
   have g0:=ctr g0
   refine ag g0 ?_
   obtain ⟨r06,g0,h0⟩:=ae h0
   simp(config:=cS)only[go_sem, *]
   have g0:=ctr g0
   refine ag g0 ?_
   obtain ⟨_,h0⟩:=ckP h0
   obtain ⟨_,h0⟩:=ckP h0
   obtain ⟨r07,g0,h0⟩:=ae h0
   simp(config:=cS)only[go_sem, *]
   have g0:=ctr g0
   refine ag g0 ?_
   obtain ⟨_,h0⟩|⟨_,h0⟩:=itB h0
   ·obtain ⟨_,h0⟩|⟨_,h0⟩:=itP h0
    ·obtain ⟨r08,g0,h0⟩:=ae h0
     simp(config:=cS)only[go_sem, *]
     have g0:=ctr g0
     refine ag g0 ?_
     obtain ⟨r09,g0,h0⟩:=ae h0
     simp(config:=cS)only[go_sem, *]
     have g0:=ctr g0
     refine ag g0 ?_
     obtain ⟨a1,h0⟩:=ckP h0
     try simp(config:=cS)only[go_sem] at a1
     obtain ⟨a2,h0⟩:=ckP h0
     try simp(config:=cS)only[go_sem] at a2
     obtain ⟨r10,g0,h0⟩:=ae h0
     simp(config:=cS)only[go_sem, *]
     have g0:=ctr g0
     refine ag g0 ?_
     obtain ⟨a3,h0⟩:=ckP h0
     try simp(config:=cS)only[go_sem] at a3
     obtain ⟨a4,h0⟩:=ckP h0
     try simp(config:=cS)only[go_sem] at a4
     exact run
    ·exact run
   ·exact run
  ·exact run⟩
attribute [go_sem] Tryz.ntmps92 Tryz.results92
instance k92 {v0:GL01Cur}:Ctr (lq v0) (fun (res:GShow × GL01Cur)=>ai Tryz.prog 92 [.ptr 10000 0 0 0] [(10000,0,.var [.sl (ab (eK .u8) v0.b),.lit (.int .i64 v0.i),.lit (.int .i64 v0.h)])] (.agg [.ref 20000 1 0 res.1.nodes.length,.ref 20001 1 0 res.1.ties.length,.lit (.int .i64 res.1.horizon)]) [(10000,0,.var [.sl (ab (eK .u8) res.2.b),.lit (.int .i64 res.2.i),.lit (.int .i64 res.2.h)]),(20000,1,.row true (ab GNode.encO res.1.nodes)),(20001,1,.row true (ab GTie.enc res.1.ties))]):=⟨by
 intro res h0
 refine aC (ra:=[.homeCell 128 0,.homeCell 128 1]) (md:=mdT) hT (hi:=hi00) Tryz.func92 rfl rfl (by decide +kernel) (by simp) ?_
 unfold lq at h0
 exact run⟩
attribute [go_sem] Tryz.ntmps31 Tryz.results31
instance k31 {code:List Int}:Ctr (kv code) (fun (res:GShow)=>ai Tryz.prog 31 [.sl (ab (eK .u8) code)] [] (.agg [.ref 20000 1 0 res.nodes.length,.ref 20001 1 0 res.ties.length,.lit (.int .i64 res.horizon)]) [(20000,1,.row true (ab GNode.encO res.nodes)),(20001,1,.row true (ab GTie.enc res.ties))]):=⟨by
 intro res h0
 refine aC (ra:=[.homeCell 128 0,.homeCell 128 1]) (md:=mdT) hT (hi:=hi00) Tryz.func31 rfl rfl (by decide +kernel) (by simp) ?_
 unfold kv at h0
 exact run⟩
@[go_sem] def hi34_1:DT:=.r2 0 5 (.i1 6 (.i0 5 [6] (.r2 7 3 .nil)))
def hi34:Hint where
 acts:=fun _=>[]
 draws:=fun
  | 1=>⟨hi34_1,[[],[],[0,1],[0,1,2],[0,1,2,3],.range 5,[0,1,2,3],.range 7,.range 8,.range 9],.range 10⟩
  | _=>⟨.nil,[],[]⟩
theorem TN (i:Nat):hi34.acts i=[]:=rfl
theorem TO (i:Nat):hi34.views i=none:=rfl
attribute [go_sem] TN TO Tryz.ntmps34 Tryz.results34
@[go_sem] theorem Xm:(hi34.draws 1).order=hi34_1:=rfl
instance k34 {s:GShow} {v1:GState}:Ctr (iz s v1) (fun (res:Bool)=>ai Tryz.prog 34 [.agg (GShow.encS s),.agg (GState.encS v1)] [] (.lit (.bool res)) []):=⟨by
 intro res h0
 refine co (hi:=hi34) Tryz.func34 rfl rfl ?_
 unfold iz at h0
 obtain ⟨r01,g0,h0⟩:=ae h0
 simp(config:=cS)only[go_sem, *]
 have g0:=ctr g0
 refine ag g0 ?_
 obtain ⟨_,h0⟩|⟨_,h0⟩:=itB h0
 ·obtain ⟨r02,g0,h0⟩:=ae h0
  simp(config:=cS)only[go_sem, *]
  have g0:=ctr g0
  refine ag g0 ?_
  obtain ⟨r03,g0,h0⟩:=ae h0
  simp(config:=cS)only[go_sem, *]
  refine ag (oC g0) ?_
  exact run
 ·exact run⟩
@[go_sem] def hi32_1:DT:=.i1 0 (.i2 1 (.i0 2 [0] (.i2 3 (.i2 4 .nil))))
def hi32:Hint where
 acts:=fun _=>[]
 draws:=fun
  | 1=>⟨hi32_1,[[],[],[1],[0,1,2],[0,1,2,3]],.range 5⟩
  | _=>⟨.nil,[],[]⟩
theorem TP (i:Nat):hi32.acts i=[]:=rfl
theorem TQ (i:Nat):hi32.views i=none:=rfl
attribute [go_sem] TP TQ Tryz.ntmps32 Tryz.results32
@[go_sem] theorem Xn:(hi32.draws 1).order=hi32_1:=rfl
instance k32 {s:GShow}:Ctr (gN s) (fun (res:Bool)=>ai Tryz.prog 32 [.agg (GShow.encS s)] [] (.lit (.bool res)) []):=⟨by
 intro res h0
 refine co (hi:=hi32) Tryz.func32 rfl rfl ?_
 unfold gN at h0
 exact run⟩
@[go_sem] def hi33_1:DT:=.r2 0 3 (.i1 3 (.i2 4 (.i0 5 [3] (.r2 6 3 .nil))))
def hi33:Hint where
 acts:=fun _=>[]
 draws:=fun
  | 1=>⟨hi33_1,[[],[0],[0,1],[0,1,2],[0,1,2],[0,1,2,4],.range 6,.range 7,.range 8],.range 9⟩
  | _=>⟨.nil,[],[]⟩
theorem TR (i:Nat):hi33.acts i=[]:=rfl
theorem TS (i:Nat):hi33.views i=none:=rfl
attribute [go_sem] TR TS Tryz.ntmps33 Tryz.results33
@[go_sem] theorem Xo:(hi33.draws 1).order=hi33_1:=rfl
instance k33 {s:GShow}:Ctr (jM s) (fun (res:Bool)=>ai Tryz.prog 33 [.agg (GShow.encS s)] [] (.lit (.bool res)) []):=⟨by
 intro res h0
 refine co (hi:=hi33) Tryz.func33 rfl rfl ?_
 unfold jM at h0
 obtain ⟨r01,g0,h0⟩:=ae h0
 simp(config:=cS)only[go_sem, *]
 have g0:=ctr g0
 refine ag g0 ?_
 obtain ⟨_,h0⟩|⟨_,h0⟩:=itB h0
 ·obtain ⟨r02,g0,h0⟩:=ae h0
  simp(config:=cS)only[go_sem, *]
  have g0:=ctr g0
  refine ag g0 ?_
  obtain ⟨r03,g0,h0⟩:=ae h0
  simp(config:=cS)only[go_sem, *]
  refine ag (EL g0) ?_
  exact run
 ·exact run⟩
def ql (n:Int):(Int × (List Int) × Int × Int)→St
 | (i,a,b,c)=>⟨[(1,.lit (.int .i64 n)),(5,.ptr 512 1 0 0),(6,.lit (.int .i64 i))],[(512,1,.var [.sl (ab (eK .u8) a),.lit (.int .i64 b),.lit (.int .i64 c)])],2⟩
attribute [go_sem] ql
attribute [go_sem] Tryz.ntmps89 Tryz.results89
instance k89 {code:List Int} {n:Int}:Ctr (ml code n) (fun (res:GL01Cur)=>ai Tryz.prog 89 [.sl (ab (eK .u8) code),.lit (.int .i64 n)] [] (.ptr 20000 1 0 0) [(20000,1,.var [.sl (ab (eK .u8) res.b),.lit (.int .i64 res.i),.lit (.int .i64 res.h)])]):=⟨by
 intro res h0
 refine co (hi:=hi00) Tryz.func89 rfl rfl ?_
 unfold ml at h0
 obtain ⟨r01,g0,h0⟩:=ae h0
 simp(config:=cS)only[go_sem, *]
 have g0:=ctr g0
 refine ag g0 ?_
 obtain ⟨q03,l0,h0⟩:=ae h0
 simp(config:=cS)only[go_sem, *]
 refine aj (m1:=.mk) (m2:=.mk) [.nf [1,5,6] [512]] (ql n) l0 ?_ ?_
 ·simp(config:=cS)only[go_sem, *]
 ·have k0:=h0
  clear h0 l0
  intro _ s0 _ h0 gb0
  obtain ⟨i_1,v5_0_1,v5_1_1,v5_2_1⟩:=s0
  unfold jL at h0
  try dsimp only at h0
  exact run⟩
attribute [go_sem] Tryz.ntmps29 Tryz.results29
instance k29 {code:List Int} {n:Int}:Ctr (lr code n) (fun (res:Int)=>ai Tryz.prog 29 [.sl (ab (eK .u8) code),.lit (.int .i64 n)] [] (.lit (.int .i64 res)) []):=⟨by
 intro res h0
 refine co (hi:=hi00) Tryz.func29 rfl rfl ?_
 unfold lr at h0
 exact run⟩
@[go_sem] def hi26_1:DT:=.i1 0 (.i2 1 (.i2 2 (.i1 4 (.fork (.i0 3 [0,4] (.fork (.i0 5 [0] (.i2 6 (.fork (.i2 7 (.i2 8 (.i2 9 (.i2 10 (.i0 11 [0,4] (.i2 12 (.i2 13 .nil))))))) (.i0 11 [0,4] (.i2 7 (.i2 8 (.i2 9 (.i2 10 (.i2 12 (.i2 13 .nil)))))))))) (.i0 11 [0,4] (.i0 5 [0] (.i2 6 (.i2 7 (.i2 8 (.i2 9 (.i2 10 (.i2 12 (.i2 13 .nil))))))))))) (.i0 11 [0,4] (.i0 3 [0,4] (.i0 5 [0] (.i2 6 (.i2 7 (.i2 8 (.i2 9 (.i2 10 (.i2 12 (.i2 13 .nil))))))))))))))
def hi26:Hint where
 acts:=fun _=>[]
 draws:=fun
  | 1=>⟨hi26_1,[[],[],[],[1,2],[],[1,2,3,4],[1,2,3,4,5],.range 7,.range 8,.range 9,.range 9,[],[0,1,2,3,4,5,6,7,8,9,11],.range 13],[0,1,2,3,4,5,6,7,8,9,12,10,11,13]⟩
  | _=>⟨.nil,[],[]⟩
theorem TT (i:Nat):hi26.acts i=[]:=rfl
theorem TU (i:Nat):hi26.views i=none:=rfl
attribute [go_sem] TT TU Tryz.ntmps26 Tryz.results26
@[go_sem] theorem Xp:(hi26.draws 1).order=hi26_1:=rfl
instance k26 {code:List Int} {n:Int} {s:GShow}:Ctr (iX code n s) (fun (res:GChoice)=>ai Tryz.prog 26 [.sl (ab (eK .u8) code),.lit (.int .i64 n),.agg (GShow.encS s)] [] (.agg [.ref 20000 1 0 res.lengths.length,.ref 20001 1 0 res.values.length]) [(20000,1,.row true (ab eI res.lengths)),(20001,1,.row true (ab eI res.values))]):=⟨by
 intro res h0
 refine aC (ra:=[.homeCell 384 0,.homeCell 384 1]) (md:=mdT) hT (hi:=hi26) Tryz.func26 rfl rfl (by decide +kernel) (by simp) ?_
 unfold iX at h0
 try simp(config:=cS)only[go_sem, *]
 refine ei ?_ ?_
 ·obtain ⟨r01,g0,h0⟩:=ae h0
  simp(config:=cS)only[go_sem, *]
  have g0:=ctr g0
  refine ag g0 ?_
  try simp(config:=cS)only[go_sem, *]
  refine ei ?_ ?_
  ·obtain ⟨r02,g0,h0⟩:=ae h0
   simp(config:=cS)only[go_sem, *]
   have g0:=ctr g0
   refine ag g0 ?_
   obtain ⟨_,h0⟩:=ckN h0
   try simp(config:=cS)only[go_sem, *]
   refine ei ?_ ?_
   ·exact run
   ·exact run
  ·exact run
 ·exact run⟩
@[go_sem] def hi6_11:DT:=.r2 0 17 (.i1 17 (.i2 18 (.i0 19 [17] (.r2 20 3 .nil))))
@[go_sem] def hi6_7:DT:=.r2 0 4 (.i1 4 (.i2 5 (.i0 6 [4] (.r2 7 4 .nil))))
@[go_sem] def hi6_4:DT:=.i2 0 (.i1 2 (.i0 1 [2] (.i2 3 (.i2 4 .nil))))
def hi6:Hint where
 acts:=fun _=>[]
 draws:=fun
  | 4=>⟨hi6_4,[[],[0],[],[0,1,2],[0,1,2,3]],.range 5⟩
  | 7=>⟨hi6_7,[[],[0],[0,1],[0,1,2],[0,1,2,3],[0,1,2,3],[0,1,2,3,5],.range 7,.range 8,.range 9,.range 10],.range 11⟩
  | 11=>⟨hi6_11,[[],[0],[0,1],[0,1,2],[0,1,2,3],.range 5,.range 5,.range 5,.range 8,.range 9,.range 10,.range 11,.range 11,.range 11,.range 14,.range 15,.range 16,.range 17,.range 17,[0,1,2,3,4,5,6,7,8,9,10,11,12,13,14,15,16,18],.range 20,.range 21,.range 22],.range 23⟩
  | _=>⟨.nil,[],[]⟩
theorem hi6a (i:Nat):hi6.acts i=[]:=rfl
theorem hi6v (i:Nat):hi6.views i=none:=rfl
attribute [go_sem] hi6a hi6v Tryz.ntmps6 Tryz.results6
@[go_sem] theorem Yq:(hi6.draws 4).order=hi6_4:=rfl
@[go_sem] theorem Yr:(hi6.draws 7).order=hi6_7:=rfl
@[go_sem] theorem Xq:(hi6.draws 11).order=hi6_11:=rfl
theorem xW {code:List Int}{res:Bool}(h0:kP code=some res):ai Tryz.prog 6 [.sl (ab (eK .u8) code)] [] (.lit (.bool res)) []:=by
 refine co (hi:=hi6) Tryz.func6 rfl rfl ?_
 unfold kP at h0
 exact run
end Go.Proofs.Qb
