/- Functions. -/
import Derived.Test.YtpkcmjnlnbddbaaGreatDoorXdFK2
set_option linter.all false
set_option maxRecDepth 100000
set_option maxHeartbeats 4000000
namespace Go.Proofs.Qd
open Go
def oq (a:List Int):(Int × Int)→St
 | (b,i)=>⟨[(0,.sl (ab (eK .u8) a)),(3,.lit (.int .i64 b)),(4,.lit (.int .i64 i))],[],2⟩
attribute [go_sem] oq
attribute [go_sem] Tryz.ntmps74 Tryz.results74
instance k74 {code:List Int}:Ctr (iQ code) (fun (res:GL01Cur)=>ah Tryz.prog 74 [.sl (ab (eK .u8) code)] [] (.ptr 20000 1 0 0) [(20000,1,.var [.sl (ab (eK .u8) res.b),.lit (.int .i64 res.i),.lit (.int .i64 res.h)])]):=⟨by
 intro res h0
 refine co (hi:=hi00) Tryz.func74 rfl rfl ?_
 unfold iQ at h0
 obtain ⟨q02,l0,h0⟩:=ae h0
 simp(config:=cS)only[go_sem, *]
 refine aj (m1:=.mk) (m2:=.mk) [.nf [0,3,4] []] (oq code) l0 ?_ ?_
 ·simp(config:=cS)only[go_sem, *]
 ·have k0:=h0
  clear h0 l0
  intro _ s0 _ h0 gb0
  obtain ⟨v3_1,i_1⟩:=s0
  unfold iD at h0
  try dsimp only at h0
  exact run⟩
@[go_sem] def hi90_4:DT:=.r2 0 15 .nil
@[go_sem] def hi90_3:DT:=.r2 0 10 .nil
@[go_sem] def hi90_2:DT:=.r2 0 13 .nil
def hi90:Hint where
 acts:=fun _=>[]
 draws:=fun
  | 2=>⟨hi90_2,[[],[0],[0,1],[0,1,2],[0,1,2,3],[],[5],[5,6],[5,6,7],[5,6,7,8],.range 10,.range 11,.range 12],.range 13⟩
  | 3=>⟨hi90_3,[[],[0],[0,1],[0,1,2],[],[4],[4,5],[4,5,6],[4,5,6,7],.range 9],.range 10⟩
  | 4=>⟨hi90_4,[[],[],[1],[1,2],[1,2,3],[],[5],[5,6],[5,6,7],[1,2,3,4,5,6,7,8],[1,2,3,4,5,6,7,8,9],[1,2,3,4,5,6,7,8,9,10],.range 12,.range 13,.range 14],.range 15⟩
  | _=>⟨.nil,[],[]⟩
theorem Sl (i:Nat):hi90.acts i=[]:=rfl
theorem Sm (i:Nat):hi90.views i=none:=rfl
attribute [go_sem] Sl Sm Tryz.ntmps90 Tryz.results90
@[go_sem] theorem VT:(hi90.draws 2).order=hi90_2:=rfl
@[go_sem] theorem VU:(hi90.draws 3).order=hi90_3:=rfl
@[go_sem] theorem VV:(hi90.draws 4).order=hi90_4:=rfl
instance k90 {v0:GL01Cur}:Ctr (bU v0) (fun (res:Int × GL01Cur)=>ah Tryz.prog 90 [.ptr 10000 0 0 0] [(10000,0,.var [.sl (ab (eK .u8) v0.b),.lit (.int .i64 v0.i),.lit (.int .i64 v0.h)])] (.lit (.int .i64 res.1)) [(10000,0,.var [.sl (ab (eK .u8) res.2.b),.lit (.int .i64 res.2.i),.lit (.int .i64 res.2.h)])]):=⟨by
 intro res h0
 refine co (hi:=hi90) Tryz.func90 rfl rfl ?_
 unfold bU at h0
 exact run⟩
attribute [go_sem] Tryz.ntmps111 Tryz.results111
instance k111 {v0:GL01Cur} {n:Int}:Ctr (aJ v0 n) (fun (res:Int × GL01Cur)=>ah Tryz.prog 111 [.ptr 10000 0 0 0,.lit (.int .i64 n)] [(10000,0,.var [.sl (ab (eK .u8) v0.b),.lit (.int .i64 v0.i),.lit (.int .i64 v0.h)])] (.lit (.int .i64 res.1)) [(10000,0,.var [.sl (ab (eK .u8) res.2.b),.lit (.int .i64 res.2.i),.lit (.int .i64 res.2.h)])]):=⟨by
 intro res h0
 refine co (hi:=hi00) Tryz.func111 rfl rfl ?_
 unfold aJ at h0
 exact run⟩
attribute [go_sem] Tryz.ntmps112 Tryz.results112
instance k112 {v0:GL01Cur} {n:Int}:Ctr (gb v0 n) (fun (res:Bool × GL01Cur)=>ah Tryz.prog 112 [.ptr 10000 0 0 0,.lit (.int .i64 n)] [(10000,0,.var [.sl (ab (eK .u8) v0.b),.lit (.int .i64 v0.i),.lit (.int .i64 v0.h)])] (.lit (.bool res.1)) [(10000,0,.var [.sl (ab (eK .u8) res.2.b),.lit (.int .i64 res.2.i),.lit (.int .i64 res.2.h)])]):=⟨by
 intro res h0
 refine co (hi:=hi00) Tryz.func112 rfl rfl ?_
 unfold gb at h0
 exact run⟩
def ma (f:Int)(a:List GNode):(Int × (List GTie) × (List Int) × Int × Int)→St
 | (i,b,c,d,e)=>⟨[(0,.ptr 10000 0 0 0),(2,.ptr 128 1 0 0),(3,.ptr 192 1 0 0),(5,.lit (.int .i64 i))],[(10000,0,.var [.sl (ab (eK .u8) c),.lit (.int .i64 d),.lit (.int .i64 e)]),(128,1,.var [.lit (.slice none 0 0),.lit (.slice none 0 0),.lit (.int .i64 0)]),(192,1,.var [.ref 1024 1 0 a.length,.ref 1664 1 0 b.length,.lit (.int .i64 f)]),(1024,1,.row true (ab GNode.encO a)),(1664,1,.row true (ab GTie.enc b))],2⟩
attribute [go_sem] ma
@[go_sem] def hi178_13:DT:=.i1 0 (.i1 1 (.r2 2 3 (.i0 5 [0,1] (.i2 6 (.i2 7 (.i0 8 [0,1] (.r2 9 3 .nil)))))))
@[go_sem] def hi178_9:DT:=.i1 0 (.i1 1 (.i2 2 (.r2 4 5 (.i0 3 [0,1] (.i0 9 [0,1] (.i2 10 (.i2 11 (.i0 12 [0,1] (.r2 13 3 .nil)))))))))
def zZ:Hint where
 acts:=fun _=>[]
 draws:=fun
  | 9=>⟨hi178_9,[[],[0],[],[2],[],[],[],[6],[],[2,3,8],[2,3,6,7,8,9],[2,3,4,5,6,7,8,9,10],[2,3,4,5,6,7,8,9,10,11],.range 13,.range 14,.range 15],.range 16⟩
  | 13=>⟨hi178_13,[[],[0],[],[],[],[4],[3,4,5],[2,3,4,5,6],[2,3,4,5,6,7],.range 9,.range 10,.range 11],.range 12⟩
  | _=>⟨.nil,[],[]⟩
theorem Ps (i:Nat):zZ.acts i=[]:=rfl
theorem Pt (i:Nat):zZ.views i=none:=rfl
attribute [go_sem] Ps Pt Tryz.ntmps178 Tryz.results178
@[go_sem] theorem UK:(zZ.draws 9).order=hi178_9:=rfl
@[go_sem] theorem TN:(zZ.draws 13).order=hi178_13:=rfl
instance k178 {v0:GL01Cur}:Ctr (iE v0) (fun (res:GShow × GL01Cur)=>ah Tryz.prog 178 [.ptr 10000 0 0 0] [(10000,0,.var [.sl (ab (eK .u8) v0.b),.lit (.int .i64 v0.i),.lit (.int .i64 v0.h)])] (.agg [.ref 20000 1 0 res.1.nodes.length,.ref 20001 1 0 res.1.ties.length,.lit (.int .i64 res.1.horizon)]) [(10000,0,.var [.sl (ab (eK .u8) res.2.b),.lit (.int .i64 res.2.i),.lit (.int .i64 res.2.h)]),(20000,1,.row true (ab GNode.encO res.1.nodes)),(20001,1,.row true (ab GTie.enc res.1.ties))]):=⟨by
 intro res h0
 refine aG (ra:=[.homeCell 128 0,.homeCell 128 1]) (md:=mdT) hT (hi:=zZ) Tryz.func178 rfl rfl (by decide +kernel) (by simp) ?_
 unfold iE at h0
 obtain ⟨r01,g0,h0⟩:=ae h0
 simp(config:=cS)only[go_sem, *]
 have g0:=ctr g0
 refine ag g0 ?_
 obtain ⟨r02,g0,h0⟩:=ae h0
 simp(config:=cS)only[go_sem, *]
 have g0:=ctr g0
 refine ag g0 ?_
 obtain ⟨r03,g0,h0⟩:=ae h0
 simp(config:=cS)only[go_sem, *]
 have g0:=ctr g0
 refine ag g0 ?_
 obtain ⟨q10,l0,h0⟩:=ae h0
 simp(config:=cS)only[go_sem, *]
 refine aj (m1:=.mk) (m2:=.mk) [.nf [0,2,3,5] [10000,128,192,1024,1664]] (ma (IntKind.wrap .i64 (4+r01.1)) ([(GNode.mk (ByteArray.mk #[103,111]) ([]) 0),(GNode.mk (ByteArray.mk #[97]) ([]) 1),(GNode.mk (ByteArray.mk #[98]) ([1]) 0),(GNode.mk (ByteArray.mk #[99]) ([(-1)]) 0)])) l0 ?_ ?_
 ·simp(config:=cS)only[go_sem, *]
 ·have k0:=h0
  clear h0 l0
  intro _ s0 _ h0 gb0
  obtain ⟨i_1,h1664_1,v0_0_1,v0_1_1,v0_2_1⟩:=s0
  unfold fK at h0
  try dsimp only at h0
  exact run⟩
attribute [go_sem] Tryz.ntmps251 Tryz.results251
instance k251 {i:Int}:Ctr (io i) (fun (res:ByteArray)=>ah Tryz.prog 251 [.lit (.int .i64 i)] [] (.lit (.string res)) []):=⟨by
 intro res h0
 refine co (hi:=hi00) Tryz.func251 rfl rfl ?_
 unfold io at h0
 obtain ⟨x01,a1,a2,a3,h0⟩:=gtI h0
 try simp only [List.length_append,List.length_cons,List.length_nil,Nat.zero_add,Nat.reduceAdd] at a1
 try simp only [List.length_append,List.length_cons,List.length_nil,Nat.zero_add,Nat.reduceAdd] at a2
 try simp only [List.length_append,List.length_cons,List.length_nil,Nat.zero_add,Nat.reduceAdd] at a3
 exact run⟩
def nG (m f:Int)(a:List GNode):(Int × (List Int) × Int × Int × (List GTie))→St
 | (k,c,d,e,b)=>⟨[(0,.ptr 10000 0 0 0),(3,.ptr 192 1 0 0),(4,.ptr 256 1 0 0),(5,.lit (.int .i64 m)),(6,.lit (.int .i64 k))],[(10000,0,.var [.sl (ab (eK .u8) c),.lit (.int .i64 d),.lit (.int .i64 e)]),(192,1,.var [.ref 10001 0 0 a.length,.ref 10002 1 0 b.length,.lit (.int .i64 f)]),(10001,0,.row true (ab GNode.encO a)),(10002,1,.row true (ab GTie.enc b)),(256,1,.var [.lit (.slice none 0 0),.lit (.slice none 0 0),.lit (.int .i64 0)])],2⟩
attribute [go_sem] nG
@[go_sem] def hi252_7:DT:=.i1 0 (.i1 1 (.r2 2 6 (.i2 10 (.r2 12 4 (.i0 8 [0,1] (.i2 9 (.i2 11 (.i0 16 [0,1] (.i2 17 (.i2 18 (.i0 19 [0,1] (.r2 20 3 .nil))))))))))))
def DR:Hint where
 acts:=fun _=>[]
 draws:=fun
  | 7=>⟨hi252_7,[[],[0],[],[],[3],[],[],[6],[5,6,7],[3,4,5,6,7,8],[],[3,4,5,6,7,8,9,10],[],[],[13],[],[5,6,7,8,15],[5,6,7,8,13,14,15,16],[2,3,4,5,6,7,8,9,10,11,12,13,14,15,16,17],[2,3,4,5,6,7,8,9,10,11,12,13,14,15,16,17,18],.range 20,.range 21,.range 22],.range 23⟩
  | _=>⟨.nil,[],[]⟩
theorem Pu (i:Nat):DR.acts i=[]:=rfl
theorem Pv (i:Nat):DR.views i=none:=rfl
attribute [go_sem] Pu Pv Tryz.ntmps252 Tryz.results252
@[go_sem] theorem UL:(DR.draws 7).order=hi252_7:=rfl
instance k252 {v0:GL01Cur} {s:GShow}:Ctr (jV v0 s) (fun (res:GShow × GL01Cur × (List GNode))=>ah Tryz.prog 252 [.ptr 10000 0 0 0,.agg [.ref 10001 0 0 s.nodes.length,.ref 10002 0 0 s.ties.length,.lit (.int .i64 s.horizon)]] [(10000,0,.var [.sl (ab (eK .u8) v0.b),.lit (.int .i64 v0.i),.lit (.int .i64 v0.h)]),(10001,0,.row true (ab GNode.encO s.nodes)),(10002,0,.row true (ab GTie.enc s.ties))] (.agg [.ref 10001 0 0 res.2.2.length,.ref 20000 1 0 res.1.ties.length,.lit (.int .i64 res.1.horizon)]) [(10000,0,.var [.sl (ab (eK .u8) res.2.1.b),.lit (.int .i64 res.2.1.i),.lit (.int .i64 res.2.1.h)]),(10001,0,.row true (ab GNode.encO res.2.2)),(20000,1,.row true (ab GTie.enc res.1.ties))]):=⟨by
 intro res h0
 refine aG (ra:=[.homeCell 256 0,.homeCell 256 1]) (md:=mdT) hT (hi:=DR) Tryz.func252 rfl rfl (by decide +kernel) (by simp) ?_
 unfold jV at h0
 obtain ⟨r01,g0,h0⟩:=ae h0
 simp(config:=cS)only[go_sem, *]
 have g0:=ctr g0
 refine ag g0 ?_
 obtain ⟨q06,l0,h0⟩:=ae h0
 simp(config:=cS)only[go_sem, *]
 refine aj (m1:=.mk) (m2:=.mk) [.nfo [0,3,4,5,6] [10000,192,10001,10002,256] [10002]] (nG ((s.nodes.length:Nat):Int) s.horizon s.nodes) l0 ?_ ?_
 ·simp(config:=cS)only[go_sem, *]
 ·have k0:=h0
  clear h0 l0
  intro _ s0 _ h0 gb0
  obtain ⟨k_1,v0_0_1,v0_1_1,v0_2_1,h10002_1⟩:=s0
  unfold gX at h0
  try dsimp only at h0
  exact run⟩
def mN (f:Int):(Int × (List GNode) × (List Int) × Int × Int × (List GTie))→St
 | (n,b,c,d,e,a)=>⟨[(0,.ptr 10000 0 0 0),(2,.ptr 128 1 0 0),(3,.ptr 192 1 0 0),(4,.lit (.int .i64 n))],[(10000,0,.var [.sl (ab (eK .u8) c),.lit (.int .i64 d),.lit (.int .i64 e)]),(128,1,.var [.lit (.slice none 0 0),.lit (.slice none 0 0),.lit (.int .i64 0)]),(192,1,.var [.ref 512 1 0 b.length,.ref 100012289 1 0 a.length,.lit (.int .i64 f)]),(512,1,.row true (ab GNode.encO b)),(100012289,1,.row true (ab GTie.enc a))],2⟩
attribute [go_sem] mN
@[go_sem] def hi179_12:DT:=.i1 0 (.i1 1 (.r2 2 6 (.i0 8 [0,1] (.i2 9 (.i2 10 (.i0 11 [0,1] (.r2 12 3 .nil)))))))
@[go_sem] def hi179_11:DT:=.i1 0 (.i1 1 (.i2 2 (.i2 3 (.i0 4 [0,1] (.i2 5 (.i0 6 [0,1] (.r2 7 3 .nil)))))))
@[go_sem] def hi179_8:DT:=.i1 0 (.i1 1 (.i2 2 (.i2 3 (.r2 5 4 (.i0 4 [0,1] (.i0 9 [0,1] (.i2 10 (.i2 11 (.i0 12 [0,1] (.r2 13 3 .nil))))))))))
@[go_sem] def hi179_7:DT:=.i1 0 (.i1 1 (.i2 2 (.i0 3 [0,1] (.i2 4 (.i0 5 [0,1] (.r2 6 3 .nil))))))
def sN:Hint where
 acts:=fun _=>[]
 draws:=fun
  | 7=>⟨hi179_7,[[],[0],[],[2],[2,3],[2,3,4],.range 6,.range 7,.range 8],.range 9⟩
  | 8=>⟨hi179_8,[[],[0],[],[],[2,3],[],[],[],[],[2,3,4,8],[2,3,4,7,8,9],[2,3,4,5,6,7,8,9,10],[2,3,4,5,6,7,8,9,10,11],.range 13,.range 14,.range 15],.range 16⟩
  | 11=>⟨hi179_11,[[],[0],[],[2],[2,3],[2,3,4],[2,3,4,5],.range 7,.range 8,.range 9],.range 10⟩
  | 12=>⟨hi179_12,[[],[0],[],[],[3],[],[],[],[7],[6,7,8],[2,3,4,5,6,7,8,9],[2,3,4,5,6,7,8,9,10],.range 12,.range 13,.range 14],.range 15⟩
  | _=>⟨.nil,[],[]⟩
theorem Pw (i:Nat):sN.acts i=[]:=rfl
theorem Px (i:Nat):sN.views i=none:=rfl
attribute [go_sem] Pw Px Tryz.ntmps179 Tryz.results179
@[go_sem] theorem UM:(sN.draws 7).order=hi179_7:=rfl
@[go_sem] theorem UN:(sN.draws 8).order=hi179_8:=rfl
@[go_sem] theorem TO:(sN.draws 11).order=hi179_11:=rfl
@[go_sem] theorem TP:(sN.draws 12).order=hi179_12:=rfl
instance k179 {v0:GL01Cur}:Ctr (jj v0) (fun (res:GShow × GL01Cur)=>ah Tryz.prog 179 [.ptr 10000 0 0 0] [(10000,0,.var [.sl (ab (eK .u8) v0.b),.lit (.int .i64 v0.i),.lit (.int .i64 v0.h)])] (.agg [.ref 20000 1 0 res.1.nodes.length,.ref 20001 1 0 res.1.ties.length,.lit (.int .i64 res.1.horizon)]) [(10000,0,.var [.sl (ab (eK .u8) res.2.b),.lit (.int .i64 res.2.i),.lit (.int .i64 res.2.h)]),(20000,1,.row true (ab GNode.encO res.1.nodes)),(20001,1,.row true (ab GTie.enc res.1.ties))]):=⟨by
 intro res h0
 refine aG (ra:=[.homeCell 128 0,.homeCell 128 1]) (md:=mdT) hT (hi:=sN) Tryz.func179 rfl rfl (by decide +kernel) (by simp) ?_
 unfold jj at h0
 obtain ⟨r01,g0,h0⟩:=ae h0
 simp(config:=cS)only[go_sem, *]
 have g0:=ctr g0
 refine ag g0 ?_
 obtain ⟨r02,g0,h0⟩:=ae h0
 simp(config:=cS)only[go_sem, *]
 have g0:=ctr g0
 refine ag g0 ?_
 obtain ⟨q12,l0,h0⟩:=ae h0
 simp(config:=cS)only[go_sem, *]
 refine aj (m1:=.mk) (m2:=.mk) [.homeCell 192 1,.nf [0,2,3,4] [10000,128,192,512,100012289]] (mN (IntKind.wrap .i64 (4+r01.1))) l0 ?_ ?_
 ·simp(config:=cS)only[go_sem, *]
 ·have k0:=h0
  clear h0 l0
  intro _ s0 _ h0 gb0
  obtain ⟨n_1,h512_1,v0_0_1,v0_1_1,v0_2_1,h100012289_1⟩:=s0
  unfold gD at h0
  try dsimp only at h0
  obtain ⟨_,h0⟩|⟨_,h0⟩:=itP h0
  ·obtain ⟨r03,g0,h0⟩:=ae h0
   simp(config:=cS)only[go_sem, *]
   have g0:=ctr g0
   refine ag g0 ?_
   obtain ⟨r04,g0,h0⟩:=ae h0
   simp(config:=cS)only[go_sem, *]
   have g0:=ctr g0
   refine ag g0 ?_
   obtain ⟨_,h0⟩:=ckP h0
   obtain ⟨_,h0⟩:=ckP h0
   obtain ⟨r05,g0,h0⟩:=ae h0
   simp(config:=cS)only[go_sem, *]
   have g0:=ctr g0
   refine ag g0 ?_
   obtain ⟨r06,g0,h0⟩:=ae h0
   simp(config:=cS)only[go_sem, *]
   have g0:=ctr g0
   refine ag g0 ?_
   obtain ⟨_,h0⟩:=ckP h0
   obtain ⟨_,h0⟩:=ckP h0
   obtain ⟨r07,g0,h0⟩:=ae h0
   simp(config:=cS)only[go_sem, *]
   have g0:=ctr g0
   refine ag g0 ?_
   obtain ⟨_,h0⟩|⟨_,h0⟩:=itB h0
   ·obtain ⟨_,h0⟩|⟨_,h0⟩:=itP h0
    ·obtain ⟨r08,g0,h0⟩:=ae h0
     simp(config:=cS)only[go_sem, *]
     have g0:=ctr g0
     refine ag g0 ?_
     obtain ⟨r09,g0,h0⟩:=ae h0
     simp(config:=cS)only[go_sem, *]
     have g0:=ctr g0
     refine ag g0 ?_
     obtain ⟨a1,h0⟩:=ckP h0
     try simp(config:=cS)only[go_sem] at a1
     obtain ⟨a2,h0⟩:=ckP h0
     try simp(config:=cS)only[go_sem] at a2
     obtain ⟨r10,g0,h0⟩:=ae h0
     simp(config:=cS)only[go_sem, *]
     have g0:=ctr g0
     refine ag g0 ?_
     obtain ⟨a3,h0⟩:=ckP h0
     try simp(config:=cS)only[go_sem] at a3
     obtain ⟨a4,h0⟩:=ckP h0
     try simp(config:=cS)only[go_sem] at a4
     exact run
    ·exact run
   ·exact run
  ·exact run⟩
attribute [go_sem] Tryz.ntmps92 Tryz.results92
instance k92 {v0:GL01Cur}:Ctr (jW v0) (fun (res:GShow × GL01Cur)=>ah Tryz.prog 92 [.ptr 10000 0 0 0] [(10000,0,.var [.sl (ab (eK .u8) v0.b),.lit (.int .i64 v0.i),.lit (.int .i64 v0.h)])] (.agg [.ref 20000 1 0 res.1.nodes.length,.ref 20001 1 0 res.1.ties.length,.lit (.int .i64 res.1.horizon)]) [(10000,0,.var [.sl (ab (eK .u8) res.2.b),.lit (.int .i64 res.2.i),.lit (.int .i64 res.2.h)]),(20000,1,.row true (ab GNode.encO res.1.nodes)),(20001,1,.row true (ab GTie.enc res.1.ties))]):=⟨by
 intro res h0
 refine aG (ra:=[.homeCell 128 0,.homeCell 128 1]) (md:=mdT) hT (hi:=hi00) Tryz.func92 rfl rfl (by decide +kernel) (by simp) ?_
 unfold jW at h0
 exact run⟩
attribute [go_sem] Tryz.ntmps31 Tryz.results31
instance k31 {code:List Int}:Ctr (jk code) (fun (res:GShow)=>ah Tryz.prog 31 [.sl (ab (eK .u8) code)] [] (.agg [.ref 20000 1 0 res.nodes.length,.ref 20001 1 0 res.ties.length,.lit (.int .i64 res.horizon)]) [(20000,1,.row true (ab GNode.encO res.nodes)),(20001,1,.row true (ab GTie.enc res.ties))]):=⟨by
 intro res h0
 refine aG (ra:=[.homeCell 128 0,.homeCell 128 1]) (md:=mdT) hT (hi:=hi00) Tryz.func31 rfl rfl (by decide +kernel) (by simp) ?_
 unfold jk at h0
 exact run⟩
def ot (n:Int):(Int × (List Int) × Int × Int)→St
 | (i,a,b,c)=>⟨[(1,.lit (.int .i64 n)),(5,.ptr 512 1 0 0),(6,.lit (.int .i64 i))],[(512,1,.var [.sl (ab (eK .u8) a),.lit (.int .i64 b),.lit (.int .i64 c)])],2⟩
attribute [go_sem] ot
attribute [go_sem] Tryz.ntmps89 Tryz.results89
instance k89 {code:List Int} {n:Int}:Ctr (kL code n) (fun (res:GL01Cur)=>ah Tryz.prog 89 [.sl (ab (eK .u8) code),.lit (.int .i64 n)] [] (.ptr 20000 1 0 0) [(20000,1,.var [.sl (ab (eK .u8) res.b),.lit (.int .i64 res.i),.lit (.int .i64 res.h)])]):=⟨by
 intro res h0
 refine co (hi:=hi00) Tryz.func89 rfl rfl ?_
 unfold kL at h0
 obtain ⟨r01,g0,h0⟩:=ae h0
 simp(config:=cS)only[go_sem, *]
 have g0:=ctr g0
 refine ag g0 ?_
 obtain ⟨q03,l0,h0⟩:=ae h0
 simp(config:=cS)only[go_sem, *]
 refine aj (m1:=.mk) (m2:=.mk) [.nf [1,5,6] [512]] (ot n) l0 ?_ ?_
 ·simp(config:=cS)only[go_sem, *]
 ·have k0:=h0
  clear h0 l0
  intro _ s0 _ h0 gb0
  obtain ⟨i_1,v5_0_1,v5_1_1,v5_2_1⟩:=s0
  unfold iG at h0
  try dsimp only at h0
  exact run⟩
attribute [go_sem] Tryz.ntmps29 Tryz.results29
instance k29 {code:List Int} {n:Int}:Ctr (jX code n) (fun (res:Int)=>ah Tryz.prog 29 [.sl (ab (eK .u8) code),.lit (.int .i64 n)] [] (.lit (.int .i64 res)) []):=⟨by
 intro res h0
 refine co (hi:=hi00) Tryz.func29 rfl rfl ?_
 unfold jX at h0
 exact run⟩
@[go_sem] def hi26_1:DT:=.i1 0 (.i2 1 (.i2 2 (.i1 4 (.fork (.i0 3 [0,4] (.fork (.i0 5 [0] (.i2 6 (.fork (.i2 7 (.i2 8 (.i2 9 (.i2 10 (.i0 11 [0,4] (.i2 12 (.i2 13 .nil))))))) (.i0 11 [0,4] (.i2 7 (.i2 8 (.i2 9 (.i2 10 (.i2 12 (.i2 13 .nil)))))))))) (.i0 11 [0,4] (.i0 5 [0] (.i2 6 (.i2 7 (.i2 8 (.i2 9 (.i2 10 (.i2 12 (.i2 13 .nil))))))))))) (.i0 11 [0,4] (.i0 3 [0,4] (.i0 5 [0] (.i2 6 (.i2 7 (.i2 8 (.i2 9 (.i2 10 (.i2 12 (.i2 13 .nil))))))))))))))
def hi26:Hint where
 acts:=fun _=>[]
 draws:=fun
  | 1=>⟨hi26_1,[[],[],[],[1,2],[],[1,2,3,4],[1,2,3,4,5],.range 7,.range 8,.range 9,.range 9,[],[0,1,2,3,4,5,6,7,8,9,11],.range 13],[0,1,2,3,4,5,6,7,8,9,12,10,11,13]⟩
  | _=>⟨.nil,[],[]⟩
theorem Sn (i:Nat):hi26.acts i=[]:=rfl
theorem So (i:Nat):hi26.views i=none:=rfl
attribute [go_sem] Sn So Tryz.ntmps26 Tryz.results26
@[go_sem] theorem VW:(hi26.draws 1).order=hi26_1:=rfl
instance k26 {code:List Int} {n:Int} {s:GShow}:Ctr (gY code n s) (fun (res:GChoice)=>ah Tryz.prog 26 [.sl (ab (eK .u8) code),.lit (.int .i64 n),.agg (GShow.encS s)] [] (.agg [.ref 20000 1 0 res.lengths.length,.ref 20001 1 0 res.values.length]) [(20000,1,.row true (ab eI res.lengths)),(20001,1,.row true (ab eI res.values))]):=⟨by
 intro res h0
 refine aG (ra:=[.homeCell 384 0,.homeCell 384 1]) (md:=mdT) hT (hi:=hi26) Tryz.func26 rfl rfl (by decide +kernel) (by simp) ?_
 unfold gY at h0
 try simp(config:=cS)only[go_sem, *]
 refine dP ?_ ?_
 ·obtain ⟨r01,g0,h0⟩:=ae h0
  simp(config:=cS)only[go_sem, *]
  have g0:=ctr g0
  refine ag g0 ?_
  try simp(config:=cS)only[go_sem, *]
  refine dP ?_ ?_
  ·obtain ⟨r02,g0,h0⟩:=ae h0
   simp(config:=cS)only[go_sem, *]
   have g0:=ctr g0
   refine ag g0 ?_
   obtain ⟨_,h0⟩:=ckN h0
   try simp(config:=cS)only[go_sem, *]
   refine dP ?_ ?_
   ·exact run
   ·exact run
  ·exact run
 ·exact run⟩
def nH (e:List GTie)(f b:Int)(c d:List Int):(Int × (List GTake))→St
 | (g,a)=>⟨[(3,.ptr 192 1 0 0),(5,.ref 383 1 0 a.length),(13,.sl (ab GTie.enc e)),(14,.lit (.int .i64 f)),(15,.lit (.int .i64 g))],[(192,1,.var [.lit (.int .i64 b),.sl (ab eI c),.sl (ab eI d)]),(383,1,.row true (ab GTake.enc a))],2⟩
attribute [go_sem] nH
@[go_sem] def hi38_8:DT:=.r2 0 19 .nil
def hi38:Hint where
 acts:=fun _=>[]
 draws:=fun
  | 8=>⟨hi38_8,[[],[],[],[2],[],[4],[2,3,4,5],[2,3,4,5,6],[],[8],[],[10],[8,9,10,11],[8,9,10,11,12],[2,3,4,5,6,7,8,9,10,11,12,13],[1,2,3,4,5,6,7,8,9,10,11,12,13,14],[1,2,3,4,5,6,7,8,9,10,11,12,13,14,15],.range 17,.range 18],.range 19⟩
  | _=>⟨.nil,[],[]⟩
theorem Sp (i:Nat):hi38.acts i=[]:=rfl
theorem Sq (i:Nat):hi38.views i=none:=rfl
attribute [go_sem] Sp Sq Tryz.ntmps38 Tryz.results38
@[go_sem] theorem VX:(hi38.draws 8).order=hi38_8:=rfl
instance k38 {s:GShow} {v1:GState}:Ctr (jY s v1) (fun (res:List GTake)=>ah Tryz.prog 38 [.agg (GShow.encS s),.agg (GState.encS v1)] [] (.ref 20000 1 0 res.length) [(20000,1,.row true (ab GTake.enc res))]):=⟨by
 intro res h0
 refine aG (ra:=[.home 4]) (md:=mdT) hT (hi:=hi38) Tryz.func38 rfl rfl (by decide +kernel) (by simp) ?_
 unfold jY at h0
 obtain ⟨r01,g0,h0⟩:=ae h0
 simp(config:=cS)only[go_sem, *]
 have g0:=ctr g0
 refine ag g0 ?_
 obtain ⟨_,h0⟩|⟨_,h0⟩:=itB h0
 ·obtain ⟨q05,l0,h0⟩:=ae h0
  simp(config:=cS)only[go_sem, *]
  refine aj (m1:=.mk) (m2:=.mk) [.home 5,.nf [3,5,13,14,15] [192,383]] (nH s.ties ((s.ties.length:Nat):Int) v1.now v1.times v1.values) l0 ?_ ?_
  ·simp(config:=cS)only[go_sem, *]
  ·have k0:=h0
   clear h0 l0
   intro _ s0 _ h0 gb0
   obtain ⟨v15_1,out_1⟩:=s0
   unfold gZ at h0
   try dsimp only at h0
   exact run
 ·exact run⟩
def js (c:List GTake)(a:Nat)(b:List AV)(d e:Int):St:=⟨[(0,.sl (ab GTake.enc c)),(1,.fn a b),(7,.lit (.int .i64 d)),(8,.lit (.int .i64 e))],[],2⟩
attribute [go_sem] js
attribute [go_sem] Tryz.ntmps193 Tryz.results193
theorem qO {v0:List GTake}{v1:GTake→Option Bool}{f_v1:Nat}{k_v1:List AV}(hp_v1:∀ y0 r,v1 y0=some r→ah Tryz.prog f_v1 ([.agg [.lit (.int .i64 y0.tie),.lit (.int .i64 y0.length)]]++k_v1) [] (.lit (.bool r)) [])(hc_v1:KC k_v1)(hm_v1:∀ a,mdT f_v1 a=⟨[],false⟩)(hk_v1:spf f_v1=false){res:Int}(h:dC v0 v1=some res):ah Tryz.prog 193 [.sl (ab GTake.enc v0),.fn f_v1 k_v1] [] (.lit (.int .i64 res)) []:=by
 refine co (hi:=hi00) Tryz.func193 rfl rfl ?_
 unfold dC at h
 obtain ⟨q03,l1,h⟩:=ae h
 simp(config:=cS)only[go_sem,hc_v1.1,hc_v1.2,hm_v1,hk_v1]
 refine aj (m1:=.mk) (m2:=.mk) [.nf [0,1,7,8] []] (js v0 f_v1 k_v1 ((v0.length:Nat):Int)) l1 ?_ ?_
 ·simp(config:=cS)only[go_sem,hc_v1.1,hc_v1.2,hm_v1,hk_v1]
 ·intro nb2 v8_1 bb2 b2 gb2
  unfold bW at b2
  try dsimp only at b2
  obtain ⟨h3,b2⟩|⟨h3,b2⟩:=bk b2
  ·obtain ⟨x01,g4,b2⟩:=ae b2
   obtain ⟨h5,h6,h7⟩:=dc g4
   obtain ⟨r02,g8,b2⟩:=ae b2
   simp(config:=cS)only[go_sem,hc_v1.1,hc_v1.2,hm_v1,hk_v1,eqT h3,h5,h6,h7]
   refine ag (hp_v1 _ _ g8) ?_
   obtain ⟨h9,b2⟩|⟨h9,b2⟩:=bk b2
   ·cases b2
    obtain rfl:=(bm gb2).symm
    try dsimp only at h
    cases h
    simp(config:=cS)only[go_sem,hc_v1.1,hc_v1.2,hm_v1,hk_v1,eqT h3,h5,h6,h7,eZt h9]
   ·cases b2
    simp(config:=cS)only[go_sem,hc_v1.1,hc_v1.2,hm_v1,hk_v1,eqT h3,h5,h6,h7,eZf h9]
    refine ij gb2 ?_
    simp(config:=cS)only[go_sem,hc_v1.1,hc_v1.2,hm_v1,hk_v1,eqT h3,h5,h6,h7,eZf h9]
  ·cases b2
   obtain rfl:=(bm gb2).symm
   try dsimp only at h
   cases h
   simp(config:=cS)only[go_sem,hc_v1.1,hc_v1.2,hm_v1,hk_v1,eqF h3]
attribute [go_sem] Tryz.ntmps101 Tryz.results101
theorem pI {v0:List GTake}{v1:GTake→Option Bool}{f_v1:Nat}{k_v1:List AV}(hp_v1:∀ y0 r,v1 y0=some r→ah Tryz.prog f_v1 ([.agg [.lit (.int .i64 y0.tie),.lit (.int .i64 y0.length)]]++k_v1) [] (.lit (.bool r)) [])(hc_v1:KC k_v1)(hm_v1:∀ a,mdT f_v1 a=⟨[],false⟩)(hk_v1:spf f_v1=false){res:Bool}(h:cE v0 v1=some res):ah Tryz.prog 101 [.sl (ab GTake.enc v0),.fn f_v1 k_v1] [] (.lit (.bool res)) []:=by
 refine co (hi:=hi00) Tryz.func101 rfl rfl ?_
 unfold cE at h
 obtain ⟨r01,g1,h⟩:=ae h
 simp(config:=cS)only[go_sem,hc_v1.1,hc_v1.2,hm_v1,hk_v1]
 refine ag (qO hp_v1 hc_v1 hm_v1 hk_v1 g1) ?_
 cases h
 simp(config:=cS)only[go_sem,hc_v1.1,hc_v1.2,hm_v1,hk_v1]
@[go_sem] def hi102_1:DT:=.r2 0 42 .nil
def DS:Hint where
 acts:=fun _=>[]
 draws:=fun
  | 1=>⟨hi102_1,[[],[0],[0,1],[],[3],.range 5,.range 6,.range 7,.range 8,.range 9,.range 8,[0,1,2,3,4,5,6,7,10],.range 12,.range 13,.range 14,.range 15,.range 16,.range 17,.range 18,.range 19,.range 18,[0,1,2,3,4,5,6,7,8,9,10,11,12,13,14,15,16,17,20],.range 18,[0,1,2,3,4,5,6,7,8,9,10,11,12,13,14,15,16,17,22],[0,1,2,3,4,5,6,7,8,9,10,11,12,13,14,15,16,17,20,21,22,23],[0,1,2,3,4,5,6,7,8,9,10,11,12,13,14,15,16,17,20,21,22,23,24],[0,1,2,3,4,5,6,7,8,9,10,11,12,13,14,15,16,17,20,21,22,23,24,25],.range 27,.range 28,.range 29,.range 30,.range 31,.range 30,[0,1,2,3,4,5,6,7,8,9,10,11,12,13,14,15,16,17,18,19,20,21,22,23,24,25,26,27,28,29,32],.range 30,[0,1,2,3,4,5,6,7,8,9,10,11,12,13,14,15,16,17,18,19,20,21,22,23,24,25,26,27,28,29,34],[0,1,2,3,4,5,6,7,8,9,10,11,12,13,14,15,16,17,18,19,20,21,22,23,24,25,26,27,28,29,32,33,34,35],[0,1,2,3,4,5,6,7,8,9,10,11,12,13,14,15,16,17,18,19,20,21,22,23,24,25,26,27,28,29,32,33,34,35,36],[0,1,2,3,4,5,6,7,8,9,10,11,12,13,14,15,16,17,18,19,20,21,22,23,24,25,26,27,28,29,32,33,34,35,36,37],.range 39,.range 40,.range 41],.range 42⟩
  | _=>⟨.nil,[],[]⟩
theorem Py (i:Nat):DS.acts i=[]:=rfl
theorem Pz (i:Nat):DS.views i=none:=rfl
attribute [go_sem] Py Pz Tryz.ntmps102 Tryz.results102
@[go_sem] theorem UO:(DS.draws 1).order=hi102_1:=rfl
instance k102 {t:GTake} {s:GShow}:Ctr (jD t s) (fun (res:Bool)=>ah Tryz.prog 102 [.agg [.lit (.int .i64 t.tie),.lit (.int .i64 t.length)],.loc [.sl (ab GNode.encS s.nodes),.sl (ab GTie.enc s.ties),.lit (.int .i64 s.horizon)]] [] (.lit (.bool res)) []):=⟨by
 intro res h0
 refine co (hi:=DS) Tryz.func102 rfl rfl ?_
 unfold jD at h0
 exact run⟩
attribute [go_sem] Tryz.ntmps40 Tryz.results40
instance k40 {s:GShow} {list:List GTake}:Ctr (eE s list) (fun (res:Bool)=>ah Tryz.prog 40 [.agg (GShow.encS s),.sl (ab GTake.enc list)] [] (.lit (.bool res)) []):=⟨by
 intro res h0
 refine co (hi:=hi00) Tryz.func40 rfl rfl ?_
 unfold eE at h0
 obtain ⟨r01,g0,h0⟩:=ae h0
 simp(config:=cS)only[go_sem, *]
 have g0:=ctr g0
 refine ag g0 ?_
 obtain ⟨_,h0⟩|⟨_,h0⟩:=itB h0
 ·obtain ⟨_,h0⟩|⟨_,h0⟩:=itP h0
  ·exact run
  ·obtain ⟨r02,g0,h0⟩:=ae h0
   simp(config:=cS)only[go_sem, *]
   refine ag (pI (by exact fun _ _ hr=>by have q:=ctr hr;exact q) (by refine ⟨fun _=>?_,fun _=>?_⟩ <;> simp only [go_sem]) (fun _=>rfl) rfl g0) ?_
   exact run
 ·exact run⟩
attribute [go_sem] Tryz.ntmps100 Tryz.results100
instance k100 {n:Int} {most:Int}:Ctr (mz n most) (fun (res:Bool)=>ah Tryz.prog 100 [.lit (.int .i64 n),.lit (.int .i64 most)] [] (.lit (.bool res)) []):=⟨by
 intro res h0
 refine co (hi:=hi00) Tryz.func100 rfl rfl ?_
 unfold mz at h0
 exact run⟩
def mb (a:List Int):(Int × Int)→St
 | (b,c)=>⟨[(0,.sl (ab eI a)),(3,.lit (.int .i64 b)),(4,.lit (.int .i64 c))],[],2⟩
attribute [go_sem] mb
attribute [go_sem] Tryz.ntmps107 Tryz.results107
instance k107 {v0:List Int}:Ctr (iH v0) (fun (res:Int)=>ah Tryz.prog 107 [.sl (ab eI v0)] [] (.lit (.int .i64 res)) []):=⟨by
 intro res h0
 refine co (hi:=hi00) Tryz.func107 rfl rfl ?_
 unfold iH at h0
 obtain ⟨_,h0⟩|⟨_,h0⟩:=itP h0
 ·exact run
 ·obtain ⟨x01,g1,h0⟩:=ae h0
  have:=cM (k:=0) g1
  obtain ⟨q03,l0,h0⟩:=ae h0
  simp(config:=cS)only[go_sem, *]
  refine aj (m1:=.mk) (m2:=.mk) [.nf [0,3,4] []] (mb v0) l0 ?_ ?_
  ·simp(config:=cS)only[go_sem, *]
  ·have k0:=h0
   clear h0 l0
   intro _ s0 _ h0 gb0
   obtain ⟨v3_1,v4_1⟩:=s0
   unfold fL at h0
   try dsimp only at h0
   exact run⟩
def mc (a:List Int):(Int × Int)→St
 | (b,c)=>⟨[(0,.sl (ab eI a)),(3,.lit (.int .i64 b)),(4,.lit (.int .i64 c))],[],2⟩
attribute [go_sem] mc
attribute [go_sem] Tryz.ntmps108 Tryz.results108
instance k108 {v0:List Int}:Ctr (iI v0) (fun (res:Int)=>ah Tryz.prog 108 [.sl (ab eI v0)] [] (.lit (.int .i64 res)) []):=⟨by
 intro res h0
 refine co (hi:=hi00) Tryz.func108 rfl rfl ?_
 unfold iI at h0
 obtain ⟨_,h0⟩|⟨_,h0⟩:=itP h0
 ·exact run
 ·obtain ⟨x01,g1,h0⟩:=ae h0
  have:=cM (k:=0) g1
  obtain ⟨q03,l0,h0⟩:=ae h0
  simp(config:=cS)only[go_sem, *]
  refine aj (m1:=.mk) (m2:=.mk) [.nf [0,3,4] []] (mc v0) l0 ?_ ?_
  ·simp(config:=cS)only[go_sem, *]
  ·have k0:=h0
   clear h0 l0
   intro _ s0 _ h0 gb0
   obtain ⟨v3_1,v4_1⟩:=s0
   unfold fM at h0
   try dsimp only at h0
   exact run⟩
def kA (b:Int)(c:List GTake)(d:Int):(Int × (List Int))→St
 | (e,a)=>⟨[(2,.lit (.int .i64 b)),(6,.ptr 384 1 0 0),(8,.ref 575 1 0 a.length),(16,.sl (ab GTake.enc c)),(17,.lit (.int .i64 d)),(18,.lit (.int .i64 e))],[(384,1,.var [.lit (.int .i64 0),.lit (.int .i64 0)]),(575,1,.row true (ab eI a))],2⟩
attribute [go_sem] kA
attribute [go_sem] Tryz.ntmps43 Tryz.results43
instance k43 {s:GShow} {list:List GTake} {tie:Int}:Ctr (dv s list tie) (fun (res:aA × Bool)=>ah Tryz.prog 43 [.agg (GShow.encS s),.sl (ab GTake.enc list),.lit (.int .i64 tie)] [] (.tup [.agg [.lit (.int .i64 res.1.low),.lit (.int .i64 res.1.high)],.lit (.bool res.2)]) []):=⟨by
 intro res h0
 refine co (hi:=hi00) Tryz.func43 rfl rfl ?_
 unfold dv at h0
 obtain ⟨r01,g0,h0⟩:=ae h0
 simp(config:=cS)only[go_sem, *]
 have g0:=ctr g0
 refine ag g0 ?_
 obtain ⟨_,h0⟩|⟨_,h0⟩:=itB h0
 ·obtain ⟨q05,l0,h0⟩:=ae h0
  simp(config:=cS)only[go_sem, *]
  refine aj (m1:=.mk) (m2:=.mk) [.home 8,.nf [2,6,8,16,17,18] [384,575]] (kA tie list ((list.length:Nat):Int)) l0 ?_ ?_
  ·simp(config:=cS)only[go_sem, *]
  ·have k0:=h0
   clear h0 l0
   intro _ s0 _ h0 gb0
   obtain ⟨v18_1,lengths_1⟩:=s0
   unfold dD at h0
   try dsimp only at h0
   exact run
 ·exact run⟩
def ll (e:List GTake)(c f:Int)(g:List GNode)(h:List GTie)(i d:Int)(a:List GNode):(Int × (List GTie))→St
 | (j,b)=>⟨[(1,.sl (ab GTake.enc e)),(2,.lit (.int .i64 c)),(3,.ptr 192 1 0 0),(6,.ptr 384 1 0 0),(8,.ptr 512 1 0 0),(26,.lit (.int .i64 f)),(27,.lit (.int .i64 j))],[(192,1,.var [.sl (ab GNode.encS g),.sl (ab GTie.enc h),.lit (.int .i64 i)]),(384,1,.var [.lit (.slice none 0 0),.lit (.slice none 0 0),.lit (.int .i64 0)]),(512,1,.var [.ref 1472 1 0 a.length,.ref 1473 1 0 b.length,.lit (.int .i64 d)]),(1472,1,.row true (ab GNode.encO a)),(1473,1,.row true (ab GTie.enc b))],2⟩
attribute [go_sem] ll
@[go_sem] def hi39_9:DT:=.r2 0 3 (.i1 3 (.i1 4 (.r2 5 18 (.i1 23 (.i1 24 (.r2 25 5 (.i0 30 [3,4,23,24] (.r2 31 3 .nil))))))))
def hi39:Hint where
 acts:=fun _=>[]
 draws:=fun
  | 9=>⟨hi39_9,[[],[0],[],[],[3],[],[],[6],[],[6,7,8],[6,7,8,9],[6,7,8,9,10],[],[12],[],[12,13,14],[6,7,8,9,10,11,12,13,14,15],[],[17],[],[17,18,19],[17,18,19,20],[17,18,19,20,21],[],[23],[],[23,24,25],[17,18,19,20,21,22,23,24,25,26],[0,1,2,6,7,8,9,10,11,12,13,14,15,16,17,18,19,20,21,22],[0,1,2,6,7,8,9,10,11,12,13,14,15,16,17,18,19,20,21,22,28],[0,1,2,6,7,8,9,10,11,12,13,14,15,16,17,18,19,20,21,22,28,29],.range 31,.range 32,.range 33],[0,1,2,28,29,30,3,4,5,6,7,8,9,10,11,12,13,14,15,16,17,18,19,20,21,22,23,24,25,26,27,31,32,33]⟩
  | _=>⟨.nil,[],[]⟩
theorem Sr (i:Nat):hi39.acts i=[]:=rfl
theorem Ss (i:Nat):hi39.views i=none:=rfl
attribute [go_sem] Sr Ss Tryz.ntmps39 Tryz.results39
@[go_sem] theorem VY:(hi39.draws 9).order=hi39_9:=rfl
instance k39 {s:GShow} {list:List GTake} {slack:Int}:Ctr (eG s list slack) (fun (res:GShow × Bool)=>ah Tryz.prog 39 [.agg (GShow.encS s),.sl (ab GTake.enc list),.lit (.int .i64 slack)] [] (.tup [.agg [.ref 20000 1 0 res.1.nodes.length,.ref 20001 1 0 res.1.ties.length,.lit (.int .i64 res.1.horizon)],.lit (.bool res.2)]) [(20000,1,.row true (ab GNode.encO res.1.nodes)),(20001,1,.row true (ab GTie.enc res.1.ties))]):=⟨by
 intro res h0
 refine aG (ra:=[.homeCell 384 0,.homeCell 384 1]) (md:=mdT) hT (hi:=hi39) Tryz.func39 rfl rfl (by decide +kernel) (by simp) ?_
 unfold eG at h0
 obtain ⟨r01,g0,h0⟩:=ae h0
 simp(config:=cS)only[go_sem, *]
 have g0:=ctr g0
 refine ag g0 ?_
 obtain ⟨_,h0⟩|⟨_,h0⟩:=itB h0
 ·obtain ⟨r02,g0,h0⟩:=ae h0
  simp(config:=cS)only[go_sem, *]
  have g0:=ctr g0
  refine ag g0 ?_
  obtain ⟨_,h0⟩|⟨_,h0⟩:=itB h0
  ·obtain ⟨r03,g0,h0⟩:=ae h0
   simp(config:=cS)only[go_sem, *]
   have g0:=ctr g0
   refine ag g0 ?_
   obtain ⟨q07,l0,h0⟩:=ae h0
   simp(config:=cS)only[go_sem, *]
   refine aj (m1:=.mk) (m2:=.mk) [.nf [1,2,3,6,8,26,27] [192,384,512,1472,1473]] (ll list slack ((r03.ties.length:Nat):Int) s.nodes s.ties s.horizon r03.horizon r03.nodes) l0 ?_ ?_
   ·simp(config:=cS)only[go_sem, *]
   ·have k0:=h0
    clear h0 l0
    intro _ s0 _ h0 gb0
    obtain ⟨v27_1,h1473_1⟩:=s0
    unfold eF at h0
    try dsimp only at h0
    exact run
  ·exact run
 ·exact run⟩
attribute [go_sem] Tryz.ntmps41 Tryz.results41
instance k41 {t:GShow} {list:List GTake}:Ctr (dE t list) (fun (res:Bool)=>ah Tryz.prog 41 [.agg (GShow.encS t),.sl (ab GTake.enc list)] [] (.lit (.bool res)) []):=⟨by
 intro res h0
 refine co (hi:=hi00) Tryz.func41 rfl rfl ?_
 unfold dE at h0
 exact run⟩
def jt (f:List GNode)(a:Nat)(b:List AV)(c:List GNode)(d e:Int):St:=⟨[(1,.sl (ab GNode.encS f)),(2,.fn a b),(15,.sl (ab GNode.encS c)),(16,.lit (.int .i64 d)),(17,.lit (.int .i64 e))],[],2⟩
attribute [go_sem] jt
attribute [go_sem] Tryz.ntmps104 Tryz.results104
theorem qP {v0 v1:List GNode}{v2:GNode→GNode→Option Bool}{f_v2:Nat}{k_v2:List AV}(hp_v2:∀ y0 y1 r,v2 y0 y1=some r→ah Tryz.prog f_v2 ([.agg (GNode.encS y0),.agg (GNode.encS y1)]++k_v2) [] (.lit (.bool r)) [])(hc_v2:KC k_v2)(hm_v2:∀ a,mdT f_v2 a=⟨[],false⟩)(hk_v2:spf f_v2=false){res:Bool}(h:dB v0 v1 v2=some res):ah Tryz.prog 104 [.sl (ab GNode.encS v0),.sl (ab GNode.encS v1),.fn f_v2 k_v2] [] (.lit (.bool res)) []:=by
 refine co (hi:=hi00) Tryz.func104 rfl rfl ?_
 unfold dB at h
 obtain ⟨h1,h⟩|⟨h1,h⟩:=bk h
 ·obtain ⟨q04,l2,h⟩:=ae h
  simp(config:=cS)only[go_sem,hc_v2.1,hc_v2.2,hm_v2,hk_v2,eqT h1]
  refine aj (m1:=.mk) (m2:=.mk) [.nf [1,2,15,16,17] []] (jt v1 f_v2 k_v2 v0 ((v0.length:Nat):Int)) l2 ?_ ?_
  ·simp(config:=cS)only[go_sem,hc_v2.1,hc_v2.2,hm_v2,hk_v2,eqT h1]
  ·intro nb3 v17_1 bb3 b3 gb3
   unfold bV at b3
   try dsimp only at b3
   obtain ⟨h4,b3⟩|⟨h4,b3⟩:=bk b3
   ·obtain ⟨x01,g5,b3⟩:=ae b3
    obtain ⟨h6,h7,h8⟩:=dc g5
    obtain ⟨x02,g9,b3⟩:=ae b3
    obtain ⟨h10,h11,h12⟩:=dc g9
    obtain ⟨r03,g13,b3⟩:=ae b3
    simp(config:=cS)only[go_sem,hc_v2.1,hc_v2.2,hm_v2,hk_v2,eqT h1,eqT h4,h6,h7,h8,h10,h11,h12]
    refine ag (hp_v2 _ _ _ g13) ?_
    obtain ⟨h14,b3⟩|⟨h14,b3⟩:=bk b3
    ·cases b3
     simp(config:=cS)only[go_sem,hc_v2.1,hc_v2.2,hm_v2,hk_v2,eqT h1,eqT h4,h6,h7,h8,h10,h11,h12,eZt h14]
     refine ij gb3 ?_
     simp(config:=cS)only[go_sem,hc_v2.1,hc_v2.2,hm_v2,hk_v2,eqT h1,eqT h4,h6,h7,h8,h10,h11,h12,eZt h14]
    ·cases b3
     obtain rfl:=(bm gb3).symm
     try dsimp only at h
     cases h
     simp(config:=cS)only[go_sem,hc_v2.1,hc_v2.2,hm_v2,hk_v2,eqT h1,eqT h4,h6,h7,h8,h10,h11,h12,eZf h14]
   ·cases b3
    obtain rfl:=(bm gb3).symm
    try dsimp only at h
    cases h
    simp(config:=cS)only[go_sem,hc_v2.1,hc_v2.2,hm_v2,hk_v2,eqT h1,eqF h4]
 ·cases h
  simp(config:=cS)only[go_sem,hc_v2.1,hc_v2.2,hm_v2,hk_v2,eqF h1]
attribute [go_sem] Tryz.ntmps105 Tryz.results105
instance k105 {a:GNode} {b:GNode}:Ctr (dY a b) (fun (res:Bool)=>ah Tryz.prog 105 [.agg (GNode.encS a),.agg (GNode.encS b)] [] (.lit (.bool res)) []):=⟨by
 intro res h0
 refine co (hi:=hi00) Tryz.func105 rfl rfl ?_
 unfold dY at h0
 exact run⟩
def lm (c d:List GTie)(a b:Int):St:=⟨[(0,.sl (ab GTie.enc c)),(1,.sl (ab GTie.enc d)),(12,.lit (.int .i64 a)),(13,.lit (.int .i64 b))],[],2⟩
attribute [go_sem] lm
@[go_sem] def hi106_6:DT:=.r2 0 9 .nil
def DU:Hint where
 acts:=fun _=>[]
 draws:=fun
  | 6=>⟨hi106_6,[[],[],[0,1],[0,1,2],[],[],[4,5],[4,5,6],.range 8],.range 9⟩
  | _=>⟨.nil,[],[]⟩
theorem PA (i:Nat):DU.acts i=[]:=rfl
theorem PB (i:Nat):DU.views i=none:=rfl
attribute [go_sem] PA PB Tryz.ntmps106 Tryz.results106
@[go_sem] theorem UP:(DU.draws 6).order=hi106_6:=rfl
instance k106 {v0:List GTie} {v1:List GTie}:Ctr (gE v0 v1) (fun (res:Bool)=>ah Tryz.prog 106 [.sl (ab GTie.enc v0),.sl (ab GTie.enc v1)] [] (.lit (.bool res)) []):=⟨by
 intro res h0
 refine co (hi:=DU) Tryz.func106 rfl rfl ?_
 unfold gE at h0
 obtain ⟨_,h0⟩|⟨_,h0⟩:=itP h0
 ·obtain ⟨q03,l0,h0⟩:=ae h0
  simp(config:=cS)only[go_sem, *]
  refine aj (m1:=.mk) (m2:=.mk) [.nf [0,1,12,13] []] (lm v0 v1 ((v0.length:Nat):Int)) l0 ?_ ?_
  ·simp(config:=cS)only[go_sem, *]
  ·have k0:=h0
   clear h0 l0
   intro _ v13_1 _ h0 gb0
   unfold cX at h0
   try dsimp only at h0
   exact run
 ·exact run⟩
attribute [go_sem] Tryz.ntmps42 Tryz.results42
instance k42 {a:GShow} {b:GShow}:Ctr (iF a b) (fun (res:Bool)=>ah Tryz.prog 42 [.agg (GShow.encS a),.agg (GShow.encS b)] [] (.lit (.bool res)) []):=⟨by
 intro res h0
 refine co (hi:=hi00) Tryz.func42 rfl rfl ?_
 unfold iF at h0
 obtain ⟨r01,g0,h0⟩:=ae h0
 simp(config:=cS)only[go_sem, *]
 refine ag (qP (by exact fun _ _ _ hr=>by have q:=ctr hr;exact q) (by refine ⟨fun _=>?_,fun _=>?_⟩ <;> simp only [go_sem]) (fun _=>rfl) rfl g0) ?_
 exact run⟩
def kB (a:List GTie)(c:Int)(d:List GNode)(e:Int)(f:List GNode)(g:List GTie)(h:Int):(Int × (List ByteArray))→St
 | (i,b)=>⟨[(2,.ptr 128 1 0 0),(3,.ptr 192 1 0 0),(5,.ref 383 1 0 b.length),(36,.sl (ab GTie.enc a)),(37,.lit (.int .i64 c)),(38,.lit (.int .i64 i))],[(128,1,.var [.sl (ab GNode.encS d),.sl (ab GTie.enc a),.lit (.int .i64 e)]),(192,1,.var [.sl (ab GNode.encS f),.sl (ab GTie.enc g),.lit (.int .i64 h)]),(383,1,.row true (ab eS b))],2⟩
attribute [go_sem] kB
@[go_sem] def hi44_9:DT:=.i2 0 (.i1 1 (.i1 2 (.i1 3 (.i1 4 (.i1 5 (.i1 6 (.i1 7 (.i1 8 (.i1 9 (.i1 10 (.i1 11 (.i1 12 (.i1 13 (.i1 14 (.i2 15 (.i2 16 (.i1 18 (.i1 19 (.i0 17 [1,2,3,4,5,6,7,8,9,10,11,12,13,14,18,19] (.i0 20 [1,2,3,4,5,6,7,8,9,10,11,12,13,14] (.r2 21 5 .nil)))))))))))))))))))))
def hi44:Hint where
 acts:=fun _=>[]
 draws:=fun
  | 9=>⟨hi44_9,[[],[],[1],[],[3],[1,2,3,4],[1,2,3,4,5],[1,2,3,4,5,6],[],[8],[],[10],[8,9,10,11],[8,9,10,11,12],[8,9,10,11,12,13],[],[15],[15,16],[],[18],[15,16,17,18,19],[1,2,3,4,5,6,7,8,9,10,11,12,13,14,15,16,17,18,19,20],[1,2,3,4,5,6,7,8,9,10,11,12,13,14,15,16,17,18,19,20,21],[1,2,3,4,5,6,7,8,9,10,11,12,13,14,15,16,17,18,19,20,21,22],.range 24,.range 25],.range 26⟩
  | _=>⟨.nil,[],[]⟩
theorem Su (i:Nat):hi44.acts i=[]:=rfl
theorem Sv (i:Nat):hi44.views i=none:=rfl
attribute [go_sem] Su Sv Tryz.ntmps44 Tryz.results44
@[go_sem] theorem VZ:(hi44.draws 9).order=hi44_9:=rfl
instance k44 {s:GShow} {t:GShow}:Ctr (eY s t) (fun (res:List ByteArray)=>ah Tryz.prog 44 [.agg (GShow.encS s),.agg (GShow.encS t)] [] (.ref 20000 1 0 res.length) [(20000,1,.row true (ab eS res))]):=⟨by
 intro res h0
 refine aG (ra:=[.home 4]) (md:=mdT) hT (hi:=hi44) Tryz.func44 rfl rfl (by decide +kernel) (by simp) ?_
 unfold eY at h0
 obtain ⟨r01,g0,h0⟩:=ae h0
 simp(config:=cS)only[go_sem, *]
 have g0:=ctr g0
 refine ag g0 ?_
 obtain ⟨_,h0⟩|⟨_,h0⟩:=itB h0
 ·obtain ⟨r02,g0,h0⟩:=ae h0
  simp(config:=cS)only[go_sem, *]
  have g0:=ctr g0
  refine ag g0 ?_
  obtain ⟨_,h0⟩|⟨_,h0⟩:=itB h0
  ·obtain ⟨_,h0⟩|⟨_,h0⟩:=itP h0
   ·obtain ⟨_,h0⟩|⟨_,h0⟩:=itP h0
    ·obtain ⟨q15,l0,h0⟩:=ae h0
     simp(config:=cS)only[go_sem, *]
     refine aj (m1:=.mk) (m2:=.mk) [.home 5,.nf [2,3,5,36,37,38] [128,192,383]] (kB s.ties ((s.ties.length:Nat):Int) s.nodes s.horizon t.nodes t.ties t.horizon) l0 ?_ ?_
     ·simp(config:=cS)only[go_sem, *]
     ·have k0:=h0
      clear h0 l0
      intro _ s0 _ h0 gb0
      obtain ⟨v38_1,out_1⟩:=s0
      unfold dF at h0
      try dsimp only at h0
      exact run
    ·exact run
   ·exact run
  ·exact run
 ·exact run⟩
@[go_sem] def hi34_1:DT:=.r2 0 5 (.i1 6 (.i0 5 [6] (.r2 7 3 .nil)))
def hi34:Hint where
 acts:=fun _=>[]
 draws:=fun
  | 1=>⟨hi34_1,[[],[],[0,1],[0,1,2],[0,1,2,3],.range 5,[0,1,2,3],.range 7,.range 8,.range 9],.range 10⟩
  | _=>⟨.nil,[],[]⟩
theorem Sw (i:Nat):hi34.acts i=[]:=rfl
theorem Sx (i:Nat):hi34.views i=none:=rfl
attribute [go_sem] Sw Sx Tryz.ntmps34 Tryz.results34
@[go_sem] theorem Wa:(hi34.draws 1).order=hi34_1:=rfl
instance k34 {s:GShow} {v1:GState}:Ctr (kM s v1) (fun (res:Bool)=>ah Tryz.prog 34 [.agg (GShow.encS s),.agg (GState.encS v1)] [] (.lit (.bool res)) []):=⟨by
 intro res h0
 refine co (hi:=hi34) Tryz.func34 rfl rfl ?_
 unfold kM at h0
 obtain ⟨r01,g0,h0⟩:=ae h0
 simp(config:=cS)only[go_sem, *]
 have g0:=ctr g0
 refine ag g0 ?_
 obtain ⟨_,h0⟩|⟨_,h0⟩:=itB h0
 ·obtain ⟨r02,g0,h0⟩:=ae h0
  simp(config:=cS)only[go_sem, *]
  have g0:=ctr g0
  refine ag g0 ?_
  obtain ⟨r03,g0,h0⟩:=ae h0
  simp(config:=cS)only[go_sem, *]
  refine ag (mF g0) ?_
  exact run
 ·exact run⟩
@[go_sem] def hi32_1:DT:=.i1 0 (.i2 1 (.i0 2 [0] (.i2 3 (.i2 4 .nil))))
def hi32:Hint where
 acts:=fun _=>[]
 draws:=fun
  | 1=>⟨hi32_1,[[],[],[1],[0,1,2],[0,1,2,3]],.range 5⟩
  | _=>⟨.nil,[],[]⟩
theorem Sy (i:Nat):hi32.acts i=[]:=rfl
theorem Sz (i:Nat):hi32.views i=none:=rfl
attribute [go_sem] Sy Sz Tryz.ntmps32 Tryz.results32
@[go_sem] theorem Wb:(hi32.draws 1).order=hi32_1:=rfl
instance k32 {s:GShow}:Ctr (gd s) (fun (res:Bool)=>ah Tryz.prog 32 [.agg (GShow.encS s)] [] (.lit (.bool res)) []):=⟨by
 intro res h0
 refine co (hi:=hi32) Tryz.func32 rfl rfl ?_
 unfold gd at h0
 exact run⟩
def ln (f g h:Int)(a:List GNode)(b:List GTie)(e:List GTake)(c:List GNode)(d:List GTie)(i:Int):St:=⟨[(3,.ptr 192 1 0 0),(7,.ref 2432 1 0 e.length),(8,.ptr 512 1 0 0),(86,.ref 2432 1 0 e.length),(87,.lit (.int .i64 f)),(88,.lit (.int .i64 i))],[(192,1,.var [.ref 1280 1 0 a.length,.ref 1281 1 0 b.length,.lit (.int .i64 g)]),(1280,1,.row true (ab GNode.encO a)),(1281,1,.row true (ab GTie.enc b)),(2432,1,.row true (ab GTake.enc e)),(512,1,.var [.ref 2688 1 0 c.length,.ref 2689 1 0 d.length,.lit (.int .i64 h)]),(2688,1,.row true (ab GNode.encO c)),(2689,1,.row true (ab GTie.enc d))],2⟩
attribute [go_sem] ln
@[go_sem] def hi7_20:DT:=.r2 0 33 .nil
def hi7:Hint where
 acts:=fun _=>[]
 draws:=fun
  | 20=>⟨hi7_20,[[],[0],[0,1],[0,1,2],[0,1,2,3],[0,1,2],[0,1,2,5],.range 7,.range 8,.range 9,.range 10,.range 11,.range 10,[0,1,2,3,4,5,6,7,8,9,12],.range 14,.range 15,.range 16,.range 10,[0,1,2,3,4,5,6,7,8,9,17],.range 19,.range 20,.range 21,.range 22,.range 23,.range 22,[0,1,2,3,4,5,6,7,8,9,10,11,12,13,14,15,16,17,18,19,20,21,24],.range 26,.range 27,.range 28,.range 22,[0,1,2,3,4,5,6,7,8,9,10,11,12,13,14,15,16,17,18,19,20,21,29],.range 31,.range 32],.range 33⟩
  | _=>⟨.nil,[],[]⟩
theorem hi7a (i:Nat):hi7.acts i=[]:=rfl
theorem hi7v (i:Nat):hi7.views i=none:=rfl
attribute [go_sem] hi7a hi7v Tryz.ntmps7 Tryz.results7
@[go_sem] theorem Wc:(hi7.draws 20).order=hi7_20:=rfl
theorem uF {code:List Int}{res:Bool}(h0:jl code=some res):ah Tryz.prog 7 [.sl (ab (eK .u8) code)] [] (.lit (.bool res)) []:=by
 refine co (hi:=hi7) Tryz.func7 rfl rfl ?_
 unfold jl at h0
 obtain ⟨_,h0⟩|⟨_,h0⟩:=itP h0
 ·exact run
 ·obtain ⟨r01,g0,h0⟩:=ae h0
  simp(config:=cS)only[go_sem, *]
  have g0:=ctr g0
  refine ag g0 ?_
  obtain ⟨r02,g0,h0⟩:=ae h0
  simp(config:=cS)only[go_sem, *]
  have g0:=ctr g0
  refine ag g0 ?_
  obtain ⟨r03,g0,h0⟩:=ae h0
  simp(config:=cS)only[go_sem, *]
  have g0:=ctr g0
  refine ag g0 ?_
  obtain ⟨r04,g0,h0⟩:=ae h0
  simp(config:=cS)only[go_sem, *]
  have g0:=ctr g0
  refine ag g0 ?_
  obtain ⟨r05,g0,h0⟩:=ae h0
  simp(config:=cS)only[go_sem, *]
  have g0:=ctr g0
  refine ag g0 ?_
  obtain ⟨r06,g0,h0⟩:=ae h0
  simp(config:=cS)only[go_sem, *]
  have g0:=ctr g0
  refine ag g0 ?_
  obtain ⟨r07,g0,h0⟩:=ae h0
  simp(config:=cS)only[go_sem, *]
  have g0:=ctr g0
  refine ag g0 ?_
  obtain ⟨_,h0⟩|⟨_,h0⟩:=itB h0
  ·obtain ⟨_,h0⟩|⟨_,h0⟩:=itB h0
   ·obtain ⟨_,h0⟩|⟨_,h0⟩:=itB h0
    ·obtain ⟨r08,g0,h0⟩:=ae h0
     simp(config:=cS)only[go_sem, *]
     have g0:=ctr g0
     refine ag g0 ?_
     obtain ⟨_,h0⟩|⟨_,h0⟩:=itB h0
     ·obtain ⟨r09,g0,h0⟩:=ae h0
      simp(config:=cS)only[go_sem, *]
      have g0:=ctr g0
      refine ag g0 ?_
      obtain ⟨_,h0⟩|⟨_,h0⟩:=itB h0
      ·obtain ⟨r10,g0,h0⟩:=ae h0
       simp(config:=cS)only[go_sem, *]
       have g0:=ctr g0
       refine ag g0 ?_
       obtain ⟨_,h0⟩|⟨_,h0⟩:=itB h0
       ·obtain ⟨_,h0⟩|⟨_,h0⟩:=itP h0
        ·obtain ⟨q17,l0,h0⟩:=ae h0
         simp(config:=cS)only[go_sem, *]
         refine aj (m1:=.mk) (m2:=.mk) [.nf [3,7,8,86,87,88] [192,1280,1281,2432,512,2688,2689]] (ln ((r05.length:Nat):Int) r01.horizon r06.1.horizon r01.nodes r01.ties r05 r06.1.nodes r06.1.ties) l0 ?_ ?_
         ·simp(config:=cS)only[go_sem, *]
         ·have k0:=h0
          clear h0 l0
          intro _ v88_1 _ h0 gb0
          unfold eH at h0
          try dsimp only at h0
          exact run
        ·exact run
       ·exact run
      ·exact run
     ·exact run
    ·exact run
   ·exact run
  ·exact run
end Go.Proofs.Qd
