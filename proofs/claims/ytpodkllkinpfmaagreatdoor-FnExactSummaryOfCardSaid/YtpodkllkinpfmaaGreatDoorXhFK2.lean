/- Functions. -/
import Derived.Test.YtpodkllkinpfmaaGreatDoorXhFK1
set_option linter.all false
set_option maxRecDepth 100000
set_option maxHeartbeats 4000000
namespace Go.Proofs.Qh
open Go Tryz
@[go_sem] def wB (v28:List GNode)(v29:Int)(s_1:List GTie)(s_2:Int)(v3_0 v3_1:List Int):(Int × Int × (List GLink) × (List ByteArray))→St
 | (v30,out_0,h100024577,h100028672)=>⟨[(2,.ptr 128 1 0 0),(3,.ptr 192 1 0 0),(4,.ptr 256 1 0 0),(6,.ptr 384 1 0 0),(7,.ptr 448 1 0 0),(8,.fn 252 [.ptr 384 1 0 0,.ptr 448 1 0 0]),(28,.sl (ab GNode.encS v28)),(29,.lit (.int .i64 v29)),(30,.lit (.int .i64 v30))],[(128,1,.var [.sl (ab GNode.encS v28),.sl (ab GTie.enc s_1),.lit (.int .i64 s_2)]),(192,1,.var [.sl (ab eI v3_0),.sl (ab eI v3_1)]),(256,1,.var [.lit (.int .i64 0),.lit (.slice none 0 0)]),(384,1,.var [.lit (.int .i64 out_0),.ref 100024577 1 0 h100024577.length]),(100024577,1,.row true (ab GLink.enc h100024577)),(448,1,.var [.ref 100028672 1 0 h100028672.length]),(100028672,1,.row true (ab eS h100028672))],2⟩
@[go_sem] def wC (v51:List GTie)(v52:Int)(s_0:List GNode)(s_2:Int)(v3_0 v3_1 free:List Int):(Int × Int × (List GLink) × (List ByteArray))→St
 | (v53,out_0,h100024577,h100028672)=>⟨[(2,.ptr 128 1 0 0),(3,.ptr 192 1 0 0),(4,.ptr 256 1 0 0),(6,.ptr 384 1 0 0),(7,.ptr 448 1 0 0),(8,.fn 252 [.ptr 384 1 0 0,.ptr 448 1 0 0]),(11,.ref 3136 1 0 free.length),(51,.sl (ab GTie.enc v51)),(52,.lit (.int .i64 v52)),(53,.lit (.int .i64 v53))],[(128,1,.var [.sl (ab GNode.encS s_0),.sl (ab GTie.enc v51),.lit (.int .i64 s_2)]),(192,1,.var [.sl (ab eI v3_0),.sl (ab eI v3_1)]),(256,1,.var [.lit (.int .i64 0),.lit (.slice none 0 0)]),(384,1,.var [.lit (.int .i64 out_0),.ref 100024577 1 0 h100024577.length]),(100024577,1,.row true (ab GLink.enc h100024577)),(448,1,.var [.ref 100028672 1 0 h100028672.length]),(100028672,1,.row true (ab eS h100028672)),(3136,1,.row true (ab eI free))],2⟩
@[go_sem] def wD (v100:Int)(s_0:List GNode)(s_1:List GTie)(s_2:Int)(v3_0 v3_1:List Int):(Int × Int × (List GLink) × (List ByteArray))→St
 | (v101,out_0,h100024577,h100028672)=>⟨[(2,.ptr 128 1 0 0),(3,.ptr 192 1 0 0),(4,.ptr 256 1 0 0),(6,.ptr 384 1 0 0),(7,.ptr 448 1 0 0),(8,.fn 252 [.ptr 384 1 0 0,.ptr 448 1 0 0]),(100,.lit (.int .i64 v100)),(101,.lit (.int .i64 v101))],[(128,1,.var [.sl (ab GNode.encS s_0),.sl (ab GTie.enc s_1),.lit (.int .i64 s_2)]),(192,1,.var [.sl (ab eI v3_0),.sl (ab eI v3_1)]),(256,1,.var [.lit (.int .i64 0),.lit (.slice none 0 0)]),(384,1,.var [.lit (.int .i64 out_0),.ref 100024577 1 0 h100024577.length]),(100024577,1,.row true (ab GLink.enc h100024577)),(448,1,.var [.ref 100028672 1 0 h100028672.length]),(100028672,1,.row true (ab eS h100028672))],2⟩
@[go_sem] def wE (i:Int)(v114:List GNode)(v115:Int)(v122:List Int)(v123:Int)(s_1:List GTie)(s_2:Int)(v3_0 v3_1:List Int)(n_0:ByteArray)(n_2:Int):(Int × Int × (List GLink) × (List ByteArray))→St
 | (v124,out_0,h100024577,h100028672)=>⟨[(2,.ptr 128 1 0 0),(3,.ptr 192 1 0 0),(4,.ptr 256 1 0 0),(6,.ptr 384 1 0 0),(7,.ptr 448 1 0 0),(8,.fn 252 [.ptr 384 1 0 0,.ptr 448 1 0 0]),(17,.lit (.int .i64 i)),(18,.ptr 1152 1 0 0),(114,.sl (ab GNode.encS v114)),(115,.lit (.int .i64 v115)),(116,.lit (.int .i64 i)),(122,.sl (ab eI v122)),(123,.lit (.int .i64 v123)),(124,.lit (.int .i64 v124))],[(128,1,.var [.sl (ab GNode.encS v114),.sl (ab GTie.enc s_1),.lit (.int .i64 s_2)]),(192,1,.var [.sl (ab eI v3_0),.sl (ab eI v3_1)]),(256,1,.var [.lit (.int .i64 0),.lit (.slice none 0 0)]),(384,1,.var [.lit (.int .i64 out_0),.ref 100024577 1 0 h100024577.length]),(100024577,1,.row true (ab GLink.enc h100024577)),(448,1,.var [.ref 100028672 1 0 h100028672.length]),(100028672,1,.row true (ab eS h100028672)),(1152,1,.var [.lit (.string n_0),.sl (ab eI v122),.lit (.int .i64 n_2)])],2⟩
@[go_sem] def wF (v114:List GNode)(v115:Int)(s_1:List GTie)(s_2:Int)(v3_0 v3_1:List Int):(Int × Int × (List GLink) × (List ByteArray))→St
 | (v116,out_0,h100024577,h100028672)=>⟨[(2,.ptr 128 1 0 0),(3,.ptr 192 1 0 0),(4,.ptr 256 1 0 0),(6,.ptr 384 1 0 0),(7,.ptr 448 1 0 0),(8,.fn 252 [.ptr 384 1 0 0,.ptr 448 1 0 0]),(114,.sl (ab GNode.encS v114)),(115,.lit (.int .i64 v115)),(116,.lit (.int .i64 v116))],[(128,1,.var [.sl (ab GNode.encS v114),.sl (ab GTie.enc s_1),.lit (.int .i64 s_2)]),(192,1,.var [.sl (ab eI v3_0),.sl (ab eI v3_1)]),(256,1,.var [.lit (.int .i64 0),.lit (.slice none 0 0)]),(384,1,.var [.lit (.int .i64 out_0),.ref 100024577 1 0 h100024577.length]),(100024577,1,.row true (ab GLink.enc h100024577)),(448,1,.var [.ref 100028672 1 0 h100028672.length]),(100028672,1,.row true (ab eS h100028672))],2⟩
@[go_sem] def hi171_38:DT:=.i2 0 (.i1 1 (.i0 2 [1] (.i2 3 .nil)))
@[go_sem] def hi171_35:DT:=.r2 0 15 .nil
@[go_sem] def hi171_34:DT:=.i1 0 (.i2 1 (.i0 2 [0] (.i2 3 (.i2 4 .nil))))
@[go_sem] def hi171_19:DT:=.i2 0 (.i1 1 (.i1 2 (.i1 3 (.i1 4 (.r2 5 4 (.i0 9 [1,2,3,4] (.i2 10 .nil)))))))
@[go_sem] def hi171_17:DT:=.i1 0 (.i1 1 (.i2 2 (.i2 3 (.i0 4 [0,1] (.r2 5 3 .nil)))))
@[go_sem] def hi171_15:DT:=.r2 0 6 .nil
def bp:Hint where
 acts:=fun i=>match i with|8=>[.homeCell 384 1,.homeCell 448 0]|_=>[]
 draws:=fun
  | 15=>⟨hi171_15,[[],[0],[],[2],[0,1],.range 5],[0,1,3,4,2,5]⟩
  | 17=>⟨hi171_17,[[],[0],[],[],[2,3],.range 5,.range 6,.range 7],.range 8⟩
  | 19=>⟨hi171_19,[[],[],[1],[],[3],[],[],[],[],[7,8],.range 10],.range 11⟩
  | 34=>⟨hi171_34,[[],[],[1],[0,1,2],[0,1,2,3]],.range 5⟩
  | 35=>⟨hi171_35,[[],[],[],[],[3],[],[3,4,5],[3,4,5,6],[3,4,5,6,7],[3,4,5,6,7,8],[3,4,5,6,7,8,9],[],[11],[3,4,5,6,7,8,9,10,11,12],.range 14],.range 15⟩
  | 38=>⟨hi171_38,[[],[],[0],[0,1,2]],[0,2,1,3]⟩
  | _=>⟨.nil,[],[]⟩
@[go_sem] theorem aal:bp.acts 0=[]:=rfl
@[go_sem] theorem aam:bp.acts 1=[]:=rfl
@[go_sem] theorem aan:bp.acts 2=[]:=rfl
@[go_sem] theorem aao:bp.acts 3=[]:=rfl
@[go_sem] theorem aap:bp.acts 4=[]:=rfl
@[go_sem] theorem aaq:bp.acts 5=[]:=rfl
@[go_sem] theorem aar:bp.acts 6=[]:=rfl
@[go_sem] theorem aas:bp.acts 7=[]:=rfl
@[go_sem] theorem aat:bp.acts 8=[.homeCell 384 1,.homeCell 448 0]:=rfl
@[go_sem] theorem aau:bp.acts 9=[]:=rfl
@[go_sem] theorem YJ:bp.acts 10=[]:=rfl
@[go_sem] theorem YK:bp.acts 11=[]:=rfl
@[go_sem] theorem YL:bp.acts 12=[]:=rfl
@[go_sem] theorem YM:bp.acts 13=[]:=rfl
@[go_sem] theorem YN:bp.acts 14=[]:=rfl
@[go_sem] theorem YO:bp.acts 15=[]:=rfl
@[go_sem] theorem YP:bp.acts 16=[]:=rfl
@[go_sem] theorem YQ:bp.acts 17=[]:=rfl
@[go_sem] theorem YR:bp.acts 18=[]:=rfl
@[go_sem] theorem YS:bp.acts 19=[]:=rfl
@[go_sem] theorem YT:bp.acts 20=[]:=rfl
@[go_sem] theorem YU:bp.acts 21=[]:=rfl
@[go_sem] theorem YV:bp.acts 22=[]:=rfl
@[go_sem] theorem YW:bp.acts 23=[]:=rfl
@[go_sem] theorem YX:bp.acts 24=[]:=rfl
@[go_sem] theorem YY:bp.acts 25=[]:=rfl
@[go_sem] theorem YZ:bp.acts 26=[]:=rfl
@[go_sem] theorem Za:bp.acts 27=[]:=rfl
@[go_sem] theorem Zb:bp.acts 28=[]:=rfl
@[go_sem] theorem Zc:bp.acts 29=[]:=rfl
@[go_sem] theorem Zd:bp.acts 30=[]:=rfl
@[go_sem] theorem Ze:bp.acts 31=[]:=rfl
@[go_sem] theorem Zf:bp.acts 32=[]:=rfl
@[go_sem] theorem Zg:bp.acts 33=[]:=rfl
@[go_sem] theorem Zh:bp.acts 34=[]:=rfl
@[go_sem] theorem Zi:bp.acts 35=[]:=rfl
@[go_sem] theorem Zj:bp.acts 36=[]:=rfl
@[go_sem] theorem Zk:bp.acts 37=[]:=rfl
@[go_sem] theorem Zl:bp.acts 38=[]:=rfl
theorem WH (i:Nat):bp.views i=none:=rfl
attribute[go_sem] WH ntmps171 results171
@[go_sem] theorem Zm:(bp.draws 15).order=hi171_15:=rfl
@[go_sem] theorem Zn:(bp.draws 17).order=hi171_17:=rfl
@[go_sem] theorem Zo:(bp.draws 19).order=hi171_19:=rfl
@[go_sem] theorem Zp:(bp.draws 34).order=hi171_34:=rfl
@[go_sem] theorem Zq:(bp.draws 35).order=hi171_35:=rfl
@[go_sem] theorem Zr:(bp.draws 38).order=hi171_38:=rfl
instance k171 {s:GShow} {v1:GChoice}:Ctr (mB s v1) (fun (res:GSimple × (List ByteArray))=>aj prog 171 [.agg (GShow.encS s),.agg [.sl (ab eI v1.lengths),.sl (ab eI v1.values)]] [] (.tup [.agg [.lit (.int .i64 res.1.events),.ref 20000 1 0 res.1.links.length],.ref 20001 1 0 res.2.length]) [(20000,1,.row true (ab GLink.enc res.1.links)),(20001,1,.row true (ab eS res.2))]):=⟨by
 intro res h0
 refine aB (ra:=[.homeCell 256 1,.home 5]) (md:=mdT) hT (hi:=bp) func171 rfl rfl (by decide +kernel) (by simp) ?_
 unfold mB at h0
 obtain⟨q27,l0,h0⟩:=ae h0
 simp(config:=cS)only[go_sem, *]
 refine ag (m1:=.mk) (m2:=.mk) [.homeCell 384 1,.homeCell 448 0,.nfp [2,3,4,6,7,8,28,29,30] [(128,128),(192,192),(256,256),(384,384),(2944,100024577),(100024577,100024577),(448,448),(2945,100028672),(100028672,100028672)] []] (wB s.nodes (s.nodes.length:Int) s.ties s.horizon v1.lengths v1.values) l0 ?_ ?_
 ·simp(config:=cS)only[go_sem, *]
 have k0:=h0
 clear h0 l0
 intro _ s0 _ h0 gb0
 obtain⟨v30_1,out_0_1,h100024577_1,h100028672_1⟩:=s0
 unfold jH at h0
 try dsimp only at h0
 obtain⟨_,h0⟩|⟨_,h0⟩:=itP h0
 ·exact run
 cases h0
 obtain rfl:=(aE gb0).symm
 clear gb0
 have h0:=k0
 clear k0
 try dsimp only at h0
 obtain⟨r04,g0,h0⟩:=ae h0
 simp(config:=cS)only[go_sem, *]
 have g0:=ctr g0
 refine ai g0 ?_
 obtain⟨q26,l0,h0⟩:=ae h0
 simp(config:=cS)only[go_sem, *]
 refine ag (m1:=.mk) (m2:=.mk) [.nfp [2,3,4,6,7,8,11,51,52,53] [(128,128),(192,192),(256,256),(384,384),(6144,100024577),(100024577,100024577),(448,448),(6145,100028672),(100028672,100028672),(3136,3136)] []] (wC s.ties (s.ties.length:Int) s.nodes s.horizon v1.lengths v1.values r04) l0 ?_ ?_
 ·simp(config:=cS)only[go_sem, *]
 have k0:=h0
 clear h0 l0
 intro _ s0 _ h0 gb0
 obtain⟨v53_2,out_0_2,h100024577_2,h100028672_2⟩:=s0
 unfold jI at h0
 try dsimp only at h0
 obtain⟨_,h0⟩|⟨_,h0⟩:=itP h0
 ·exact run
 cases h0
 obtain rfl:=(aE gb0).symm
 clear gb0
 have h0:=k0
 clear k0
 try dsimp only at h0
 obtain⟨q25,l0,h0⟩:=ae h0
 simp(config:=cS)only[go_sem, *]
 refine ag (m1:=.mk) (m2:=.mk) [.nfp [2,3,4,6,7,8,100,101] [(128,128),(192,192),(256,256),(384,384),(7104,100024577),(100024577,100024577),(448,448),(7105,100028672),(100028672,100028672)] []] (wD (s.nodes.length:Int) s.nodes s.ties s.horizon v1.lengths v1.values) l0 ?_ ?_
 ·simp(config:=cS)only[go_sem, *]
 have k0:=h0
 clear h0 l0
 intro _ s0 _ h0 gb0
 obtain⟨v101_3,out_0_3,h100024577_3,h100028672_3⟩:=s0
 unfold jJ at h0
 try dsimp only at h0
 obtain⟨_,h0⟩|⟨_,h0⟩:=itP h0
 ·exact run
 cases h0
 obtain rfl:=(aE gb0).symm
 clear gb0
 have h0:=k0
 clear k0
 try dsimp only at h0
 obtain⟨q24,l0,h0⟩:=ae h0
 simp(config:=cS)only[go_sem, *]
 refine ag (m1:=.mk) (m2:=.mk) [.nf [2,3,4,6,7,8,114,115,116] [128,192,256,384,100024577,448,100028672]] (wF s.nodes (s.nodes.length:Int) s.ties s.horizon v1.lengths v1.values) l0 ?_ ?_
 ·simp(config:=cS)only[go_sem, *]
 have k0:=h0
 clear h0 l0
 intro _ s0 _ h0 gb0
 obtain⟨v116_4,out_0_4,h100024577_4,h100028672_4⟩:=s0
 unfold jL at h0
 try dsimp only at h0
 obtain⟨_,h0⟩|⟨_,h0⟩:=itP h0
 ·obtain⟨x16,_,_,_,h0⟩:=gtI h0
  obtain⟨q23,l0,h0⟩:=ae h0
  simp(config:=cS)only[go_sem, *]
  refine ag (m1:=.mk) (m2:=.mk) [.nfp [2,3,4,6,7,8,17,18,114,115,116,122,123,124] [(128,128),(192,192),(256,256),(384,384),(9600,100024577),(100024577,100024577),(448,448),(9601,100028672),(100028672,100028672),(1152,1152)] []] (wE v116_4 s.nodes (s.nodes.length:Int) x16.label (x16.label.length:Int) s.ties s.horizon v1.lengths v1.values x16.name x16.watch) l0 ?_ ?_
  ·simp(config:=cS)only[go_sem, *]
  have k0:=h0
  clear h0 l0
  intro _ s0 _ h0 gb0
  obtain⟨v124_5,out_0_5,h100024577_5,h100028672_5⟩:=s0
  unfold jK at h0
  try dsimp only at h0
  obtain⟨_,h0⟩|⟨_,h0⟩:=itP h0
  ·obtain⟨x17,_,_,_,h0⟩:=gtI h0
   obtain⟨r18,g0,h0⟩:=ae h0
   simp(config:=cS)only[go_sem, *]
   have g0:=ctr g0
   refine ai g0 ?_
   obtain⟨_,h0⟩|⟨_,h0⟩:=itB h0
   ·obtain⟨r19,g0,h0⟩:=ae h0
    simp(config:=cS)only[go_sem, *]
    have g0:=ctr g0
    refine ai g0 ?_
    obtain⟨r20,g0,h0⟩:=ae h0
    simp(config:=cS)only[go_sem, *]
    have g0:=ctr g0
    refine ai g0 ?_
    obtain⟨x21,_,_,_,h0⟩:=gtI h0
    obtain⟨_,h0⟩:=ckP h0
    obtain⟨a1,h0⟩:=ckP h0
    try simp(config:=cS)only[go_sem]at a1
    obtain⟨a2,h0⟩:=ckP h0
    try simp(config:=cS)only[go_sem]at a2
    exact run
   exact run
  exact run
 exact run⟩
attribute[go_sem] ntmps68 results68 ntmps37 results37 ntmps218 results218 ntmps115 results115 ntmps114 results114 ntmps179 results179 ntmps180 results180 ntmps16 results16
instance k68 {s:GShow} {v1:GChoice}:Ctr (jc s v1) (fun (res:GSimple × Bool)=>aj prog 68 [.agg (GShow.encS s),.agg [.sl (ab eI v1.lengths),.sl (ab eI v1.values)]] [] (.tup [.agg [.lit (.int .i64 res.1.events),.ref 20000 1 0 res.1.links.length],.lit (.bool res.2)]) [(20000,1,.row true (ab GLink.enc res.1.links))]):=⟨by
 intro res h0
 refine aB (ra:=[.homeCell 256 1]) (md:=mdT) hT (hi:=hi00) func68 rfl rfl (by decide +kernel) (by simp) ?_
 unfold jc at h0
 exact run⟩
instance k37 {s:GShow} {v1:GChoice}:Ctr (kN s v1) (fun (res:Bool)=>aj prog 37 [.agg (GShow.encS s),.agg [.sl (ab eI v1.lengths),.sl (ab eI v1.values)]] [] (.lit (.bool res)) []):=⟨by
 intro res h0
 refine co (hi:=hi00) func37 rfl rfl ?_
 unfold kN at h0
 exact run⟩
@[go_sem] def th (most:Int)(s_0:List GNode)(s_1:List GTie)(s_2 n:Int):St:=⟨[(1,.ptr 64 1 0 0),(3,.lit (.int .i64 n)),(4,.lit (.int .i64 most))],[(64,1,.var [.sl (ab GNode.encS s_0),.sl (ab GTie.enc s_1),.lit (.int .i64 s_2)])],2⟩
@[go_sem] def hi288_4:DT:=.i1 0 (.i2 1 (.i2 2 (.i0 3 [0] (.i2 4 (.i2 5 .nil)))))
def Jk:Hint where
 acts:=fun _=>[]
 draws:=fun
  | 4=>⟨hi288_4,[[],[],[],[1,2],[0,1,2,3],.range 5],.range 6⟩
  | _=>⟨.nil,[],[]⟩
theorem WI (i:Nat):Jk.acts i=[]:=rfl
theorem WJ (i:Nat):Jk.views i=none:=rfl
attribute[go_sem] WI WJ ntmps288 results288
@[go_sem] theorem aav:(Jk.draws 4).order=hi288_4:=rfl
instance k288 {s:GShow}:Ctr (jj s) (fun (res:Int)=>aj prog 288 [.agg (GShow.encS s)] [] (.lit (.int .i64 res)) []):=⟨by
 intro res h0
 refine co (hi:=Jk) func288 rfl rfl ?_
 unfold jj at h0
 obtain⟨r01,g0,h0⟩:=ae h0
 simp(config:=cS)only[go_sem, *]
 have g0:=ctr g0
 refine ai g0 ?_
 obtain⟨q04,l0,h0⟩:=ae h0
 simp(config:=cS)only[go_sem, *]
 refine ag (m1:=.mk) (m2:=.mk) [.nf [1,3,4] [64]] (th r01 s.nodes s.ties s.horizon) l0 ?_ ?_
 ·simp(config:=cS)only[go_sem, *]
 have k0:=h0
 clear h0 l0
 intro _ n_1 _ h0 gb0
 unfold dM at h0
 try dsimp only at h0
 exact run⟩
instance k218 {s:GShow}:Ctr (nP s) (fun (res:Bool)=>aj prog 218 [.agg (GShow.encS s)] [] (.lit (.bool res)) []):=⟨by
 intro res h0
 refine co (hi:=hi00) func218 rfl rfl ?_
 unfold nP at h0
 exact run⟩
instance k115 {s:GShow}:Ctr (kA s) (fun (res:Int)=>aj prog 115 [.agg (GShow.encS s)] [] (.lit (.int .i64 res)) []):=⟨by
 intro res h0
 refine co (hi:=hi00) func115 rfl rfl ?_
 unfold kA at h0
 exact run⟩
instance k114 {class_:Int}:Ctr (nb class_) (fun (res:ByteArray)=>aj prog 114 [.lit (.int .i64 class_)] [] (.lit (.string res)) []):=⟨by
 intro res h0
 refine co (hi:=hi00) func114 rfl rfl ?_
 unfold nb at h0
 obtain⟨_,h0⟩|⟨_,h0⟩:=itP h0
 ·exact run
 obtain⟨_,h0⟩|⟨_,h0⟩:=itP h0
 ·exact run
 obtain⟨x01,a1,a2,a3,h0⟩:=gtI h0
 try simp only[List.length_append,List.length_cons,List.length_nil,Nat.zero_add,Nat.reduceAdd]at a1
 try simp only[List.length_append,List.length_cons,List.length_nil,Nat.zero_add,Nat.reduceAdd]at a2
 try simp only[List.length_append,List.length_cons,List.length_nil,Nat.zero_add,Nat.reduceAdd]at a3
 exact run⟩
@[go_sem] def uD (s_0:List GNode)(s_1:List GTie)(s_2:Int)(v23:List Int):(Int × (List ByteArray))→St
 | (v25,parts)=>⟨[(1,.ptr 64 1 0 0),(3,.ref 255 1 0 parts.length),(23,.ref 1472 1 0 v23.length),(24,.lit (.int .i64 5)),(25,.lit (.int .i64 v25))],[(64,1,.var [.sl (ab GNode.encS s_0),.sl (ab GTie.enc s_1),.lit (.int .i64 s_2)]),(255,1,.row true (ab eS parts)),(1472,1,.row true (ab eI v23))],2⟩
@[go_sem] def hi39_4:DT:=.i1 0 (.i1 1 (.i1 2 (.i2 3 (.i1 6 (.i1 7 (.i1 8 (.i1 9 (.i1 12 (.i2 16 (.i0 4 [0,1,2,6,7,8,9,12] (.i1 5 (.i0 10 [0,1,2,6,7,8,12,5] (.i1 11 (.i0 13 [0,1,2,6,7,8,5,11] (.i2 14 (.i2 15 .nil))))))))))))))))
def hi39:Hint where
 acts:=fun _=>[]
 draws:=fun
  | 4=>⟨hi39_4,[[],[0],[0,1],[],[3],[3,4],[],[6],[6,7],[],[3,4,9],[3,4,9,10],[],[3,4,9,10,12],.range 14,.range 15,[]],.range 17⟩
  | _=>⟨.nil,[],[]⟩
theorem XR (i:Nat):hi39.acts i=[]:=rfl
theorem XS (i:Nat):hi39.views i=none:=rfl
attribute[go_sem] XR XS ntmps39 results39
@[go_sem] theorem aaL:(hi39.draws 4).order=hi39_4:=rfl
@[go_sem] theorem c5n:((5:Nat):Int)=5:=rfl
@[go_sem] theorem aiV {α:Type}(l:List α)(a:α):List.take (l.length+1) (l++[a])=l++[a]:=List.take_of_length_le (by simp)
instance k39 {s:GShow}:Ctr (kU s) (fun (res:ByteArray)=>aj prog 39 [.agg (GShow.encS s)] [] (.lit (.string res)) []):=⟨by
 intro res h0
 refine co (hi:=hi39) func39 rfl rfl ?_
 unfold kU at h0
 obtain⟨r01,g0,h0⟩:=ae h0
 simp(config:=cS)only[go_sem, *]
 have g0:=ctr g0
 refine ai g0 ?_
 obtain⟨_,h0⟩|⟨_,h0⟩:=itB h0
 ·obtain⟨r02,g0,h0⟩:=ae h0
  simp(config:=cS)only[go_sem, *]
  have g0:=ctr g0
  refine ai g0 ?_
  obtain⟨r03,g0,h0⟩:=ae h0
  simp(config:=cS)only[go_sem, *]
  have g0:=ctr g0
  refine ai g0 ?_
  obtain⟨r04,g0,h0⟩:=ae h0
  simp(config:=cS)only[go_sem, *]
  have g0:=ctr g0
  refine ai g0 ?_
  obtain⟨q10,l0,h0⟩:=ae h0
  simp(config:=cS)only[go_sem, *]
  refine ag (m1:=.mk) (m2:=.mk) [.home 3,.nf [1,3,23,24,25] [64,255,1472]] (uD s.nodes s.ties s.horizon ([(s.nodes.length:Int),(r02.length:Int),(s.ties.length:Int),(r03.length:Int),r04])) l0 ?_ ?_
  ·simp(config:=cS)only[go_sem, *]
  have k0:=h0
  clear h0 l0
  intro _ s0 _ h0 gb0
  obtain⟨v25_1,parts_1⟩:=s0
  unfold fa at h0
  try dsimp only at h0
  obtain⟨_,h0⟩|⟨_,h0⟩:=itP h0
  ·obtain⟨x05,a1,a2,a3,h0⟩:=gtI h0
   try simp only[List.length_append,List.length_cons,List.length_nil,Nat.zero_add,Nat.reduceAdd]at a1
   try simp only[List.length_append,List.length_cons,List.length_nil,Nat.zero_add,Nat.reduceAdd]at a2
   try simp only[List.length_append,List.length_cons,List.length_nil,Nat.zero_add,Nat.reduceAdd]at a3
   exact run
  exact run
 exact run⟩
@[go_sem] def xC (a b:List Int)(i:Int):St:=⟨[(0,.sl (ab eI a)),(1,.sl (ab eI b)),(5,.lit (.int .i64 i))],[],2⟩
@[go_sem] def hi74_6:DT:=.r2 0 9 .nil
def hi74:Hint where
 acts:=fun _=>[]
 draws:=fun
  | 6=>⟨hi74_6,[[],[],[0,1],[0,1,2],[],[],[4,5],[4,5,6],.range 8],.range 9⟩
  | _=>⟨.nil,[],[]⟩
theorem XT (i:Nat):hi74.acts i=[]:=rfl
theorem XU (i:Nat):hi74.views i=none:=rfl
attribute[go_sem] XT XU ntmps74 results74
@[go_sem] theorem aaM:(hi74.draws 6).order=hi74_6:=rfl
instance k74 {a:List Int} {b:List Int}:Ctr (nH a b) (fun (res:Bool)=>aj prog 74 [.sl (ab eI a),.sl (ab eI b)] [] (.lit (.bool res)) []):=⟨by
 intro res h0
 refine co (hi:=hi74) func74 rfl rfl ?_
 unfold nH at h0
 obtain⟨_,h0⟩|⟨_,h0⟩:=itP h0
 ·obtain⟨q03,l0,h0⟩:=ae h0
  simp(config:=cS)only[go_sem, *]
  refine ag (m1:=.mk) (m2:=.mk) [.nf [0,1,5] []] (xC a b) l0 ?_ ?_
  ·simp(config:=cS)only[go_sem, *]
  have k0:=h0
  clear h0 l0
  intro _ i_1 _ h0 gb0
  unfold iC at h0
  try dsimp only at h0
  exact run
 exact run⟩
instance k179 {a:GNode} {b:GNode}:Ctr (nI a b) (fun (res:Bool)=>aj prog 179 [.agg (GNode.encS a),.agg (GNode.encS b)] [] (.lit (.bool res)) []):=⟨by
 intro res h0
 refine co (hi:=hi00) func179 rfl rfl ?_
 unfold nI at h0
 exact run⟩
@[go_sem] def wG (a b:List GNode)(i:Int):St:=⟨[(0,.sl (ab GNode.encS a)),(1,.sl (ab GNode.encS b)),(5,.lit (.int .i64 i))],[],2⟩
@[go_sem] def hi72_6:DT:=.r2 0 10 .nil
def hi72:Hint where
 acts:=fun _=>[]
 draws:=fun
  | 6=>⟨hi72_6,[[],[],[0,1],[0,1,2],[],[],[4,5],[4,5,6],.range 8,.range 9],.range 10⟩
  | _=>⟨.nil,[],[]⟩
theorem XV (i:Nat):hi72.acts i=[]:=rfl
theorem XW (i:Nat):hi72.views i=none:=rfl
attribute[go_sem] XV XW ntmps72 results72
@[go_sem] theorem aaN:(hi72.draws 6).order=hi72_6:=rfl
instance k72 {a:List GNode} {b:List GNode}:Ctr (mE a b) (fun (res:Bool)=>aj prog 72 [.sl (ab GNode.encS a),.sl (ab GNode.encS b)] [] (.lit (.bool res)) []):=⟨by
 intro res h0
 refine co (hi:=hi72) func72 rfl rfl ?_
 unfold mE at h0
 obtain⟨_,h0⟩|⟨_,h0⟩:=itP h0
 ·obtain⟨q04,l0,h0⟩:=ae h0
  simp(config:=cS)only[go_sem, *]
  refine ag (m1:=.mk) (m2:=.mk) [.nf [0,1,5] []] (wG a b) l0 ?_ ?_
  ·simp(config:=cS)only[go_sem, *]
  have k0:=h0
  clear h0 l0
  intro _ i_1 _ h0 gb0
  unfold jQ at h0
  try dsimp only at h0
  exact run
 exact run⟩
instance k180 {a:GTie} {b:GTie}:Ctr (qi a b) (fun (res:Bool)=>aj prog 180 [.agg (GTie.enc a),.agg (GTie.enc b)] [] (.lit (.bool res)) []):=⟨by
 intro res h0
 refine co (hi:=hi00) func180 rfl rfl ?_
 unfold qi at h0
 exact run⟩
@[go_sem] def xD (a b:List GTie)(i:Int):St:=⟨[(0,.sl (ab GTie.enc a)),(1,.sl (ab GTie.enc b)),(5,.lit (.int .i64 i))],[],2⟩
@[go_sem] def hi73_6:DT:=.r2 0 10 .nil
def hi73:Hint where
 acts:=fun _=>[]
 draws:=fun
  | 6=>⟨hi73_6,[[],[],[0,1],[0,1,2],[],[],[4,5],[4,5,6],.range 8,.range 9],.range 10⟩
  | _=>⟨.nil,[],[]⟩
theorem XX (i:Nat):hi73.acts i=[]:=rfl
theorem XY (i:Nat):hi73.views i=none:=rfl
attribute[go_sem] XX XY ntmps73 results73
@[go_sem] theorem aaO:(hi73.draws 6).order=hi73_6:=rfl
instance k73 {a:List GTie} {b:List GTie}:Ctr (nJ a b) (fun (res:Bool)=>aj prog 73 [.sl (ab GTie.enc a),.sl (ab GTie.enc b)] [] (.lit (.bool res)) []):=⟨by
 intro res h0
 refine co (hi:=hi73) func73 rfl rfl ?_
 unfold nJ at h0
 obtain⟨_,h0⟩|⟨_,h0⟩:=itP h0
 ·obtain⟨q04,l0,h0⟩:=ae h0
  simp(config:=cS)only[go_sem, *]
  refine ag (m1:=.mk) (m2:=.mk) [.nf [0,1,5] []] (xD a b) l0 ?_ ?_
  ·simp(config:=cS)only[go_sem, *]
  have k0:=h0
  clear h0 l0
  intro _ i_1 _ h0 gb0
  unfold kO at h0
  try dsimp only at h0
  exact run
 exact run⟩
instance k16 {a:GShow} {b:GShow}:Ctr (nK a b) (fun (res:Bool)=>aj prog 16 [.agg (GShow.encS a),.agg (GShow.encS b)] [] (.lit (.bool res)) []):=⟨by
 intro res h0
 refine co (hi:=hi00) func16 rfl rfl ?_
 unfold nK at h0
 exact run⟩
@[go_sem] def hi7_10:DT:=.i1 0 (.i2 1 (.i0 2 [0] (.i2 3 (.i2 4 .nil))))
def hi7:Hint where
 acts:=fun _=>[]
 draws:=fun
  | 10=>⟨hi7_10,[[],[],[1],[0,1,2],[0,1,2,3]],.range 5⟩
  | _=>⟨.nil,[],[]⟩
theorem hi7a (i:Nat):hi7.acts i=[]:=rfl
theorem hi7v (i:Nat):hi7.views i=none:=rfl
attribute[go_sem] hi7a hi7v ntmps7 results7
@[go_sem] theorem aaP:(hi7.draws 10).order=hi7_10:=rfl
theorem tP {aS:GShow}{res:Bool}(h0:gZ aS=some res):aj prog 7 [.agg (GShow.encS aS)] [] (.lit (.bool res)) []:=by
 refine co (hi:=hi7) func7 rfl rfl ?_
 unfold gZ at h0
 exact run
end Go.Proofs.Qh
