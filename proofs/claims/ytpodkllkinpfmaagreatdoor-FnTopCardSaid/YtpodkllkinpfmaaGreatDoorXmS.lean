/- The things of the program. -/
import Derived.Test.YtpodkllkinpfmaaGreatDoorXmT
import Derived.Test.YtpodkllkinpfmaaGreatDoorXm33
set_option linter.all false
set_option maxRecDepth 100000
set_option maxHeartbeats 400000
namespace Go.Proofs.Qm
open Go
structure GCue where
 name:ByteArray
 after:Int
 atEnd:Bool
 low:Int
 high:Int
 min_:Int
 max_:Int
 free:Bool
 if_:Int
 watch:Int
 device:Int
 deriving DecidableEq
def GCue.enc (x:GCue):List AV:=[.lit (.string x.name),.lit (.int .i64 x.after),.lit (.bool x.atEnd),.lit (.int .i64 x.low),.lit (.int .i64 x.high),.lit (.int .i64 x.min_),.lit (.int .i64 x.max_),.lit (.bool x.free),.lit (.int .i64 x.if_),.lit (.int .i64 x.watch),.lit (.int .i64 x.device)]
theorem Ma (xs:List GCue)(i:Nat)(a0:ByteArray)(a1:Int)(a2:Bool)(a3 a4 a5 a6:Int)(a7:Bool)(a8 a9 a10:Int):(ab GCue.enc xs).set i [.lit (.string a0),.lit (.int .i64 a1),.lit (.bool a2),.lit (.int .i64 a3),.lit (.int .i64 a4),.lit (.int .i64 a5),.lit (.int .i64 a6),.lit (.bool a7),.lit (.int .i64 a8),.lit (.int .i64 a9),.lit (.int .i64 a10)]=ab GCue.enc (xs.set i (GCue.mk a0 a1 a2 a3 a4 a5 a6 a7 a8 a9 a10)):=aR (e:=GCue.enc) xs i (GCue.mk a0 a1 a2 a3 a4 a5 a6 a7 a8 a9 a10)
theorem Mb (xs:List GCue):(ab GCue.enc xs).all (fun r=>r.length == 11)=true:=aV (e:=GCue.enc) (fun _=>rfl) xs
theorem Me (a0:ByteArray)(a1:Int)(a2:Bool)(a3 a4 a5 a6:Int)(a7:Bool)(a8 a9 a10:Int):[[.lit (.string a0),.lit (.int .i64 a1),.lit (.bool a2),.lit (.int .i64 a3),.lit (.int .i64 a4),.lit (.int .i64 a5),.lit (.int .i64 a6),.lit (.bool a7),.lit (.int .i64 a8),.lit (.int .i64 a9),.lit (.int .i64 a10)]]=ab GCue.enc [(GCue.mk a0 a1 a2 a3 a4 a5 a6 a7 a8 a9 a10)]:=rfl
theorem Mf (xs:List GCue):frsR (ab GCue.enc xs)=true:=bS (e:=GCue.enc) (fun x=>by simp only[go_sem,GCue.enc]) xs
theorem IU (xs:List GCue):bO (ab GCue.enc xs)=ab GCue.enc xs:=bz (e:=GCue.enc) (fun x=>by simp only[go_sem,eP,toSl,GCue.enc]) xs
attribute[go_sem] GCue.enc Ma Mb Me Mf IU
structure GSheet where
 cues:List GCue
 prep:List Int
 horizon:Int
 deriving DecidableEq
@[go_sem] def GSheet.encS (x:GSheet):List AV:=[.sl (ab GCue.enc x.cues),.sl (ab eI x.prep),.lit (.int .i64 x.horizon)]
@[go_sem] def GSheet.encO (x:GSheet):List AV:=[.own (ab GCue.enc x.cues),.own (ab eI x.prep),.lit (.int .i64 x.horizon)]
structure GL01Cur where
 b:List Int
 i:Int
 h:Int
 deriving DecidableEq
@[go_sem] def GL01Cur.encS (x:GL01Cur):List AV:=[.sl (ab (eK .u8) x.b),.lit (.int .i64 x.i),.lit (.int .i64 x.h)]
@[go_sem] def GL01Cur.encO (x:GL01Cur):List AV:=[.own (ab (eK .u8) x.b),.lit (.int .i64 x.i),.lit (.int .i64 x.h)]
structure GNode where
 name:ByteArray
 label:List Int
 watch:Int
 deriving DecidableEq
def GNode.encS (x:GNode):List AV:=[.lit (.string x.name),.sl (ab eI x.label),.lit (.int .i64 x.watch)]
theorem Hg (xs:List GNode):(ab GNode.encS xs).all (fun r=>r.length == 3)=true:=aV (e:=GNode.encS) (fun _=>rfl) xs
attribute[go_sem] GNode.encS Hg
def GNode.encO (x:GNode):List AV:=[.lit (.string x.name),.own (ab eI x.label),.lit (.int .i64 x.watch)]
theorem Hk (xs:List GNode):(ab GNode.encO xs).all (fun r=>r.length == 3)=true:=aV (e:=GNode.encO) (fun _=>rfl) xs
theorem Hl (a0:ByteArray)(a1:List Int)(a2:Int):[[.lit (.string a0),.own (ab eI a1),.lit (.int .i64 a2)]]=ab GNode.encO [(GNode.mk a0 a1 a2)]:=rfl
theorem Hm (xs:List GNode):frsR (ab GNode.encO xs)=true:=bS (e:=GNode.encO) (fun x=>by simp only[go_sem,GNode.encO]) xs
theorem FB (xs:List GNode):bO (ab GNode.encO xs)=ab GNode.encS xs:=bz (e:=GNode.encO) (fun x=>by simp only[go_sem,eP,toSl,GNode.encO,GNode.encS]) xs
theorem CU (a0:ByteArray)(a2:Int):[[.lit (.string a0),.own [],.lit (.int .i64 a2)]]=ab GNode.encO [(GNode.mk a0 [] a2)]:=rfl
attribute[go_sem] GNode.encO Hk Hl Hm FB CU
structure GTie where
 from_:Int
 to:Int
 low:Int
 high:Int
 free:Bool
 deriving DecidableEq
def GTie.enc (x:GTie):List AV:=[.lit (.int .i64 x.from_),.lit (.int .i64 x.to),.lit (.int .i64 x.low),.lit (.int .i64 x.high),.lit (.bool x.free)]
theorem Mi (xs:List GTie):(ab GTie.enc xs).all (fun r=>r.length == 5)=true:=aV (e:=GTie.enc) (fun _=>rfl) xs
theorem Mj (a0 a1 a2 a3:Int)(a4:Bool):[[.lit (.int .i64 a0),.lit (.int .i64 a1),.lit (.int .i64 a2),.lit (.int .i64 a3),.lit (.bool a4)]]=ab GTie.enc [(GTie.mk a0 a1 a2 a3 a4)]:=rfl
theorem Ml (xs:List GTie):frsR (ab GTie.enc xs)=true:=bS (e:=GTie.enc) (fun x=>by simp only[go_sem,GTie.enc]) xs
theorem IX (xs:List GTie):bO (ab GTie.enc xs)=ab GTie.enc xs:=bz (e:=GTie.enc) (fun x=>by simp only[go_sem,eP,toSl,GTie.enc]) xs
attribute[go_sem] GTie.enc Mi Mj Ml IX
structure GShow where
 nodes:List GNode
 ties:List GTie
 horizon:Int
 deriving DecidableEq
@[go_sem] def GShow.encS (x:GShow):List AV:=[.sl (ab GNode.encS x.nodes),.sl (ab GTie.enc x.ties),.lit (.int .i64 x.horizon)]
@[go_sem] def GShow.encO (x:GShow):List AV:=[.own (ab GNode.encO x.nodes),.own (ab GTie.enc x.ties),.lit (.int .i64 x.horizon)]
structure az where
 low:Int
 high:Int
 deriving DecidableEq
@[go_sem] def az.enc (x:az):List AV:=[.lit (.int .i64 x.low),.lit (.int .i64 x.high)]
structure GLink where
 from_:Int
 to:Int
 span:az
 deriving DecidableEq
def GLink.enc (x:GLink):List AV:=[.lit (.int .i64 x.from_),.lit (.int .i64 x.to),.lit (.int .i64 x.span.low),.lit (.int .i64 x.span.high)]
theorem IZ (xs:List GLink):(ab GLink.enc xs).all (fun r=>r.length == 4)=true:=aV (e:=GLink.enc) (fun _=>rfl) xs
theorem Ja (a0 a1 a2 a3:Int):[[.lit (.int .i64 a0),.lit (.int .i64 a1),.lit (.int .i64 a2),.lit (.int .i64 a3)]]=ab GLink.enc [(GLink.mk a0 a1 (az.mk a2 a3))]:=rfl
theorem Jb (xs:List GLink):frsR (ab GLink.enc xs)=true:=bS (e:=GLink.enc) (fun x=>by simp only[go_sem,GLink.enc]) xs
theorem Hz (xs:List GLink):bO (ab GLink.enc xs)=ab GLink.enc xs:=bz (e:=GLink.enc) (fun x=>by simp only[go_sem,eP,toSl,GLink.enc]) xs
attribute[go_sem] GLink.enc IZ Ja Jb Hz
structure GSimple where
 events:Int
 links:List GLink
 deriving DecidableEq
@[go_sem] def GSimple.encS (x:GSimple):List AV:=[.lit (.int .i64 x.events),.sl (ab GLink.enc x.links)]
@[go_sem] def GSimple.encO (x:GSimple):List AV:=[.lit (.int .i64 x.events),.own (ab GLink.enc x.links)]
structure GEdge where
 from_:Int
 to:Int
 weight:Int
 deriving DecidableEq
def GEdge.enc (x:GEdge):List AV:=[.lit (.int .i64 x.from_),.lit (.int .i64 x.to),.lit (.int .i64 x.weight)]
theorem Je (xs:List GEdge):(ab GEdge.enc xs).all (fun r=>r.length == 3)=true:=aV (e:=GEdge.enc) (fun _=>rfl) xs
theorem Jf (a0 a1 a2:Int):[[.lit (.int .i64 a0),.lit (.int .i64 a1),.lit (.int .i64 a2)]]=ab GEdge.enc [(GEdge.mk a0 a1 a2)]:=rfl
theorem Jg (xs:List GEdge):frsR (ab GEdge.enc xs)=true:=bS (e:=GEdge.enc) (fun x=>by simp only[go_sem,GEdge.enc]) xs
theorem HC (xs:List GEdge):bO (ab GEdge.enc xs)=ab GEdge.enc xs:=bz (e:=GEdge.enc) (fun x=>by simp only[go_sem,eP,toSl,GEdge.enc]) xs
attribute[go_sem] GEdge.enc Je Jf Jg HC
structure GGraph where
 nodes:Int
 edges:List GEdge
 deriving DecidableEq
@[go_sem] def GGraph.encS (x:GGraph):List AV:=[.lit (.int .i64 x.nodes),.sl (ab GEdge.enc x.edges)]
@[go_sem] def GGraph.encO (x:GGraph):List AV:=[.lit (.int .i64 x.nodes),.own (ab GEdge.enc x.edges)]
structure aA where
 size:Int
 cells:List Int
 deriving DecidableEq
@[go_sem] def aA.encS (x:aA):List AV:=[.lit (.int .i64 x.size),.sl (ab eI x.cells)]
@[go_sem] def aA.encO (x:aA):List AV:=[.lit (.int .i64 x.size),.own (ab eI x.cells)]
structure GState where
 now:Int
 times:List Int
 values:List Int
 deriving DecidableEq
@[go_sem] def GState.encS (x:GState):List AV:=[.lit (.int .i64 x.now),.sl (ab eI x.times),.sl (ab eI x.values)]
@[go_sem] def GState.encO (x:GState):List AV:=[.lit (.int .i64 x.now),.own (ab eI x.times),.own (ab eI x.values)]
structure GChoice where
 lengths:List Int
 values:List Int
 deriving DecidableEq
@[go_sem] def GChoice.encS (x:GChoice):List AV:=[.sl (ab eI x.lengths),.sl (ab eI x.values)]
@[go_sem] def GChoice.encO (x:GChoice):List AV:=[.own (ab eI x.lengths),.own (ab eI x.values)]
structure an where
 now:Int
 ties:List Int
 nodes:List Int
 values:List Int
 deriving DecidableEq
@[go_sem] def an.encS (x:an):List AV:=[.lit (.int .i64 x.now),.sl (ab eI x.ties),.sl (ab eI x.nodes),.sl (ab eI x.values)]
def an.encO (x:an):List AV:=[.lit (.int .i64 x.now),.own (ab eI x.ties),.own (ab eI x.nodes),.own (ab eI x.values)]
theorem Gj (xs:List an):(ab an.encO xs).all (fun r=>r.length == 4)=true:=aV (e:=an.encO) (fun _=>rfl) xs
theorem Gk (a0:Int)(a1 a2 a3:List Int):[[.lit (.int .i64 a0),.own (ab eI a1),.own (ab eI a2),.own (ab eI a3)]]=ab an.encO [(an.mk a0 a1 a2 a3)]:=rfl
theorem Gm (xs:List an):frsR (ab an.encO xs)=true:=bS (e:=an.encO) (fun x=>by simp only[go_sem,an.encO]) xs
theorem DL (xs:List an):bO (ab an.encO xs)=ab an.encS xs:=bz (e:=an.encO) (fun x=>by simp only[go_sem,eP,toSl,an.encO,an.encS]) xs
attribute[go_sem] an.encO Gj Gk Gm DL
structure GDesk where
 show_:GShow
 state:GState
 lazy:Bool
 log:List an
 deriving DecidableEq
@[go_sem] def GDesk.encS (x:GDesk):List AV:=[.sl (ab GNode.encS x.show_.nodes),.sl (ab GTie.enc x.show_.ties),.lit (.int .i64 x.show_.horizon),.lit (.int .i64 x.state.now),.sl (ab eI x.state.times),.sl (ab eI x.state.values),.lit (.bool x.lazy),.sl (ab an.encS x.log)]
@[go_sem] def GDesk.encO (x:GDesk):List AV:=[.own (ab GNode.encO x.show_.nodes),.own (ab GTie.enc x.show_.ties),.lit (.int .i64 x.show_.horizon),.lit (.int .i64 x.state.now),.own (ab eI x.state.times),.own (ab eI x.state.values),.lit (.bool x.lazy),.own (ab an.encO x.log)]
def spf (f:Nat):Bool:=[206,281].contains f
@[go_sem] theorem adI:spf 281=true:=rfl
def mdT:Nat→List AV→Md:=fun n a=>match n with
 | 80=>⟨[],true⟩
 | 84=>⟨[],true⟩
 | 85=>⟨[0],true⟩
 | 117=>⟨[0],true⟩
 | 127=>⟨[],true⟩
 | 130=>⟨[0],true⟩
 | 131=>⟨[],true⟩
 | 133=>⟨[0],true⟩
 | 135=>⟨[0],true⟩
 | 136=>⟨[],true⟩
 | 139=>⟨[0],true⟩
 | 141=>⟨[0],false⟩
 | 182=>⟨[0],true⟩
 | 206=>⟨[0],true⟩
 | 207=>⟨[0],true⟩
 | 208=>⟨[],true⟩
 | 209=>⟨[0],true⟩
 | 219=>⟨[0],true⟩
 | 230=>⟨[0],false⟩
 | 232=>⟨[0],true⟩
 | 246=>⟨[1,2,3],false⟩
 | 252=>⟨[5,6],false⟩
 | 279=>⟨[0],true⟩
 | 280=>⟨[0,1],true⟩
 | 281=>⟨[1,2],true⟩
 | 282=>⟨[0],false⟩
 | 289=>⟨[1000],false⟩
 | 290=>⟨[0],false⟩
 | 316=>bif spf (fnId a) then ⟨[0,1],true⟩ else ⟨[],false⟩
 | 320=>⟨[0],false⟩
 | _=>⟨[],false⟩
@[go_sem] theorem md23 (a:List AV):mdT 23 a=⟨[],false⟩:=rfl
@[go_sem] theorem md25 (a:List AV):mdT 25 a=⟨[],false⟩:=rfl
@[go_sem] theorem md28 (a:List AV):mdT 28 a=⟨[],false⟩:=rfl
@[go_sem] theorem md29 (a:List AV):mdT 29 a=⟨[],false⟩:=rfl
@[go_sem] theorem md31 (a:List AV):mdT 31 a=⟨[],false⟩:=rfl
@[go_sem] theorem md32 (a:List AV):mdT 32 a=⟨[],false⟩:=rfl
@[go_sem] theorem md33 (a:List AV):mdT 33 a=⟨[],false⟩:=rfl
@[go_sem] theorem md37 (a:List AV):mdT 37 a=⟨[],false⟩:=rfl
@[go_sem] theorem md42 (a:List AV):mdT 42 a=⟨[],false⟩:=rfl
@[go_sem] theorem md43 (a:List AV):mdT 43 a=⟨[],false⟩:=rfl
@[go_sem] theorem md44 (a:List AV):mdT 44 a=⟨[],false⟩:=rfl
@[go_sem] theorem md45 (a:List AV):mdT 45 a=⟨[],false⟩:=rfl
@[go_sem] theorem md46 (a:List AV):mdT 46 a=⟨[],false⟩:=rfl
@[go_sem] theorem md47 (a:List AV):mdT 47 a=⟨[],false⟩:=rfl
@[go_sem] theorem md48 (a:List AV):mdT 48 a=⟨[],false⟩:=rfl
@[go_sem] theorem md49 (a:List AV):mdT 49 a=⟨[],false⟩:=rfl
@[go_sem] theorem md50 (a:List AV):mdT 50 a=⟨[],false⟩:=rfl
@[go_sem] theorem md51 (a:List AV):mdT 51 a=⟨[],false⟩:=rfl
@[go_sem] theorem md68 (a:List AV):mdT 68 a=⟨[],false⟩:=rfl
@[go_sem] theorem md69 (a:List AV):mdT 69 a=⟨[],false⟩:=rfl
@[go_sem] theorem md70 (a:List AV):mdT 70 a=⟨[],false⟩:=rfl
@[go_sem] theorem md80 (a:List AV):mdT 80 a=⟨[],true⟩:=rfl
@[go_sem] theorem md81 (a:List AV):mdT 81 a=⟨[],false⟩:=rfl
@[go_sem] theorem md82 (a:List AV):mdT 82 a=⟨[],false⟩:=rfl
@[go_sem] theorem md83 (a:List AV):mdT 83 a=⟨[],false⟩:=rfl
@[go_sem] theorem md84 (a:List AV):mdT 84 a=⟨[],true⟩:=rfl
@[go_sem] theorem md85 (a:List AV):mdT 85 a=⟨[0],true⟩:=rfl
@[go_sem] theorem md86 (a:List AV):mdT 86 a=⟨[],false⟩:=rfl
@[go_sem] theorem md87 (a:List AV):mdT 87 a=⟨[],false⟩:=rfl
@[go_sem] theorem md88 (a:List AV):mdT 88 a=⟨[],false⟩:=rfl
@[go_sem] theorem md89 (a:List AV):mdT 89 a=⟨[],false⟩:=rfl
@[go_sem] theorem md90 (a:List AV):mdT 90 a=⟨[],false⟩:=rfl
@[go_sem] theorem md91 (a:List AV):mdT 91 a=⟨[],false⟩:=rfl
@[go_sem] theorem md92 (a:List AV):mdT 92 a=⟨[],false⟩:=rfl
@[go_sem] theorem md93 (a:List AV):mdT 93 a=⟨[],false⟩:=rfl
@[go_sem] theorem md94 (a:List AV):mdT 94 a=⟨[],false⟩:=rfl
@[go_sem] theorem md95 (a:List AV):mdT 95 a=⟨[],false⟩:=rfl
@[go_sem] theorem md97 (a:List AV):mdT 97 a=⟨[],false⟩:=rfl
@[go_sem] theorem md98 (a:List AV):mdT 98 a=⟨[],false⟩:=rfl
@[go_sem] theorem md99 (a:List AV):mdT 99 a=⟨[],false⟩:=rfl
@[go_sem] theorem adV (a:List AV):mdT 100 a=⟨[],false⟩:=rfl
@[go_sem] theorem adW (a:List AV):mdT 101 a=⟨[],false⟩:=rfl
@[go_sem] theorem adX (a:List AV):mdT 102 a=⟨[],false⟩:=rfl
@[go_sem] theorem adY (a:List AV):mdT 103 a=⟨[],false⟩:=rfl
@[go_sem] theorem adZ (a:List AV):mdT 104 a=⟨[],false⟩:=rfl
@[go_sem] theorem aea (a:List AV):mdT 105 a=⟨[],false⟩:=rfl
@[go_sem] theorem aeb (a:List AV):mdT 106 a=⟨[],false⟩:=rfl
@[go_sem] theorem aec (a:List AV):mdT 107 a=⟨[],false⟩:=rfl
@[go_sem] theorem aed (a:List AV):mdT 108 a=⟨[],false⟩:=rfl
@[go_sem] theorem aee (a:List AV):mdT 109 a=⟨[],false⟩:=rfl
@[go_sem] theorem aef (a:List AV):mdT 110 a=⟨[],false⟩:=rfl
@[go_sem] theorem aeg (a:List AV):mdT 111 a=⟨[],false⟩:=rfl
@[go_sem] theorem aeh (a:List AV):mdT 112 a=⟨[],false⟩:=rfl
@[go_sem] theorem aei (a:List AV):mdT 113 a=⟨[],false⟩:=rfl
@[go_sem] theorem aej (a:List AV):mdT 115 a=⟨[],false⟩:=rfl
@[go_sem] theorem aek (a:List AV):mdT 117 a=⟨[0],true⟩:=rfl
@[go_sem] theorem ael (a:List AV):mdT 118 a=⟨[],false⟩:=rfl
@[go_sem] theorem aem (a:List AV):mdT 119 a=⟨[],false⟩:=rfl
@[go_sem] theorem aen (a:List AV):mdT 120 a=⟨[],false⟩:=rfl
@[go_sem] theorem aeo (a:List AV):mdT 121 a=⟨[],false⟩:=rfl
@[go_sem] theorem aep (a:List AV):mdT 122 a=⟨[],false⟩:=rfl
@[go_sem] theorem aeq (a:List AV):mdT 123 a=⟨[],false⟩:=rfl
@[go_sem] theorem aer (a:List AV):mdT 124 a=⟨[],false⟩:=rfl
@[go_sem] theorem aet (a:List AV):mdT 126 a=⟨[],false⟩:=rfl
@[go_sem] theorem aeu (a:List AV):mdT 127 a=⟨[],true⟩:=rfl
@[go_sem] theorem aev (a:List AV):mdT 128 a=⟨[],false⟩:=rfl
@[go_sem] theorem aew (a:List AV):mdT 129 a=⟨[],false⟩:=rfl
@[go_sem] theorem aex (a:List AV):mdT 130 a=⟨[0],true⟩:=rfl
@[go_sem] theorem aey (a:List AV):mdT 131 a=⟨[],true⟩:=rfl
@[go_sem] theorem aez (a:List AV):mdT 132 a=⟨[],false⟩:=rfl
@[go_sem] theorem aeA (a:List AV):mdT 133 a=⟨[0],true⟩:=rfl
@[go_sem] theorem aeB (a:List AV):mdT 134 a=⟨[],false⟩:=rfl
@[go_sem] theorem aeC (a:List AV):mdT 135 a=⟨[0],true⟩:=rfl
@[go_sem] theorem aeD (a:List AV):mdT 136 a=⟨[],true⟩:=rfl
@[go_sem] theorem aeE (a:List AV):mdT 137 a=⟨[],false⟩:=rfl
@[go_sem] theorem aeF (a:List AV):mdT 138 a=⟨[],false⟩:=rfl
@[go_sem] theorem aeG (a:List AV):mdT 139 a=⟨[0],true⟩:=rfl
@[go_sem] theorem aeH (a:List AV):mdT 140 a=⟨[],false⟩:=rfl
@[go_sem] theorem aeI (a:List AV):mdT 141 a=⟨[0],false⟩:=rfl
@[go_sem] theorem aeJ (a:List AV):mdT 142 a=⟨[],false⟩:=rfl
@[go_sem] theorem aeL (a:List AV):mdT 144 a=⟨[],false⟩:=rfl
@[go_sem] theorem aeP (a:List AV):mdT 159 a=⟨[],false⟩:=rfl
@[go_sem] theorem aeQ (a:List AV):mdT 160 a=⟨[],false⟩:=rfl
@[go_sem] theorem aeU (a:List AV):mdT 164 a=⟨[],false⟩:=rfl
@[go_sem] theorem aeW (a:List AV):mdT 171 a=⟨[],false⟩:=rfl
@[go_sem] theorem aeX (a:List AV):mdT 172 a=⟨[],false⟩:=rfl
@[go_sem] theorem aeY (a:List AV):mdT 173 a=⟨[],false⟩:=rfl
@[go_sem] theorem aeZ (a:List AV):mdT 174 a=⟨[],false⟩:=rfl
@[go_sem] theorem afa (a:List AV):mdT 175 a=⟨[],false⟩:=rfl
@[go_sem] theorem afb (a:List AV):mdT 176 a=⟨[],false⟩:=rfl
@[go_sem] theorem afc (a:List AV):mdT 177 a=⟨[],false⟩:=rfl
@[go_sem] theorem afd (a:List AV):mdT 181 a=⟨[],false⟩:=rfl
@[go_sem] theorem afe (a:List AV):mdT 182 a=⟨[0],true⟩:=rfl
@[go_sem] theorem aff (a:List AV):mdT 184 a=⟨[],false⟩:=rfl
@[go_sem] theorem afg (a:List AV):mdT 185 a=⟨[],false⟩:=rfl
@[go_sem] theorem afi (a:List AV):mdT 187 a=⟨[],false⟩:=rfl
@[go_sem] theorem afk (a:List AV):mdT 189 a=⟨[],false⟩:=rfl
@[go_sem] theorem afl (a:List AV):mdT 190 a=⟨[],false⟩:=rfl
@[go_sem] theorem afn (a:List AV):mdT 192 a=⟨[],false⟩:=rfl
@[go_sem] theorem afo (a:List AV):mdT 193 a=⟨[],false⟩:=rfl
@[go_sem] theorem afq (a:List AV):mdT 195 a=⟨[],false⟩:=rfl
@[go_sem] theorem afr (a:List AV):mdT 196 a=⟨[],false⟩:=rfl
@[go_sem] theorem afs (a:List AV):mdT 197 a=⟨[],false⟩:=rfl
@[go_sem] theorem aft (a:List AV):mdT 199 a=⟨[],false⟩:=rfl
@[go_sem] theorem afu (a:List AV):mdT 200 a=⟨[],false⟩:=rfl
@[go_sem] theorem afv (a:List AV):mdT 201 a=⟨[],false⟩:=rfl
@[go_sem] theorem afw (a:List AV):mdT 202 a=⟨[],false⟩:=rfl
@[go_sem] theorem afx (a:List AV):mdT 203 a=⟨[],false⟩:=rfl
@[go_sem] theorem afy (a:List AV):mdT 204 a=⟨[],false⟩:=rfl
@[go_sem] theorem afz (a:List AV):mdT 205 a=⟨[],false⟩:=rfl
@[go_sem] theorem afA (a:List AV):mdT 206 a=⟨[0],true⟩:=rfl
@[go_sem] theorem afB (a:List AV):mdT 207 a=⟨[0],true⟩:=rfl
@[go_sem] theorem afC (a:List AV):mdT 208 a=⟨[],true⟩:=rfl
@[go_sem] theorem afD (a:List AV):mdT 209 a=⟨[0],true⟩:=rfl
@[go_sem] theorem afE (a:List AV):mdT 210 a=⟨[],false⟩:=rfl
@[go_sem] theorem afF (a:List AV):mdT 211 a=⟨[],false⟩:=rfl
@[go_sem] theorem afG (a:List AV):mdT 212 a=⟨[],false⟩:=rfl
@[go_sem] theorem afH (a:List AV):mdT 213 a=⟨[],false⟩:=rfl
@[go_sem] theorem afI (a:List AV):mdT 214 a=⟨[],false⟩:=rfl
@[go_sem] theorem afJ (a:List AV):mdT 215 a=⟨[],false⟩:=rfl
@[go_sem] theorem afK (a:List AV):mdT 216 a=⟨[],false⟩:=rfl
@[go_sem] theorem afL (a:List AV):mdT 217 a=⟨[],false⟩:=rfl
@[go_sem] theorem afM (a:List AV):mdT 218 a=⟨[],false⟩:=rfl
@[go_sem] theorem afN (a:List AV):mdT 219 a=⟨[0],true⟩:=rfl
@[go_sem] theorem afO (a:List AV):mdT 220 a=⟨[],false⟩:=rfl
@[go_sem] theorem afP (a:List AV):mdT 221 a=⟨[],false⟩:=rfl
@[go_sem] theorem afR (a:List AV):mdT 223 a=⟨[],false⟩:=rfl
@[go_sem] theorem afS (a:List AV):mdT 224 a=⟨[],false⟩:=rfl
@[go_sem] theorem afU (a:List AV):mdT 226 a=⟨[],false⟩:=rfl
@[go_sem] theorem afV (a:List AV):mdT 227 a=⟨[],false⟩:=rfl
@[go_sem] theorem afW (a:List AV):mdT 228 a=⟨[],false⟩:=rfl
@[go_sem] theorem afX (a:List AV):mdT 229 a=⟨[],false⟩:=rfl
@[go_sem] theorem afY (a:List AV):mdT 230 a=⟨[0],false⟩:=rfl
@[go_sem] theorem afZ (a:List AV):mdT 231 a=⟨[],false⟩:=rfl
@[go_sem] theorem aga (a:List AV):mdT 232 a=⟨[0],true⟩:=rfl
@[go_sem] theorem agc (a:List AV):mdT 234 a=⟨[],false⟩:=rfl
@[go_sem] theorem agd (a:List AV):mdT 235 a=⟨[],false⟩:=rfl
@[go_sem] theorem age (a:List AV):mdT 236 a=⟨[],false⟩:=rfl
@[go_sem] theorem agk (a:List AV):mdT 252 a=⟨[5,6],false⟩:=rfl
@[go_sem] theorem agl (a:List AV):mdT 253 a=⟨[],false⟩:=rfl
@[go_sem] theorem agm (a:List AV):mdT 254 a=⟨[],false⟩:=rfl
@[go_sem] theorem ago (a:List AV):mdT 256 a=⟨[],false⟩:=rfl
@[go_sem] theorem agp (a:List AV):mdT 257 a=⟨[],false⟩:=rfl
@[go_sem] theorem agq (a:List AV):mdT 258 a=⟨[],false⟩:=rfl
@[go_sem] theorem agr (a:List AV):mdT 259 a=⟨[],false⟩:=rfl
@[go_sem] theorem ags (a:List AV):mdT 260 a=⟨[],false⟩:=rfl
@[go_sem] theorem agt (a:List AV):mdT 261 a=⟨[],false⟩:=rfl
@[go_sem] theorem agu (a:List AV):mdT 262 a=⟨[],false⟩:=rfl
@[go_sem] theorem agv (a:List AV):mdT 263 a=⟨[],false⟩:=rfl
@[go_sem] theorem agw (a:List AV):mdT 264 a=⟨[],false⟩:=rfl
@[go_sem] theorem agx (a:List AV):mdT 265 a=⟨[],false⟩:=rfl
@[go_sem] theorem agy (a:List AV):mdT 266 a=⟨[],false⟩:=rfl
@[go_sem] theorem agz (a:List AV):mdT 267 a=⟨[],false⟩:=rfl
@[go_sem] theorem agA (a:List AV):mdT 268 a=⟨[],false⟩:=rfl
@[go_sem] theorem agD (a:List AV):mdT 270 a=⟨[],false⟩:=rfl
@[go_sem] theorem agF (a:List AV):mdT 272 a=⟨[],false⟩:=rfl
@[go_sem] theorem agH (a:List AV):mdT 274 a=⟨[],false⟩:=rfl
@[go_sem] theorem agI (a:List AV):mdT 275 a=⟨[],false⟩:=rfl
@[go_sem] theorem agK (a:List AV):mdT 277 a=⟨[],false⟩:=rfl
@[go_sem] theorem agL (a:List AV):mdT 278 a=⟨[],false⟩:=rfl
@[go_sem] theorem agM (a:List AV):mdT 279 a=⟨[0],true⟩:=rfl
@[go_sem] theorem agN (a:List AV):mdT 280 a=⟨[0,1],true⟩:=rfl
@[go_sem] theorem agO (a:List AV):mdT 281 a=⟨[1,2],true⟩:=rfl
@[go_sem] theorem agP (a:List AV):mdT 282 a=⟨[0],false⟩:=rfl
@[go_sem] theorem agQ (a:List AV):mdT 287 a=⟨[],false⟩:=rfl
@[go_sem] theorem agR (a:List AV):mdT 288 a=⟨[],false⟩:=rfl
@[go_sem] theorem agT (a:List AV):mdT 289 a=⟨[1000],false⟩:=rfl
@[go_sem] theorem agU (a:List AV):mdT 290 a=⟨[0],false⟩:=rfl
@[go_sem] theorem agV (a:List AV):mdT 291 a=⟨[],false⟩:=rfl
@[go_sem] theorem agX (a:List AV):mdT 293 a=⟨[],false⟩:=rfl
@[go_sem] theorem agY (a:List AV):mdT 294 a=⟨[],false⟩:=rfl
@[go_sem] theorem agZ (a:List AV):mdT 295 a=⟨[],false⟩:=rfl
@[go_sem] theorem aha (a:List AV):mdT 296 a=⟨[],false⟩:=rfl
@[go_sem] theorem ahb (a:List AV):mdT 297 a=⟨[],false⟩:=rfl
@[go_sem] theorem ahc (a:List AV):mdT 298 a=⟨[],false⟩:=rfl
@[go_sem] theorem ahf (a:List AV):mdT 309 a=⟨[],false⟩:=rfl
@[go_sem] theorem ahi (a:List AV):mdT 313 a=⟨[],false⟩:=rfl
@[go_sem] theorem ahj (a:List AV):mdT 314 a=⟨[],false⟩:=rfl
@[go_sem] theorem ahl (a:List AV):mdT 316 a=bif spf (fnId a) then ⟨[0,1],true⟩ else ⟨[],false⟩:=rfl
@[go_sem] theorem ahm (a:List AV):mdT 320 a=⟨[0],false⟩:=rfl
@[go_sem] theorem ahn (a:List AV):mdT 326 a=⟨[],false⟩:=rfl
@[go_sem] theorem aho (a:List AV):mdT 330 a=⟨[],false⟩:=rfl
@[go_sem] theorem ahp (a:List AV):mdT 331 a=⟨[],false⟩:=rfl
@[go_sem] theorem ahq (a:List AV):mdT 332 a=⟨[],false⟩:=rfl
@[go_sem] theorem aht (a:List AV):mdT 344 a=⟨[],false⟩:=rfl
@[go_sem] theorem ahu (a:List AV):mdT 356 a=⟨[],false⟩:=rfl
end Go.Proofs.Qm
