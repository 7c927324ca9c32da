/- The things of the program. -/
import Derived.Test.YtpodkllkinpfmaaGreatDoorXkT
import Derived.Test.YtpodkllkinpfmaaGreatDoorXk33
set_option linter.all false
set_option maxRecDepth 100000
set_option maxHeartbeats 400000
namespace Go.Proofs.Qk
open Go
structure GCue where
 name:ByteArray
 after:Int
 atEnd:Bool
 low:Int
 high:Int
 min_:Int
 max_:Int
 free:Bool
 if_:Int
 watch:Int
 device:Int
 deriving DecidableEq
def GCue.enc (x:GCue):List AV:=[.lit (.string x.name),.lit (.int .i64 x.after),.lit (.bool x.atEnd),.lit (.int .i64 x.low),.lit (.int .i64 x.high),.lit (.int .i64 x.min_),.lit (.int .i64 x.max_),.lit (.bool x.free),.lit (.int .i64 x.if_),.lit (.int .i64 x.watch),.lit (.int .i64 x.device)]
theorem KB (xs:List GCue)(i:Nat)(a0:ByteArray)(a1:Int)(a2:Bool)(a3 a4 a5 a6:Int)(a7:Bool)(a8 a9 a10:Int):(ab GCue.enc xs).set i [.lit (.string a0),.lit (.int .i64 a1),.lit (.bool a2),.lit (.int .i64 a3),.lit (.int .i64 a4),.lit (.int .i64 a5),.lit (.int .i64 a6),.lit (.bool a7),.lit (.int .i64 a8),.lit (.int .i64 a9),.lit (.int .i64 a10)]=ab GCue.enc (xs.set i (GCue.mk a0 a1 a2 a3 a4 a5 a6 a7 a8 a9 a10)):=aX (e:=GCue.enc) xs i (GCue.mk a0 a1 a2 a3 a4 a5 a6 a7 a8 a9 a10)
theorem KD (xs:List GCue):(ab GCue.enc xs).all (fun r=>r.length == 11)=true:=bd (e:=GCue.enc) (fun _=>rfl) xs
theorem KF (xs:List GCue):frsR (ab GCue.enc xs)=true:=bX (e:=GCue.enc) (fun x=>by simp only[go_sem,GCue.enc]) xs
theorem Hx (xs:List GCue):bD (ab GCue.enc xs)=ab GCue.enc xs:=bC (e:=GCue.enc) (fun x=>by simp only[go_sem,fi,toSl,GCue.enc]) xs
theorem KG (n:Nat):List.replicate n [.lit (.string (ByteArray.mk #[])),.lit (.int .i64 0),.lit (.bool false),.lit (.int .i64 0),.lit (.int .i64 0),.lit (.int .i64 0),.lit (.int .i64 0),.lit (.bool false),.lit (.int .i64 0),.lit (.int .i64 0),.lit (.int .i64 0)]=ab GCue.enc (List.replicate n (GCue.mk (ByteArray.mk #[]) 0 false 0 0 0 0 false 0 0 0)):=aW (e:=GCue.enc) n (GCue.mk (ByteArray.mk #[]) 0 false 0 0 0 0 false 0 0 0)
attribute[go_sem] GCue.enc KB KD KF Hx KG
structure GSheet where
 cues:List GCue
 prep:List Int
 horizon:Int
 deriving DecidableEq
@[go_sem] def GSheet.encS (x:GSheet):List AV:=[.sl (ab GCue.enc x.cues),.sl (ab eI x.prep),.lit (.int .i64 x.horizon)]
@[go_sem] def GSheet.encO (x:GSheet):List AV:=[.own (ab GCue.enc x.cues),.own (ab eI x.prep),.lit (.int .i64 x.horizon)]
structure GNode where
 name:ByteArray
 label:List Int
 watch:Int
 deriving DecidableEq
def GNode.encS (x:GNode):List AV:=[.lit (.string x.name),.sl (ab eI x.label),.lit (.int .i64 x.watch)]
theorem FV (xs:List GNode):(ab GNode.encS xs).all (fun r=>r.length == 3)=true:=bd (e:=GNode.encS) (fun _=>rfl) xs
attribute[go_sem] GNode.encS FV
def GNode.encO (x:GNode):List AV:=[.lit (.string x.name),.own (ab eI x.label),.lit (.int .i64 x.watch)]
theorem FY (xs:List GNode):(ab GNode.encO xs).all (fun r=>r.length == 3)=true:=bd (e:=GNode.encO) (fun _=>rfl) xs
theorem FZ (a0:ByteArray)(a1:List Int)(a2:Int):[[.lit (.string a0),.own (ab eI a1),.lit (.int .i64 a2)]]=ab GNode.encO [(GNode.mk a0 a1 a2)]:=rfl
theorem Ga (xs:List GNode):frsR (ab GNode.encO xs)=true:=bX (e:=GNode.encO) (fun x=>by simp only[go_sem,GNode.encO]) xs
theorem EN (xs:List GNode):bD (ab GNode.encO xs)=ab GNode.encS xs:=bC (e:=GNode.encO) (fun x=>by simp only[go_sem,fi,toSl,GNode.encO,GNode.encS]) xs
theorem Cy (a0:ByteArray)(a2:Int):[[.lit (.string a0),.own [],.lit (.int .i64 a2)]]=ab GNode.encO [(GNode.mk a0 [] a2)]:=rfl
attribute[go_sem] GNode.encO FY FZ Ga EN Cy
structure GTie where
 from_:Int
 to:Int
 low:Int
 high:Int
 free:Bool
 deriving DecidableEq
def GTie.enc (x:GTie):List AV:=[.lit (.int .i64 x.from_),.lit (.int .i64 x.to),.lit (.int .i64 x.low),.lit (.int .i64 x.high),.lit (.bool x.free)]
theorem KI (xs:List GTie):(ab GTie.enc xs).all (fun r=>r.length == 5)=true:=bd (e:=GTie.enc) (fun _=>rfl) xs
theorem KJ (a0 a1 a2 a3:Int)(a4:Bool):[[.lit (.int .i64 a0),.lit (.int .i64 a1),.lit (.int .i64 a2),.lit (.int .i64 a3),.lit (.bool a4)]]=ab GTie.enc [(GTie.mk a0 a1 a2 a3 a4)]:=rfl
theorem KK (xs:List GTie):frsR (ab GTie.enc xs)=true:=bX (e:=GTie.enc) (fun x=>by simp only[go_sem,GTie.enc]) xs
theorem HA (xs:List GTie):bD (ab GTie.enc xs)=ab GTie.enc xs:=bC (e:=GTie.enc) (fun x=>by simp only[go_sem,fi,toSl,GTie.enc]) xs
attribute[go_sem] GTie.enc KI KJ KK HA
structure GShow where
 nodes:List GNode
 ties:List GTie
 horizon:Int
 deriving DecidableEq
@[go_sem] def GShow.encS (x:GShow):List AV:=[.sl (ab GNode.encS x.nodes),.sl (ab GTie.enc x.ties),.lit (.int .i64 x.horizon)]
@[go_sem] def GShow.encO (x:GShow):List AV:=[.own (ab GNode.encO x.nodes),.own (ab GTie.enc x.ties),.lit (.int .i64 x.horizon)]
structure am where
 low:Int
 high:Int
 deriving DecidableEq
@[go_sem] def am.enc (x:am):List AV:=[.lit (.int .i64 x.low),.lit (.int .i64 x.high)]
structure GLink where
 from_:Int
 to:Int
 span:am
 deriving DecidableEq
def GLink.enc (x:GLink):List AV:=[.lit (.int .i64 x.from_),.lit (.int .i64 x.to),.lit (.int .i64 x.span.low),.lit (.int .i64 x.span.high)]
theorem HC (xs:List GLink):(ab GLink.enc xs).all (fun r=>r.length == 4)=true:=bd (e:=GLink.enc) (fun _=>rfl) xs
theorem HD (a0 a1 a2 a3:Int):[[.lit (.int .i64 a0),.lit (.int .i64 a1),.lit (.int .i64 a2),.lit (.int .i64 a3)]]=ab GLink.enc [(GLink.mk a0 a1 (am.mk a2 a3))]:=rfl
theorem HE (xs:List GLink):frsR (ab GLink.enc xs)=true:=bX (e:=GLink.enc) (fun x=>by simp only[go_sem,GLink.enc]) xs
theorem Gn (xs:List GLink):bD (ab GLink.enc xs)=ab GLink.enc xs:=bC (e:=GLink.enc) (fun x=>by simp only[go_sem,fi,toSl,GLink.enc]) xs
attribute[go_sem] GLink.enc HC HD HE Gn
structure GSimple where
 events:Int
 links:List GLink
 deriving DecidableEq
@[go_sem] def GSimple.encS (x:GSimple):List AV:=[.lit (.int .i64 x.events),.sl (ab GLink.enc x.links)]
@[go_sem] def GSimple.encO (x:GSimple):List AV:=[.lit (.int .i64 x.events),.own (ab GLink.enc x.links)]
structure GEdge where
 from_:Int
 to:Int
 weight:Int
 deriving DecidableEq
def GEdge.enc (x:GEdge):List AV:=[.lit (.int .i64 x.from_),.lit (.int .i64 x.to),.lit (.int .i64 x.weight)]
theorem HH (xs:List GEdge):(ab GEdge.enc xs).all (fun r=>r.length == 3)=true:=bd (e:=GEdge.enc) (fun _=>rfl) xs
theorem HI (a0 a1 a2:Int):[[.lit (.int .i64 a0),.lit (.int .i64 a1),.lit (.int .i64 a2)]]=ab GEdge.enc [(GEdge.mk a0 a1 a2)]:=rfl
theorem HJ (xs:List GEdge):frsR (ab GEdge.enc xs)=true:=bX (e:=GEdge.enc) (fun x=>by simp only[go_sem,GEdge.enc]) xs
theorem Gr (xs:List GEdge):bD (ab GEdge.enc xs)=ab GEdge.enc xs:=bC (e:=GEdge.enc) (fun x=>by simp only[go_sem,fi,toSl,GEdge.enc]) xs
attribute[go_sem] GEdge.enc HH HI HJ Gr
structure GGraph where
 nodes:Int
 edges:List GEdge
 deriving DecidableEq
@[go_sem] def GGraph.encS (x:GGraph):List AV:=[.lit (.int .i64 x.nodes),.sl (ab GEdge.enc x.edges)]
@[go_sem] def GGraph.encO (x:GGraph):List AV:=[.lit (.int .i64 x.nodes),.own (ab GEdge.enc x.edges)]
structure aw where
 size:Int
 cells:List Int
 deriving DecidableEq
@[go_sem] def aw.encS (x:aw):List AV:=[.lit (.int .i64 x.size),.sl (ab eI x.cells)]
@[go_sem] def aw.encO (x:aw):List AV:=[.lit (.int .i64 x.size),.own (ab eI x.cells)]
structure GState where
 now:Int
 times:List Int
 values:List Int
 deriving DecidableEq
@[go_sem] def GState.encS (x:GState):List AV:=[.lit (.int .i64 x.now),.sl (ab eI x.times),.sl (ab eI x.values)]
@[go_sem] def GState.encO (x:GState):List AV:=[.lit (.int .i64 x.now),.own (ab eI x.times),.own (ab eI x.values)]
structure GChoice where
 lengths:List Int
 values:List Int
 deriving DecidableEq
@[go_sem] def GChoice.encS (x:GChoice):List AV:=[.sl (ab eI x.lengths),.sl (ab eI x.values)]
@[go_sem] def GChoice.encO (x:GChoice):List AV:=[.own (ab eI x.lengths),.own (ab eI x.values)]
def spf (f:Nat):Bool:=[206,281].contains f
def mdT:Nat→List AV→Md:=fun n a=>match n with
 | 127=>⟨[],true⟩
 | 141=>⟨[0],false⟩
 | 207=>⟨[0],true⟩
 | 230=>⟨[0],false⟩
 | 232=>⟨[0],true⟩
 | 246=>⟨[1,2,3],false⟩
 | 252=>⟨[5,6],false⟩
 | 279=>⟨[0],true⟩
 | 282=>⟨[0],false⟩
 | 289=>⟨[1000],false⟩
 | 290=>⟨[0],false⟩
 | 320=>⟨[0],false⟩
 | _=>⟨[],false⟩
@[go_sem] theorem md23 (a:List AV):mdT 23 a=⟨[],false⟩:=rfl
@[go_sem] theorem md25 (a:List AV):mdT 25 a=⟨[],false⟩:=rfl
@[go_sem] theorem md29 (a:List AV):mdT 29 a=⟨[],false⟩:=rfl
@[go_sem] theorem md37 (a:List AV):mdT 37 a=⟨[],false⟩:=rfl
@[go_sem] theorem md43 (a:List AV):mdT 43 a=⟨[],false⟩:=rfl
@[go_sem] theorem md44 (a:List AV):mdT 44 a=⟨[],false⟩:=rfl
@[go_sem] theorem md45 (a:List AV):mdT 45 a=⟨[],false⟩:=rfl
@[go_sem] theorem md53 (a:List AV):mdT 53 a=⟨[],false⟩:=rfl
@[go_sem] theorem md54 (a:List AV):mdT 54 a=⟨[],false⟩:=rfl
@[go_sem] theorem md55 (a:List AV):mdT 55 a=⟨[],false⟩:=rfl
@[go_sem] theorem md56 (a:List AV):mdT 56 a=⟨[],false⟩:=rfl
@[go_sem] theorem md59 (a:List AV):mdT 59 a=⟨[],false⟩:=rfl
@[go_sem] theorem md60 (a:List AV):mdT 60 a=⟨[],false⟩:=rfl
@[go_sem] theorem md61 (a:List AV):mdT 61 a=⟨[],false⟩:=rfl
@[go_sem] theorem md63 (a:List AV):mdT 63 a=⟨[],false⟩:=rfl
@[go_sem] theorem md67 (a:List AV):mdT 67 a=⟨[],false⟩:=rfl
@[go_sem] theorem md68 (a:List AV):mdT 68 a=⟨[],false⟩:=rfl
@[go_sem] theorem md69 (a:List AV):mdT 69 a=⟨[],false⟩:=rfl
@[go_sem] theorem md70 (a:List AV):mdT 70 a=⟨[],false⟩:=rfl
@[go_sem] theorem md74 (a:List AV):mdT 74 a=⟨[],false⟩:=rfl
@[go_sem] theorem md81 (a:List AV):mdT 81 a=⟨[],false⟩:=rfl
@[go_sem] theorem md82 (a:List AV):mdT 82 a=⟨[],false⟩:=rfl
@[go_sem] theorem md83 (a:List AV):mdT 83 a=⟨[],false⟩:=rfl
@[go_sem] theorem md86 (a:List AV):mdT 86 a=⟨[],false⟩:=rfl
@[go_sem] theorem md87 (a:List AV):mdT 87 a=⟨[],false⟩:=rfl
@[go_sem] theorem md88 (a:List AV):mdT 88 a=⟨[],false⟩:=rfl
@[go_sem] theorem md89 (a:List AV):mdT 89 a=⟨[],false⟩:=rfl
@[go_sem] theorem md90 (a:List AV):mdT 90 a=⟨[],false⟩:=rfl
@[go_sem] theorem md91 (a:List AV):mdT 91 a=⟨[],false⟩:=rfl
@[go_sem] theorem md92 (a:List AV):mdT 92 a=⟨[],false⟩:=rfl
@[go_sem] theorem md93 (a:List AV):mdT 93 a=⟨[],false⟩:=rfl
@[go_sem] theorem md94 (a:List AV):mdT 94 a=⟨[],false⟩:=rfl
@[go_sem] theorem md98 (a:List AV):mdT 98 a=⟨[],false⟩:=rfl
@[go_sem] theorem md99 (a:List AV):mdT 99 a=⟨[],false⟩:=rfl
@[go_sem] theorem aba (a:List AV):mdT 100 a=⟨[],false⟩:=rfl
@[go_sem] theorem abb (a:List AV):mdT 103 a=⟨[],false⟩:=rfl
@[go_sem] theorem abc (a:List AV):mdT 107 a=⟨[],false⟩:=rfl
@[go_sem] theorem abd (a:List AV):mdT 108 a=⟨[],false⟩:=rfl
@[go_sem] theorem abe (a:List AV):mdT 109 a=⟨[],false⟩:=rfl
@[go_sem] theorem abf (a:List AV):mdT 110 a=⟨[],false⟩:=rfl
@[go_sem] theorem abg (a:List AV):mdT 112 a=⟨[],false⟩:=rfl
@[go_sem] theorem abh (a:List AV):mdT 113 a=⟨[],false⟩:=rfl
@[go_sem] theorem abi (a:List AV):mdT 115 a=⟨[],false⟩:=rfl
@[go_sem] theorem abj (a:List AV):mdT 118 a=⟨[],false⟩:=rfl
@[go_sem] theorem abk (a:List AV):mdT 119 a=⟨[],false⟩:=rfl
@[go_sem] theorem abl (a:List AV):mdT 120 a=⟨[],false⟩:=rfl
@[go_sem] theorem abm (a:List AV):mdT 121 a=⟨[],false⟩:=rfl
@[go_sem] theorem abn (a:List AV):mdT 122 a=⟨[],false⟩:=rfl
@[go_sem] theorem abo (a:List AV):mdT 123 a=⟨[],false⟩:=rfl
@[go_sem] theorem abp (a:List AV):mdT 124 a=⟨[],false⟩:=rfl
@[go_sem] theorem abr (a:List AV):mdT 126 a=⟨[],false⟩:=rfl
@[go_sem] theorem abt (a:List AV):mdT 127 a=⟨[],true⟩:=rfl
@[go_sem] theorem abu (a:List AV):mdT 128 a=⟨[],false⟩:=rfl
@[go_sem] theorem abv (a:List AV):mdT 129 a=⟨[],false⟩:=rfl
@[go_sem] theorem abw (a:List AV):mdT 131 a=⟨[],false⟩:=rfl
@[go_sem] theorem abx (a:List AV):mdT 132 a=⟨[],false⟩:=rfl
@[go_sem] theorem aby (a:List AV):mdT 134 a=⟨[],false⟩:=rfl
@[go_sem] theorem abz (a:List AV):mdT 136 a=⟨[],false⟩:=rfl
@[go_sem] theorem abA (a:List AV):mdT 138 a=⟨[],false⟩:=rfl
@[go_sem] theorem abB (a:List AV):mdT 141 a=⟨[0],false⟩:=rfl
@[go_sem] theorem abC (a:List AV):mdT 142 a=⟨[],false⟩:=rfl
@[go_sem] theorem abD (a:List AV):mdT 144 a=⟨[],false⟩:=rfl
@[go_sem] theorem abE (a:List AV):mdT 149 a=⟨[],false⟩:=rfl
@[go_sem] theorem abF (a:List AV):mdT 151 a=⟨[],false⟩:=rfl
@[go_sem] theorem abG (a:List AV):mdT 152 a=⟨[],false⟩:=rfl
@[go_sem] theorem abH (a:List AV):mdT 153 a=⟨[],false⟩:=rfl
@[go_sem] theorem abI (a:List AV):mdT 154 a=⟨[],false⟩:=rfl
@[go_sem] theorem abJ (a:List AV):mdT 156 a=⟨[],false⟩:=rfl
@[go_sem] theorem abK (a:List AV):mdT 157 a=⟨[],false⟩:=rfl
@[go_sem] theorem abL (a:List AV):mdT 158 a=⟨[],false⟩:=rfl
@[go_sem] theorem abM (a:List AV):mdT 159 a=⟨[],false⟩:=rfl
@[go_sem] theorem abN (a:List AV):mdT 160 a=⟨[],false⟩:=rfl
@[go_sem] theorem abO (a:List AV):mdT 161 a=⟨[],false⟩:=rfl
@[go_sem] theorem abP (a:List AV):mdT 162 a=⟨[],false⟩:=rfl
@[go_sem] theorem abQ (a:List AV):mdT 163 a=⟨[],false⟩:=rfl
@[go_sem] theorem abR (a:List AV):mdT 164 a=⟨[],false⟩:=rfl
@[go_sem] theorem abS (a:List AV):mdT 165 a=⟨[],false⟩:=rfl
@[go_sem] theorem abT (a:List AV):mdT 166 a=⟨[],false⟩:=rfl
@[go_sem] theorem abU (a:List AV):mdT 167 a=⟨[],false⟩:=rfl
@[go_sem] theorem abV (a:List AV):mdT 171 a=⟨[],false⟩:=rfl
@[go_sem] theorem abW (a:List AV):mdT 172 a=⟨[],false⟩:=rfl
@[go_sem] theorem abX (a:List AV):mdT 173 a=⟨[],false⟩:=rfl
@[go_sem] theorem abY (a:List AV):mdT 174 a=⟨[],false⟩:=rfl
@[go_sem] theorem abZ (a:List AV):mdT 175 a=⟨[],false⟩:=rfl
@[go_sem] theorem aca (a:List AV):mdT 176 a=⟨[],false⟩:=rfl
@[go_sem] theorem acb (a:List AV):mdT 177 a=⟨[],false⟩:=rfl
@[go_sem] theorem acd (a:List AV):mdT 184 a=⟨[],false⟩:=rfl
@[go_sem] theorem ace (a:List AV):mdT 185 a=⟨[],false⟩:=rfl
@[go_sem] theorem acg (a:List AV):mdT 187 a=⟨[],false⟩:=rfl
@[go_sem] theorem aci (a:List AV):mdT 189 a=⟨[],false⟩:=rfl
@[go_sem] theorem acj (a:List AV):mdT 190 a=⟨[],false⟩:=rfl
@[go_sem] theorem acl (a:List AV):mdT 192 a=⟨[],false⟩:=rfl
@[go_sem] theorem acm (a:List AV):mdT 193 a=⟨[],false⟩:=rfl
@[go_sem] theorem aco (a:List AV):mdT 195 a=⟨[],false⟩:=rfl
@[go_sem] theorem acp (a:List AV):mdT 200 a=⟨[],false⟩:=rfl
@[go_sem] theorem acq (a:List AV):mdT 201 a=⟨[],false⟩:=rfl
@[go_sem] theorem acr (a:List AV):mdT 202 a=⟨[],false⟩:=rfl
@[go_sem] theorem acs (a:List AV):mdT 207 a=⟨[0],true⟩:=rfl
@[go_sem] theorem act (a:List AV):mdT 211 a=⟨[],false⟩:=rfl
@[go_sem] theorem acu (a:List AV):mdT 212 a=⟨[],false⟩:=rfl
@[go_sem] theorem acv (a:List AV):mdT 213 a=⟨[],false⟩:=rfl
@[go_sem] theorem acw (a:List AV):mdT 214 a=⟨[],false⟩:=rfl
@[go_sem] theorem acx (a:List AV):mdT 215 a=⟨[],false⟩:=rfl
@[go_sem] theorem acy (a:List AV):mdT 216 a=⟨[],false⟩:=rfl
@[go_sem] theorem acz (a:List AV):mdT 217 a=⟨[],false⟩:=rfl
@[go_sem] theorem acA (a:List AV):mdT 218 a=⟨[],false⟩:=rfl
@[go_sem] theorem acB (a:List AV):mdT 220 a=⟨[],false⟩:=rfl
@[go_sem] theorem acC (a:List AV):mdT 221 a=⟨[],false⟩:=rfl
@[go_sem] theorem acE (a:List AV):mdT 223 a=⟨[],false⟩:=rfl
@[go_sem] theorem acF (a:List AV):mdT 224 a=⟨[],false⟩:=rfl
@[go_sem] theorem acH (a:List AV):mdT 226 a=⟨[],false⟩:=rfl
@[go_sem] theorem acI (a:List AV):mdT 227 a=⟨[],false⟩:=rfl
@[go_sem] theorem acJ (a:List AV):mdT 228 a=⟨[],false⟩:=rfl
@[go_sem] theorem acK (a:List AV):mdT 229 a=⟨[],false⟩:=rfl
@[go_sem] theorem acL (a:List AV):mdT 230 a=⟨[0],false⟩:=rfl
@[go_sem] theorem acM (a:List AV):mdT 231 a=⟨[],false⟩:=rfl
@[go_sem] theorem acN (a:List AV):mdT 232 a=⟨[0],true⟩:=rfl
@[go_sem] theorem acO (a:List AV):mdT 234 a=⟨[],false⟩:=rfl
@[go_sem] theorem acP (a:List AV):mdT 235 a=⟨[],false⟩:=rfl
@[go_sem] theorem acQ (a:List AV):mdT 236 a=⟨[],false⟩:=rfl
@[go_sem] theorem acR (a:List AV):mdT 237 a=⟨[],false⟩:=rfl
@[go_sem] theorem acS (a:List AV):mdT 238 a=⟨[],false⟩:=rfl
@[go_sem] theorem acT (a:List AV):mdT 239 a=⟨[],false⟩:=rfl
@[go_sem] theorem acU (a:List AV):mdT 240 a=⟨[],false⟩:=rfl
@[go_sem] theorem acV (a:List AV):mdT 241 a=⟨[],false⟩:=rfl
@[go_sem] theorem acW (a:List AV):mdT 242 a=⟨[],false⟩:=rfl
@[go_sem] theorem acX (a:List AV):mdT 243 a=⟨[],false⟩:=rfl
@[go_sem] theorem acY (a:List AV):mdT 244 a=⟨[],false⟩:=rfl
@[go_sem] theorem acZ (a:List AV):mdT 245 a=⟨[],false⟩:=rfl
@[go_sem] theorem ada (a:List AV):mdT 246 a=⟨[1,2,3],false⟩:=rfl
@[go_sem] theorem adb (a:List AV):mdT 247 a=⟨[],false⟩:=rfl
@[go_sem] theorem adc (a:List AV):mdT 248 a=⟨[],false⟩:=rfl
@[go_sem] theorem ade (a:List AV):mdT 249 a=⟨[],false⟩:=rfl
@[go_sem] theorem adf (a:List AV):mdT 250 a=⟨[],false⟩:=rfl
@[go_sem] theorem adg (a:List AV):mdT 251 a=⟨[],false⟩:=rfl
@[go_sem] theorem adh (a:List AV):mdT 252 a=⟨[5,6],false⟩:=rfl
@[go_sem] theorem adi (a:List AV):mdT 253 a=⟨[],false⟩:=rfl
@[go_sem] theorem adj (a:List AV):mdT 254 a=⟨[],false⟩:=rfl
@[go_sem] theorem adl (a:List AV):mdT 256 a=⟨[],false⟩:=rfl
@[go_sem] theorem adm (a:List AV):mdT 257 a=⟨[],false⟩:=rfl
@[go_sem] theorem adn (a:List AV):mdT 258 a=⟨[],false⟩:=rfl
@[go_sem] theorem ado (a:List AV):mdT 259 a=⟨[],false⟩:=rfl
@[go_sem] theorem adp (a:List AV):mdT 260 a=⟨[],false⟩:=rfl
@[go_sem] theorem adq (a:List AV):mdT 261 a=⟨[],false⟩:=rfl
@[go_sem] theorem adr (a:List AV):mdT 262 a=⟨[],false⟩:=rfl
@[go_sem] theorem ads (a:List AV):mdT 263 a=⟨[],false⟩:=rfl
@[go_sem] theorem adt (a:List AV):mdT 264 a=⟨[],false⟩:=rfl
@[go_sem] theorem adu (a:List AV):mdT 265 a=⟨[],false⟩:=rfl
@[go_sem] theorem adv (a:List AV):mdT 266 a=⟨[],false⟩:=rfl
@[go_sem] theorem adw (a:List AV):mdT 267 a=⟨[],false⟩:=rfl
@[go_sem] theorem adx (a:List AV):mdT 268 a=⟨[],false⟩:=rfl
@[go_sem] theorem adz (a:List AV):mdT 270 a=⟨[],false⟩:=rfl
@[go_sem] theorem adA (a:List AV):mdT 272 a=⟨[],false⟩:=rfl
@[go_sem] theorem adB (a:List AV):mdT 275 a=⟨[],false⟩:=rfl
@[go_sem] theorem adC (a:List AV):mdT 278 a=⟨[],false⟩:=rfl
@[go_sem] theorem adD (a:List AV):mdT 279 a=⟨[0],true⟩:=rfl
@[go_sem] theorem adE (a:List AV):mdT 282 a=⟨[0],false⟩:=rfl
@[go_sem] theorem adF (a:List AV):mdT 287 a=⟨[],false⟩:=rfl
@[go_sem] theorem adG (a:List AV):mdT 288 a=⟨[],false⟩:=rfl
@[go_sem] theorem adH (a:List AV):mdT 289 a=⟨[1000],false⟩:=rfl
@[go_sem] theorem adI (a:List AV):mdT 290 a=⟨[0],false⟩:=rfl
@[go_sem] theorem adJ (a:List AV):mdT 291 a=⟨[],false⟩:=rfl
@[go_sem] theorem adL (a:List AV):mdT 293 a=⟨[],false⟩:=rfl
@[go_sem] theorem adM (a:List AV):mdT 294 a=⟨[],false⟩:=rfl
@[go_sem] theorem adN (a:List AV):mdT 295 a=⟨[],false⟩:=rfl
@[go_sem] theorem adO (a:List AV):mdT 296 a=⟨[],false⟩:=rfl
@[go_sem] theorem adP (a:List AV):mdT 297 a=⟨[],false⟩:=rfl
@[go_sem] theorem adQ (a:List AV):mdT 298 a=⟨[],false⟩:=rfl
@[go_sem] theorem adR (a:List AV):mdT 299 a=⟨[],false⟩:=rfl
@[go_sem] theorem adS (a:List AV):mdT 300 a=⟨[],false⟩:=rfl
@[go_sem] theorem adT (a:List AV):mdT 301 a=⟨[],false⟩:=rfl
@[go_sem] theorem adU (a:List AV):mdT 302 a=⟨[],false⟩:=rfl
@[go_sem] theorem adV (a:List AV):mdT 303 a=⟨[],false⟩:=rfl
@[go_sem] theorem adW (a:List AV):mdT 304 a=⟨[],false⟩:=rfl
@[go_sem] theorem adX (a:List AV):mdT 305 a=⟨[],false⟩:=rfl
@[go_sem] theorem adY (a:List AV):mdT 306 a=⟨[],false⟩:=rfl
@[go_sem] theorem adZ (a:List AV):mdT 307 a=⟨[],false⟩:=rfl
@[go_sem] theorem aeb (a:List AV):mdT 309 a=⟨[],false⟩:=rfl
@[go_sem] theorem aee (a:List AV):mdT 313 a=⟨[],false⟩:=rfl
@[go_sem] theorem aef (a:List AV):mdT 320 a=⟨[0],false⟩:=rfl
@[go_sem] theorem aeg (a:List AV):mdT 326 a=⟨[],false⟩:=rfl
@[go_sem] theorem aeh (a:List AV):mdT 330 a=⟨[],false⟩:=rfl
@[go_sem] theorem aei (a:List AV):mdT 331 a=⟨[],false⟩:=rfl
@[go_sem] theorem aej (a:List AV):mdT 332 a=⟨[],false⟩:=rfl
@[go_sem] theorem aek (a:List AV):mdT 333 a=⟨[],false⟩:=rfl
@[go_sem] theorem ael (a:List AV):mdT 334 a=⟨[],false⟩:=rfl
@[go_sem] theorem aem (a:List AV):mdT 335 a=⟨[],false⟩:=rfl
@[go_sem] theorem aen (a:List AV):mdT 336 a=⟨[],false⟩:=rfl
@[go_sem] theorem aeo (a:List AV):mdT 337 a=⟨[],false⟩:=rfl
@[go_sem] theorem aep (a:List AV):mdT 338 a=⟨[],false⟩:=rfl
@[go_sem] theorem aeq (a:List AV):mdT 339 a=⟨[],false⟩:=rfl
@[go_sem] theorem aer (a:List AV):mdT 340 a=⟨[],false⟩:=rfl
@[go_sem] theorem aes (a:List AV):mdT 341 a=⟨[],false⟩:=rfl
@[go_sem] theorem aet (a:List AV):mdT 342 a=⟨[],false⟩:=rfl
@[go_sem] theorem aeu (a:List AV):mdT 343 a=⟨[],false⟩:=rfl
@[go_sem] theorem aev (a:List AV):mdT 344 a=⟨[],false⟩:=rfl
@[go_sem] theorem aew (a:List AV):mdT 356 a=⟨[],false⟩:=rfl
@[go_sem] theorem aex (a:List AV):mdT 357 a=⟨[],false⟩:=rfl
@[go_sem] theorem aey (a:List AV):mdT 358 a=⟨[],false⟩:=rfl
@[go_sem] theorem aez (a:List AV):mdT 359 a=⟨[],false⟩:=rfl
@[go_sem] theorem aeA (a:List AV):mdT 360 a=⟨[],false⟩:=rfl
@[go_sem] theorem aeB (a:List AV):mdT 361 a=⟨[],false⟩:=rfl
@[go_sem] theorem aeC (a:List AV):mdT 362 a=⟨[],false⟩:=rfl
@[go_sem] theorem aeD (a:List AV):mdT 363 a=⟨[],false⟩:=rfl
@[go_sem] theorem aeE (a:List AV):mdT 364 a=⟨[],false⟩:=rfl
@[go_sem] theorem aeF (a:List AV):mdT 365 a=⟨[],false⟩:=rfl
@[go_sem] theorem aeG (a:List AV):mdT 371 a=⟨[],false⟩:=rfl
@[go_sem] theorem aeH (a:List AV):mdT 372 a=⟨[],false⟩:=rfl
@[go_sem] theorem aeI (a:List AV):mdT 373 a=⟨[],false⟩:=rfl
@[go_sem] theorem aeJ (a:List AV):mdT 374 a=⟨[],false⟩:=rfl
end Go.Proofs.Qk
