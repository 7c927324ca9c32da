/- The things of the program. -/
import Derived.Test.YtghfphjfkdbpjaaGreatBT
import Derived.Test.YtghfphjfkdbpjaaGreatB33
set_option linter.all false
set_option maxRecDepth 100000
set_option maxHeartbeats 400000
namespace Go.Proofs.QB
open Go
structure GNode where
 name:ByteArray
 label:List Int
 watch:Int
 deriving DecidableEq
def GNode.encS (x:GNode):List AV:=[.lit (.string x.name),.sl (ae eI x.label),.lit (.int .i64 x.watch)]
theorem Cu (xs:List GNode):(ae GNode.encS xs).all (fun r=>r.length == 3)=true:=iP (e:=GNode.encS) (fun _=>rfl) xs
attribute [go_sem] GNode.encS Cu
def GNode.encO (x:GNode):List AV:=[.lit (.string x.name),.own (ae eI x.label),.lit (.int .i64 x.watch)]
theorem Cv (xs:List GNode)(i:Nat)(a0:ByteArray)(a1:List Int)(a2:Int):(ae GNode.encO xs).set i [.lit (.string a0),.own (ae eI a1),.lit (.int .i64 a2)]=ae GNode.encO (xs.set i (GNode.mk a0 a1 a2)):=nQ (e:=GNode.encO) xs i (GNode.mk a0 a1 a2)
theorem Cw (xs:List GNode):(ae GNode.encO xs).all (fun r=>r.length == 3)=true:=iP (e:=GNode.encO) (fun _=>rfl) xs
theorem Cx (a0:ByteArray)(a1:List Int)(a2:Int):[[.lit (.string a0),.own (ae eI a1),.lit (.int .i64 a2)]]=ae GNode.encO [(GNode.mk a0 a1 a2)]:=rfl
theorem Bz (xs:List GNode)(a0:ByteArray)(a1:List Int)(a2:Int):[.lit (.string a0),.own (ae eI a1),.lit (.int .i64 a2)]::ae GNode.encO xs=ae GNode.encO ((GNode.mk a0 a1 a2)::xs):=rfl
theorem Cy (xs:List GNode):frsR (ae GNode.encO xs)=true:=ni (e:=GNode.encO) (fun x=>by simp only [go_sem,GNode.encO]) xs
theorem BA (xs:List GNode):cT (ae GNode.encO xs)=ae GNode.encS xs:=mq (e:=GNode.encO) (fun x=>by simp only [go_sem,lN,toSl,GNode.encO,GNode.encS]) xs
theorem Cz (n:Nat):List.replicate n [.lit (.string (ByteArray.mk #[])),.own [],.lit (.int .i64 0)]=ae GNode.encO (List.replicate n (GNode.mk (ByteArray.mk #[]) ([]) 0)):=jp (e:=GNode.encO) n (GNode.mk (ByteArray.mk #[]) ([]) 0)
theorem zN (a0:ByteArray)(a2:Int):[[.lit (.string a0),.own [],.lit (.int .i64 a2)]]=ae GNode.encO [(GNode.mk a0 [] a2)]:=rfl
theorem yT (xs:List GNode)(a0:ByteArray)(a2:Int):[.lit (.string a0),.own [],.lit (.int .i64 a2)]::ae GNode.encO xs=ae GNode.encO ((GNode.mk a0 [] a2)::xs):=rfl
attribute [go_sem] GNode.encO Cv Cw Cx Bz Cy BA Cz zN yT
structure GTie where
 from_:Int
 to:Int
 low:Int
 high:Int
 free:Bool
 deriving DecidableEq
def GTie.enc (x:GTie):List AV:=[.lit (.int .i64 x.from_),.lit (.int .i64 x.to),.lit (.int .i64 x.low),.lit (.int .i64 x.high),.lit (.bool x.free)]
theorem Gc (xs:List GTie)(i:Nat)(a0 a1 a2 a3:Int)(a4:Bool):(ae GTie.enc xs).set i [.lit (.int .i64 a0),.lit (.int .i64 a1),.lit (.int .i64 a2),.lit (.int .i64 a3),.lit (.bool a4)]=ae GTie.enc (xs.set i (GTie.mk a0 a1 a2 a3 a4)):=nQ (e:=GTie.enc) xs i (GTie.mk a0 a1 a2 a3 a4)
theorem Gd (xs:List GTie):(ae GTie.enc xs).all (fun r=>r.length == 5)=true:=iP (e:=GTie.enc) (fun _=>rfl) xs
theorem Ge (a0 a1 a2 a3:Int)(a4:Bool):[[.lit (.int .i64 a0),.lit (.int .i64 a1),.lit (.int .i64 a2),.lit (.int .i64 a3),.lit (.bool a4)]]=ae GTie.enc [(GTie.mk a0 a1 a2 a3 a4)]:=rfl
theorem Gf (xs:List GTie):frsR (ae GTie.enc xs)=true:=ni (e:=GTie.enc) (fun x=>by simp only [go_sem,GTie.enc]) xs
theorem DI (xs:List GTie):cT (ae GTie.enc xs)=ae GTie.enc xs:=mq (e:=GTie.enc) (fun x=>by simp only [go_sem,lN,toSl,GTie.enc]) xs
theorem Gg (n:Nat):List.replicate n [.lit (.int .i64 0),.lit (.int .i64 0),.lit (.int .i64 0),.lit (.int .i64 0),.lit (.bool false)]=ae GTie.enc (List.replicate n (GTie.mk 0 0 0 0 false)):=jp (e:=GTie.enc) n (GTie.mk 0 0 0 0 false)
attribute [go_sem] GTie.enc Gc Gd Ge Gf DI Gg
structure GShow where
 nodes:List GNode
 ties:List GTie
 horizon:Int
 deriving DecidableEq
def GShow.encS (x:GShow):List AV:=[.sl (ae GNode.encS x.nodes),.sl (ae GTie.enc x.ties),.lit (.int .i64 x.horizon)]
attribute [go_sem] GShow.encS
def GShow.encO (x:GShow):List AV:=[.own (ae GNode.encO x.nodes),.own (ae GTie.enc x.ties),.lit (.int .i64 x.horizon)]
attribute [go_sem] GShow.encO
structure GL01Cur where
 b:List Int
 i:Int
 h:Int
 deriving DecidableEq
def GL01Cur.encS (x:GL01Cur):List AV:=[.sl (ae (eK .u8) x.b),.lit (.int .i64 x.i),.lit (.int .i64 x.h)]
attribute [go_sem] GL01Cur.encS
def GL01Cur.encO (x:GL01Cur):List AV:=[.own (ae (eK .u8) x.b),.lit (.int .i64 x.i),.lit (.int .i64 x.h)]
attribute [go_sem] GL01Cur.encO
structure GState where
 now:Int
 times:List Int
 values:List Int
 deriving DecidableEq
def GState.encS (x:GState):List AV:=[.lit (.int .i64 x.now),.sl (ae eI x.times),.sl (ae eI x.values)]
attribute [go_sem] GState.encS
def GState.encO (x:GState):List AV:=[.lit (.int .i64 x.now),.own (ae eI x.times),.own (ae eI x.values)]
attribute [go_sem] GState.encO
structure GEntry where
 now:Int
 ties:List Int
 nodes:List Int
 values:List Int
 deriving DecidableEq
def GEntry.encS (x:GEntry):List AV:=[.lit (.int .i64 x.now),.sl (ae eI x.ties),.sl (ae eI x.nodes),.sl (ae eI x.values)]
attribute [go_sem] GEntry.encS
def GEntry.encO (x:GEntry):List AV:=[.lit (.int .i64 x.now),.own (ae eI x.ties),.own (ae eI x.nodes),.own (ae eI x.values)]
theorem BB (xs:List GEntry)(i:Nat)(a0:Int)(a1 a2 a3:List Int):(ae GEntry.encO xs).set i [.lit (.int .i64 a0),.own (ae eI a1),.own (ae eI a2),.own (ae eI a3)]=ae GEntry.encO (xs.set i (GEntry.mk a0 a1 a2 a3)):=nQ (e:=GEntry.encO) xs i (GEntry.mk a0 a1 a2 a3)
theorem BC (xs:List GEntry):(ae GEntry.encO xs).all (fun r=>r.length == 4)=true:=iP (e:=GEntry.encO) (fun _=>rfl) xs
theorem BD (a0:Int)(a1 a2 a3:List Int):[[.lit (.int .i64 a0),.own (ae eI a1),.own (ae eI a2),.own (ae eI a3)]]=ae GEntry.encO [(GEntry.mk a0 a1 a2 a3)]:=rfl
theorem BE (xs:List GEntry):frsR (ae GEntry.encO xs)=true:=ni (e:=GEntry.encO) (fun x=>by simp only [go_sem,GEntry.encO]) xs
theorem zO (xs:List GEntry):cT (ae GEntry.encO xs)=ae GEntry.encS xs:=mq (e:=GEntry.encO) (fun x=>by simp only [go_sem,lN,toSl,GEntry.encO,GEntry.encS]) xs
theorem BF (n:Nat):List.replicate n [.lit (.int .i64 0),.own [],.own [],.own []]=ae GEntry.encO (List.replicate n (GEntry.mk 0 ([]) ([]) ([]))):=jp (e:=GEntry.encO) n (GEntry.mk 0 ([]) ([]) ([]))
attribute [go_sem] GEntry.encO BB BC BD BE zO BF
structure GDesk where
 show_:GShow
 state:GState
 lazy:Bool
 log:List GEntry
 deriving DecidableEq
def GDesk.encS (x:GDesk):List AV:=[.sl (ae GNode.encS x.show_.nodes),.sl (ae GTie.enc x.show_.ties),.lit (.int .i64 x.show_.horizon),.lit (.int .i64 x.state.now),.sl (ae eI x.state.times),.sl (ae eI x.state.values),.lit (.bool x.lazy),.sl (ae GEntry.encS x.log)]
attribute [go_sem] GDesk.encS
def GDesk.encO (x:GDesk):List AV:=[.own (ae GNode.encO x.show_.nodes),.own (ae GTie.enc x.show_.ties),.lit (.int .i64 x.show_.horizon),.lit (.int .i64 x.state.now),.own (ae eI x.state.times),.own (ae eI x.state.values),.lit (.bool x.lazy),.own (ae GEntry.encO x.log)]
attribute [go_sem] GDesk.encO
structure tW where
 lengths:List Int
 values:List Int
 deriving DecidableEq
def tW.encS (x:tW):List AV:=[.sl (ae eI x.lengths),.sl (ae eI x.values)]
attribute [go_sem] tW.encS
def tW.encO (x:tW):List AV:=[.own (ae eI x.lengths),.own (ae eI x.values)]
attribute [go_sem] tW.encO
def spf (f:Nat):Bool:=[72,85,91,173].contains f
@[go_sem] theorem Tf:spf 173=true:=rfl
def mdT:Nat→List AV→Md:=fun n a=>match n with
 | 40=>⟨[0],false⟩
 | 41=>⟨[0],false⟩
 | 42=>⟨[0],false⟩
 | 49=>⟨[0],false⟩
 | 54=>⟨[0],true⟩
 | 55=>⟨[],true⟩
 | 67=>⟨[0],true⟩
 | 72=>⟨[0],true⟩
 | 75=>⟨[0],true⟩
 | 76=>⟨[],true⟩
 | 77=>⟨[0],true⟩
 | 80=>⟨[],true⟩
 | 84=>⟨[0],true⟩
 | 85=>⟨[0],true⟩
 | 86=>⟨[],true⟩
 | 87=>bif spf (fnId a) then ⟨[0,1],true⟩ else ⟨[0],true⟩
 | 88=>⟨[0],true⟩
 | 91=>⟨[0],true⟩
 | 92=>⟨[0],true⟩
 | 104=>⟨[0],false⟩
 | 105=>⟨[0],false⟩
 | 116=>⟨[0],false⟩
 | 117=>⟨[0],false⟩
 | 124=>⟨[0],true⟩
 | 125=>⟨[0],true⟩
 | 126=>⟨[0],true⟩
 | 142=>⟨[0],false⟩
 | 149=>⟨[0],true⟩
 | 151=>⟨[0],true⟩
 | 154=>⟨[0],false⟩
 | 172=>bif spf (fnId a) then ⟨[0,1],true⟩ else ⟨[],false⟩
 | 173=>⟨[1,2],true⟩
 | 204=>⟨[0,1],true⟩
 | 222=>⟨[1000],false⟩
 | 223=>⟨[0],false⟩
 | 249=>⟨[0],false⟩
 | _=>⟨[],false⟩
@[go_sem] theorem md14 (a:List AV):mdT 14 a=⟨[],false⟩:=rfl
@[go_sem] theorem md16 (a:List AV):mdT 16 a=⟨[],false⟩:=rfl
@[go_sem] theorem md17 (a:List AV):mdT 17 a=⟨[],false⟩:=rfl
@[go_sem] theorem md18 (a:List AV):mdT 18 a=⟨[],false⟩:=rfl
@[go_sem] theorem md19 (a:List AV):mdT 19 a=⟨[],false⟩:=rfl
@[go_sem] theorem md20 (a:List AV):mdT 20 a=⟨[],false⟩:=rfl
@[go_sem] theorem md21 (a:List AV):mdT 21 a=⟨[],false⟩:=rfl
@[go_sem] theorem md22 (a:List AV):mdT 22 a=⟨[],false⟩:=rfl
@[go_sem] theorem md23 (a:List AV):mdT 23 a=⟨[],false⟩:=rfl
@[go_sem] theorem md24 (a:List AV):mdT 24 a=⟨[],false⟩:=rfl
@[go_sem] theorem md25 (a:List AV):mdT 25 a=⟨[],false⟩:=rfl
@[go_sem] theorem md26 (a:List AV):mdT 26 a=⟨[],false⟩:=rfl
@[go_sem] theorem md27 (a:List AV):mdT 27 a=⟨[],false⟩:=rfl
@[go_sem] theorem md29 (a:List AV):mdT 29 a=⟨[],false⟩:=rfl
@[go_sem] theorem md31 (a:List AV):mdT 31 a=⟨[],false⟩:=rfl
@[go_sem] theorem md32 (a:List AV):mdT 32 a=⟨[],false⟩:=rfl
@[go_sem] theorem md34 (a:List AV):mdT 34 a=⟨[],false⟩:=rfl
@[go_sem] theorem md35 (a:List AV):mdT 35 a=⟨[],false⟩:=rfl
@[go_sem] theorem md37 (a:List AV):mdT 37 a=⟨[],false⟩:=rfl
@[go_sem] theorem md38 (a:List AV):mdT 38 a=⟨[],false⟩:=rfl
@[go_sem] theorem md39 (a:List AV):mdT 39 a=⟨[],false⟩:=rfl
@[go_sem] theorem md40 (a:List AV):mdT 40 a=⟨[0],false⟩:=rfl
@[go_sem] theorem md41 (a:List AV):mdT 41 a=⟨[0],false⟩:=rfl
@[go_sem] theorem md42 (a:List AV):mdT 42 a=⟨[0],false⟩:=rfl
@[go_sem] theorem md43 (a:List AV):mdT 43 a=⟨[],false⟩:=rfl
@[go_sem] theorem md44 (a:List AV):mdT 44 a=⟨[],false⟩:=rfl
@[go_sem] theorem md46 (a:List AV):mdT 46 a=⟨[],false⟩:=rfl
@[go_sem] theorem md47 (a:List AV):mdT 47 a=⟨[],false⟩:=rfl
@[go_sem] theorem md48 (a:List AV):mdT 48 a=⟨[],false⟩:=rfl
@[go_sem] theorem md49 (a:List AV):mdT 49 a=⟨[0],false⟩:=rfl
@[go_sem] theorem md50 (a:List AV):mdT 50 a=⟨[],false⟩:=rfl
@[go_sem] theorem md52 (a:List AV):mdT 52 a=⟨[],false⟩:=rfl
@[go_sem] theorem md53 (a:List AV):mdT 53 a=⟨[],false⟩:=rfl
@[go_sem] theorem md54 (a:List AV):mdT 54 a=⟨[0],true⟩:=rfl
@[go_sem] theorem md55 (a:List AV):mdT 55 a=⟨[],true⟩:=rfl
@[go_sem] theorem md56 (a:List AV):mdT 56 a=⟨[],false⟩:=rfl
@[go_sem] theorem md57 (a:List AV):mdT 57 a=⟨[],false⟩:=rfl
@[go_sem] theorem md58 (a:List AV):mdT 58 a=⟨[],false⟩:=rfl
@[go_sem] theorem md61 (a:List AV):mdT 61 a=⟨[],false⟩:=rfl
@[go_sem] theorem md62 (a:List AV):mdT 62 a=⟨[],false⟩:=rfl
@[go_sem] theorem md63 (a:List AV):mdT 63 a=⟨[],false⟩:=rfl
@[go_sem] theorem md64 (a:List AV):mdT 64 a=⟨[],false⟩:=rfl
@[go_sem] theorem md65 (a:List AV):mdT 65 a=⟨[],false⟩:=rfl
@[go_sem] theorem md66 (a:List AV):mdT 66 a=⟨[],false⟩:=rfl
@[go_sem] theorem md67 (a:List AV):mdT 67 a=⟨[0],true⟩:=rfl
@[go_sem] theorem md68 (a:List AV):mdT 68 a=⟨[],false⟩:=rfl
@[go_sem] theorem md69 (a:List AV):mdT 69 a=⟨[],false⟩:=rfl
@[go_sem] theorem md70 (a:List AV):mdT 70 a=⟨[],false⟩:=rfl
@[go_sem] theorem md71 (a:List AV):mdT 71 a=⟨[],false⟩:=rfl
@[go_sem] theorem md72 (a:List AV):mdT 72 a=⟨[0],true⟩:=rfl
@[go_sem] theorem md73 (a:List AV):mdT 73 a=⟨[],false⟩:=rfl
@[go_sem] theorem md74 (a:List AV):mdT 74 a=⟨[],false⟩:=rfl
@[go_sem] theorem md75 (a:List AV):mdT 75 a=⟨[0],true⟩:=rfl
@[go_sem] theorem md76 (a:List AV):mdT 76 a=⟨[],true⟩:=rfl
@[go_sem] theorem md77 (a:List AV):mdT 77 a=⟨[0],true⟩:=rfl
@[go_sem] theorem md78 (a:List AV):mdT 78 a=⟨[],false⟩:=rfl
@[go_sem] theorem md79 (a:List AV):mdT 79 a=⟨[],false⟩:=rfl
@[go_sem] theorem md80 (a:List AV):mdT 80 a=⟨[],true⟩:=rfl
@[go_sem] theorem md81 (a:List AV):mdT 81 a=⟨[],false⟩:=rfl
@[go_sem] theorem md82 (a:List AV):mdT 82 a=⟨[],false⟩:=rfl
@[go_sem] theorem md84 (a:List AV):mdT 84 a=⟨[0],true⟩:=rfl
@[go_sem] theorem md86 (a:List AV):mdT 86 a=⟨[],true⟩:=rfl
@[go_sem] theorem md87 (a:List AV):mdT 87 a=bif spf (fnId a) then ⟨[0,1],true⟩ else ⟨[0],true⟩:=rfl
@[go_sem] theorem md88 (a:List AV):mdT 88 a=⟨[0],true⟩:=rfl
@[go_sem] theorem md90 (a:List AV):mdT 90 a=⟨[],false⟩:=rfl
@[go_sem] theorem md91 (a:List AV):mdT 91 a=⟨[0],true⟩:=rfl
@[go_sem] theorem md92 (a:List AV):mdT 92 a=⟨[0],true⟩:=rfl
@[go_sem] theorem md93 (a:List AV):mdT 93 a=⟨[],false⟩:=rfl
@[go_sem] theorem md94 (a:List AV):mdT 94 a=⟨[],false⟩:=rfl
@[go_sem] theorem md95 (a:List AV):mdT 95 a=⟨[],false⟩:=rfl
@[go_sem] theorem md96 (a:List AV):mdT 96 a=⟨[],false⟩:=rfl
@[go_sem] theorem md97 (a:List AV):mdT 97 a=⟨[],false⟩:=rfl
@[go_sem] theorem md99 (a:List AV):mdT 99 a=⟨[],false⟩:=rfl
@[go_sem] theorem Tv (a:List AV):mdT 100 a=⟨[],false⟩:=rfl
@[go_sem] theorem Tw (a:List AV):mdT 101 a=⟨[],false⟩:=rfl
@[go_sem] theorem Tx (a:List AV):mdT 102 a=⟨[],false⟩:=rfl
@[go_sem] theorem Tz (a:List AV):mdT 103 a=⟨[],false⟩:=rfl
@[go_sem] theorem TA (a:List AV):mdT 104 a=⟨[0],false⟩:=rfl
@[go_sem] theorem TB (a:List AV):mdT 105 a=⟨[0],false⟩:=rfl
@[go_sem] theorem TC (a:List AV):mdT 106 a=⟨[],false⟩:=rfl
@[go_sem] theorem TD (a:List AV):mdT 107 a=⟨[],false⟩:=rfl
@[go_sem] theorem TE (a:List AV):mdT 108 a=⟨[],false⟩:=rfl
@[go_sem] theorem TF (a:List AV):mdT 109 a=⟨[],false⟩:=rfl
@[go_sem] theorem TG (a:List AV):mdT 111 a=⟨[],false⟩:=rfl
@[go_sem] theorem TH (a:List AV):mdT 112 a=⟨[],false⟩:=rfl
@[go_sem] theorem TJ (a:List AV):mdT 113 a=⟨[],false⟩:=rfl
@[go_sem] theorem TL (a:List AV):mdT 114 a=⟨[],false⟩:=rfl
@[go_sem] theorem TM (a:List AV):mdT 115 a=⟨[],false⟩:=rfl
@[go_sem] theorem TN (a:List AV):mdT 116 a=⟨[0],false⟩:=rfl
@[go_sem] theorem TO (a:List AV):mdT 117 a=⟨[0],false⟩:=rfl
@[go_sem] theorem TP (a:List AV):mdT 118 a=⟨[],false⟩:=rfl
@[go_sem] theorem TQ (a:List AV):mdT 119 a=⟨[],false⟩:=rfl
@[go_sem] theorem TR (a:List AV):mdT 120 a=⟨[],false⟩:=rfl
@[go_sem] theorem TS (a:List AV):mdT 121 a=⟨[],false⟩:=rfl
@[go_sem] theorem TT (a:List AV):mdT 122 a=⟨[],false⟩:=rfl
@[go_sem] theorem TU (a:List AV):mdT 123 a=⟨[],false⟩:=rfl
@[go_sem] theorem TV (a:List AV):mdT 124 a=⟨[0],true⟩:=rfl
@[go_sem] theorem TW (a:List AV):mdT 125 a=⟨[0],true⟩:=rfl
@[go_sem] theorem TX (a:List AV):mdT 126 a=⟨[0],true⟩:=rfl
@[go_sem] theorem TY (a:List AV):mdT 127 a=⟨[],false⟩:=rfl
@[go_sem] theorem TZ (a:List AV):mdT 128 a=⟨[],false⟩:=rfl
@[go_sem] theorem Ua (a:List AV):mdT 129 a=⟨[],false⟩:=rfl
@[go_sem] theorem Ub (a:List AV):mdT 131 a=⟨[],false⟩:=rfl
@[go_sem] theorem Uc (a:List AV):mdT 132 a=⟨[],false⟩:=rfl
@[go_sem] theorem Ud (a:List AV):mdT 133 a=⟨[],false⟩:=rfl
@[go_sem] theorem Ue (a:List AV):mdT 134 a=⟨[],false⟩:=rfl
@[go_sem] theorem Uf (a:List AV):mdT 135 a=⟨[],false⟩:=rfl
@[go_sem] theorem Ug (a:List AV):mdT 136 a=⟨[],false⟩:=rfl
@[go_sem] theorem Uh (a:List AV):mdT 137 a=⟨[],false⟩:=rfl
@[go_sem] theorem Ui (a:List AV):mdT 138 a=⟨[],false⟩:=rfl
@[go_sem] theorem Uj (a:List AV):mdT 139 a=⟨[],false⟩:=rfl
@[go_sem] theorem Uk (a:List AV):mdT 140 a=⟨[],false⟩:=rfl
@[go_sem] theorem Ul (a:List AV):mdT 141 a=⟨[],false⟩:=rfl
@[go_sem] theorem Um (a:List AV):mdT 142 a=⟨[0],false⟩:=rfl
@[go_sem] theorem Un (a:List AV):mdT 143 a=⟨[],false⟩:=rfl
@[go_sem] theorem Uo (a:List AV):mdT 145 a=⟨[],false⟩:=rfl
@[go_sem] theorem Up (a:List AV):mdT 146 a=⟨[],false⟩:=rfl
@[go_sem] theorem Uq (a:List AV):mdT 147 a=⟨[],false⟩:=rfl
@[go_sem] theorem Ur (a:List AV):mdT 148 a=⟨[],false⟩:=rfl
@[go_sem] theorem Us (a:List AV):mdT 149 a=⟨[0],true⟩:=rfl
@[go_sem] theorem Ut (a:List AV):mdT 150 a=⟨[],false⟩:=rfl
@[go_sem] theorem Uu (a:List AV):mdT 151 a=⟨[0],true⟩:=rfl
@[go_sem] theorem Uv (a:List AV):mdT 152 a=⟨[],false⟩:=rfl
@[go_sem] theorem Uw (a:List AV):mdT 153 a=⟨[],false⟩:=rfl
@[go_sem] theorem Ux (a:List AV):mdT 154 a=⟨[0],false⟩:=rfl
@[go_sem] theorem Uy (a:List AV):mdT 155 a=⟨[],false⟩:=rfl
@[go_sem] theorem Uz (a:List AV):mdT 157 a=⟨[],false⟩:=rfl
@[go_sem] theorem UA (a:List AV):mdT 158 a=⟨[],false⟩:=rfl
@[go_sem] theorem UB (a:List AV):mdT 160 a=⟨[],false⟩:=rfl
@[go_sem] theorem UC (a:List AV):mdT 161 a=⟨[],false⟩:=rfl
@[go_sem] theorem UD (a:List AV):mdT 162 a=⟨[],false⟩:=rfl
@[go_sem] theorem UE (a:List AV):mdT 163 a=⟨[],false⟩:=rfl
@[go_sem] theorem UF (a:List AV):mdT 165 a=⟨[],false⟩:=rfl
@[go_sem] theorem UG (a:List AV):mdT 166 a=⟨[],false⟩:=rfl
@[go_sem] theorem UH (a:List AV):mdT 167 a=⟨[],false⟩:=rfl
@[go_sem] theorem UI (a:List AV):mdT 168 a=⟨[],false⟩:=rfl
@[go_sem] theorem UJ (a:List AV):mdT 170 a=⟨[],false⟩:=rfl
@[go_sem] theorem UK (a:List AV):mdT 171 a=⟨[],false⟩:=rfl
@[go_sem] theorem UL (a:List AV):mdT 172 a=bif spf (fnId a) then ⟨[0,1],true⟩ else ⟨[],false⟩:=rfl
@[go_sem] theorem UM (a:List AV):mdT 173 a=⟨[1,2],true⟩:=rfl
@[go_sem] theorem UN (a:List AV):mdT 174 a=⟨[],false⟩:=rfl
@[go_sem] theorem UO (a:List AV):mdT 175 a=⟨[],false⟩:=rfl
@[go_sem] theorem UP (a:List AV):mdT 176 a=⟨[],false⟩:=rfl
@[go_sem] theorem UQ (a:List AV):mdT 177 a=⟨[],false⟩:=rfl
@[go_sem] theorem UR (a:List AV):mdT 178 a=⟨[],false⟩:=rfl
@[go_sem] theorem US (a:List AV):mdT 179 a=⟨[],false⟩:=rfl
@[go_sem] theorem UT (a:List AV):mdT 180 a=⟨[],false⟩:=rfl
@[go_sem] theorem UU (a:List AV):mdT 181 a=⟨[],false⟩:=rfl
@[go_sem] theorem UV (a:List AV):mdT 182 a=⟨[],false⟩:=rfl
@[go_sem] theorem UW (a:List AV):mdT 183 a=⟨[],false⟩:=rfl
@[go_sem] theorem UX (a:List AV):mdT 184 a=⟨[],false⟩:=rfl
@[go_sem] theorem UY (a:List AV):mdT 185 a=⟨[],false⟩:=rfl
@[go_sem] theorem UZ (a:List AV):mdT 186 a=⟨[],false⟩:=rfl
@[go_sem] theorem Va (a:List AV):mdT 187 a=⟨[],false⟩:=rfl
@[go_sem] theorem Vb (a:List AV):mdT 188 a=⟨[],false⟩:=rfl
@[go_sem] theorem Vc (a:List AV):mdT 189 a=⟨[],false⟩:=rfl
@[go_sem] theorem Vd (a:List AV):mdT 190 a=⟨[],false⟩:=rfl
@[go_sem] theorem Ve (a:List AV):mdT 191 a=⟨[],false⟩:=rfl
@[go_sem] theorem Vf (a:List AV):mdT 192 a=⟨[],false⟩:=rfl
@[go_sem] theorem Vg (a:List AV):mdT 193 a=⟨[],false⟩:=rfl
@[go_sem] theorem Vh (a:List AV):mdT 194 a=⟨[],false⟩:=rfl
@[go_sem] theorem Vi (a:List AV):mdT 195 a=⟨[],false⟩:=rfl
@[go_sem] theorem Vj (a:List AV):mdT 196 a=⟨[],false⟩:=rfl
@[go_sem] theorem Vk (a:List AV):mdT 197 a=⟨[],false⟩:=rfl
@[go_sem] theorem Vl (a:List AV):mdT 198 a=⟨[],false⟩:=rfl
@[go_sem] theorem Vm (a:List AV):mdT 199 a=⟨[],false⟩:=rfl
@[go_sem] theorem Vn (a:List AV):mdT 200 a=⟨[],false⟩:=rfl
@[go_sem] theorem Vo (a:List AV):mdT 201 a=⟨[],false⟩:=rfl
@[go_sem] theorem Vp (a:List AV):mdT 202 a=⟨[],false⟩:=rfl
@[go_sem] theorem Vq (a:List AV):mdT 203 a=⟨[],false⟩:=rfl
@[go_sem] theorem Vr (a:List AV):mdT 204 a=⟨[0,1],true⟩:=rfl
@[go_sem] theorem Vs (a:List AV):mdT 205 a=⟨[],false⟩:=rfl
@[go_sem] theorem Vt (a:List AV):mdT 206 a=⟨[],false⟩:=rfl
@[go_sem] theorem Vu (a:List AV):mdT 207 a=⟨[],false⟩:=rfl
@[go_sem] theorem Vv (a:List AV):mdT 209 a=⟨[],false⟩:=rfl
@[go_sem] theorem Vw (a:List AV):mdT 210 a=⟨[],false⟩:=rfl
@[go_sem] theorem Vx (a:List AV):mdT 211 a=⟨[],false⟩:=rfl
@[go_sem] theorem Vy (a:List AV):mdT 212 a=⟨[],false⟩:=rfl
@[go_sem] theorem Vz (a:List AV):mdT 213 a=⟨[],false⟩:=rfl
@[go_sem] theorem VA (a:List AV):mdT 214 a=⟨[],false⟩:=rfl
@[go_sem] theorem VB (a:List AV):mdT 215 a=⟨[],false⟩:=rfl
@[go_sem] theorem VC (a:List AV):mdT 217 a=⟨[],false⟩:=rfl
@[go_sem] theorem VD (a:List AV):mdT 218 a=⟨[],false⟩:=rfl
@[go_sem] theorem VE (a:List AV):mdT 219 a=⟨[],false⟩:=rfl
@[go_sem] theorem VG (a:List AV):mdT 220 a=⟨[],false⟩:=rfl
@[go_sem] theorem VH (a:List AV):mdT 221 a=⟨[],false⟩:=rfl
@[go_sem] theorem VI (a:List AV):mdT 222 a=⟨[1000],false⟩:=rfl
@[go_sem] theorem VJ (a:List AV):mdT 223 a=⟨[0],false⟩:=rfl
@[go_sem] theorem VK (a:List AV):mdT 224 a=⟨[],false⟩:=rfl
@[go_sem] theorem VL (a:List AV):mdT 225 a=⟨[],false⟩:=rfl
@[go_sem] theorem VM (a:List AV):mdT 226 a=⟨[],false⟩:=rfl
@[go_sem] theorem VN (a:List AV):mdT 227 a=⟨[],false⟩:=rfl
@[go_sem] theorem VO (a:List AV):mdT 229 a=⟨[],false⟩:=rfl
@[go_sem] theorem VP (a:List AV):mdT 230 a=⟨[],false⟩:=rfl
@[go_sem] theorem VQ (a:List AV):mdT 231 a=⟨[],false⟩:=rfl
@[go_sem] theorem VR (a:List AV):mdT 232 a=⟨[],false⟩:=rfl
@[go_sem] theorem VS (a:List AV):mdT 233 a=⟨[],false⟩:=rfl
@[go_sem] theorem VT (a:List AV):mdT 234 a=⟨[],false⟩:=rfl
@[go_sem] theorem VU (a:List AV):mdT 235 a=⟨[],false⟩:=rfl
@[go_sem] theorem VV (a:List AV):mdT 236 a=⟨[],false⟩:=rfl
@[go_sem] theorem VW (a:List AV):mdT 237 a=⟨[],false⟩:=rfl
@[go_sem] theorem VX (a:List AV):mdT 238 a=⟨[],false⟩:=rfl
@[go_sem] theorem VY (a:List AV):mdT 239 a=⟨[],false⟩:=rfl
@[go_sem] theorem VZ (a:List AV):mdT 242 a=⟨[],false⟩:=rfl
@[go_sem] theorem Wa (a:List AV):mdT 243 a=⟨[],false⟩:=rfl
@[go_sem] theorem Wb (a:List AV):mdT 244 a=⟨[],false⟩:=rfl
@[go_sem] theorem Wc (a:List AV):mdT 245 a=⟨[],false⟩:=rfl
@[go_sem] theorem Wd (a:List AV):mdT 246 a=⟨[],false⟩:=rfl
@[go_sem] theorem We (a:List AV):mdT 247 a=⟨[],false⟩:=rfl
@[go_sem] theorem Wf (a:List AV):mdT 249 a=⟨[0],false⟩:=rfl
@[go_sem] theorem Wg (a:List AV):mdT 255 a=⟨[],false⟩:=rfl
@[go_sem] theorem Wh (a:List AV):mdT 259 a=⟨[],false⟩:=rfl
@[go_sem] theorem Wi (a:List AV):mdT 260 a=⟨[],false⟩:=rfl
@[go_sem] theorem Wj (a:List AV):mdT 261 a=⟨[],false⟩:=rfl
@[go_sem] theorem Wk (a:List AV):mdT 262 a=⟨[],false⟩:=rfl
@[go_sem] theorem Wl (a:List AV):mdT 263 a=⟨[],false⟩:=rfl
@[go_sem] theorem Wm (a:List AV):mdT 264 a=⟨[],false⟩:=rfl
@[go_sem] theorem Wn (a:List AV):mdT 265 a=⟨[],false⟩:=rfl
@[go_sem] theorem Wo (a:List AV):mdT 266 a=⟨[],false⟩:=rfl
@[go_sem] theorem Wp (a:List AV):mdT 272 a=⟨[],false⟩:=rfl
@[go_sem] theorem Wq (a:List AV):mdT 274 a=⟨[],false⟩:=rfl
end Go.Proofs.QB
