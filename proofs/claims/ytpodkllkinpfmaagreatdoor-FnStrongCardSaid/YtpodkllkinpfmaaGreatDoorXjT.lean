/- The types of the seat,and that they fit. Made by gentypes.py. -/
import Derived.Test.YtpodkllkinpfmaaGreatDoorXj31
import Derived.KernelRfl
import Derived.Test.YtpodkllkinpfmaaGreatDoorProg
set_option linter.all false
namespace Go.Proofs.Qj
open Go Tryz
def unkTy:Ty:=⟨.unknown,0,0,[],none⟩
def ty1:Ty:=⟨.other,1,8,[Go.Value.nilFunc],none⟩
def ty2:Ty:=⟨.int .i64,1,8,[Go.Value.int Go.IntKind.i64 0],none⟩
def ty3:Ty:=⟨.int .i64,1,8,[Go.Value.int Go.IntKind.i64 0],none⟩
def ty4:Ty:=⟨.bool,1,1,[Go.Value.bool false],none⟩
def ty5:Ty:=⟨.int .u8,1,1,[Go.Value.int Go.IntKind.u8 0],none⟩
def ty6:Ty:=⟨.int .u8,1,1,[Go.Value.int Go.IntKind.u8 0],none⟩
def ty7:Ty:=⟨.struct [(0,2),(1,3),(2,4),(3,6)],4,24,[Go.Value.int Go.IntKind.i64 0,Go.Value.int Go.IntKind.i64 0,Go.Value.bool false,Go.Value.int Go.IntKind.u8 0],none⟩
def ty8:Ty:=⟨.struct [(0,2),(1,3),(2,4),(3,6)],4,24,[Go.Value.int Go.IntKind.i64 0,Go.Value.int Go.IntKind.i64 0,Go.Value.bool false,Go.Value.int Go.IntKind.u8 0],none⟩
def ty9:Ty:=⟨.str,1,16,[Go.Value.string { data:=#[] }],none⟩
def ty10:Ty:=⟨.str,1,16,[Go.Value.string { data:=#[] }],none⟩
def ty20:Ty:=⟨.other,1,16,[Go.Value.nilIface],none⟩
def ty22:Ty:=⟨.slice 185,1,24,[Go.Value.slice none 0 0],none⟩
def ty23:Ty:=⟨.slice 205,1,24,[Go.Value.slice none 0 0],none⟩
def ty25:Ty:=⟨.struct [(0,22),(1,23),(2,3)],3,56,[Go.Value.slice none 0 0,Go.Value.slice none 0 0,Go.Value.int Go.IntKind.i64 0],none⟩
def ty26:Ty:=⟨.slice 3,1,24,[Go.Value.slice none 0 0],none⟩
def ty28:Ty:=⟨.struct [(0,26),(1,26)],2,48,[Go.Value.slice none 0 0,Go.Value.slice none 0 0],none⟩
def ty31:Ty:=⟨.slice 9,1,24,[Go.Value.slice none 0 0],none⟩
def ty33:Ty:=⟨.slice 109,1,24,[Go.Value.slice none 0 0],none⟩
def ty34:Ty:=⟨.slice 133,1,24,[Go.Value.slice none 0 0],none⟩
def ty36:Ty:=⟨.struct [(0,33),(1,34),(2,3)],3,56,[Go.Value.slice none 0 0,Go.Value.slice none 0 0,Go.Value.int Go.IntKind.i64 0],none⟩
def ty38:Ty:=⟨.struct [(0,26),(1,26)],2,48,[Go.Value.slice none 0 0,Go.Value.slice none 0 0],none⟩
def ty47:Ty:=⟨.slice 5,1,24,[Go.Value.slice none 0 0],none⟩
def ty60:Ty:=⟨.struct [(0,3),(1,26),(2,26)],3,56,[Go.Value.int Go.IntKind.i64 0,Go.Value.slice none 0 0,Go.Value.slice none 0 0],none⟩
def ty61:Ty:=⟨.slice 147,1,24,[Go.Value.slice none 0 0],none⟩
def ty63:Ty:=⟨.struct [(0,36),(3,60),(6,4),(7,61)],8,144,[Go.Value.slice none 0 0,Go.Value.slice none 0 0,Go.Value.int Go.IntKind.i64 0,Go.Value.int Go.IntKind.i64 0,Go.Value.slice none 0 0,Go.Value.slice none 0 0,Go.Value.bool false,Go.Value.slice none 0 0],none⟩
def ty77:Ty:=⟨.slice 156,1,24,[Go.Value.slice none 0 0],none⟩
def ty79:Ty:=⟨.struct [(0,77),(1,26),(2,3)],3,56,[Go.Value.slice none 0 0,Go.Value.slice none 0 0,Go.Value.int Go.IntKind.i64 0],none⟩
def ty92:Ty:=⟨.slice 253,1,24,[Go.Value.slice none 0 0],none⟩
def ty94:Ty:=⟨.struct [(0,92),(1,26),(2,3)],3,56,[Go.Value.slice none 0 0,Go.Value.slice none 0 0,Go.Value.int Go.IntKind.i64 0],none⟩
def ty102:Ty:=⟨.slice 188,1,24,[Go.Value.slice none 0 0],none⟩
def ty104:Ty:=⟨.struct [(0,3),(1,102)],2,32,[Go.Value.int Go.IntKind.i64 0,Go.Value.slice none 0 0],none⟩
def ty109:Ty:=⟨.struct [(0,9),(1,26),(2,3)],3,48,[Go.Value.string { data:=#[] },Go.Value.slice none 0 0,Go.Value.int Go.IntKind.i64 0],none⟩
def ty111:Ty:=⟨.struct [(0,3),(1,3)],2,16,[Go.Value.int Go.IntKind.i64 0,Go.Value.int Go.IntKind.i64 0],some [(0,3),(1,3)]⟩
def ty125:Ty:=⟨.other,1,8,[Go.Value.pointer none],none⟩
def ty133:Ty:=⟨.struct [(0,3),(1,3),(2,3),(3,3),(4,4)],5,40,[Go.Value.int Go.IntKind.i64 0,Go.Value.int Go.IntKind.i64 0,Go.Value.int Go.IntKind.i64 0,Go.Value.int Go.IntKind.i64 0,Go.Value.bool false],some [(0,3),(1,3),(2,3),(3,3),(4,4)]⟩
def ty147:Ty:=⟨.struct [(0,3),(1,26),(2,26),(3,26)],4,80,[Go.Value.int Go.IntKind.i64 0,Go.Value.slice none 0 0,Go.Value.slice none 0 0,Go.Value.slice none 0 0],none⟩
def ty156:Ty:=⟨.struct [(0,9),(1,3),(2,4),(3,3),(4,3),(5,3),(6,3),(7,4),(8,3),(9,3),(10,3)],11,96,[Go.Value.string { data:=#[] },Go.Value.int Go.IntKind.i64 0,Go.Value.bool false,Go.Value.int Go.IntKind.i64 0,Go.Value.int Go.IntKind.i64 0,Go.Value.int Go.IntKind.i64 0,Go.Value.int Go.IntKind.i64 0,Go.Value.bool false,Go.Value.int Go.IntKind.i64 0,Go.Value.int Go.IntKind.i64 0,Go.Value.int Go.IntKind.i64 0],some [(0,9),(1,3),(2,4),(3,3),(4,3),(5,3),(6,3),(7,4),(8,3),(9,3),(10,3)]⟩
def ty163:Ty:=⟨.other,1,8,[Go.Value.nilFunc],none⟩
def ty164:Ty:=⟨.other,1,8,[Go.Value.pointer none],none⟩
def ty167:Ty:=⟨.slice 26,1,24,[Go.Value.slice none 0 0],none⟩
def ty185:Ty:=⟨.struct [(0,9),(1,26),(2,3)],3,48,[Go.Value.string { data:=#[] },Go.Value.slice none 0 0,Go.Value.int Go.IntKind.i64 0],none⟩
def ty186:Ty:=⟨.slice 4,1,24,[Go.Value.slice none 0 0],none⟩
def ty188:Ty:=⟨.struct [(0,3),(1,3),(2,111)],4,32,[Go.Value.int Go.IntKind.i64 0,Go.Value.int Go.IntKind.i64 0,Go.Value.int Go.IntKind.i64 0,Go.Value.int Go.IntKind.i64 0],none⟩
def ty192:Ty:=⟨.slice 260,1,24,[Go.Value.slice none 0 0],none⟩
def ty194:Ty:=⟨.struct [(0,3),(1,192)],2,32,[Go.Value.int Go.IntKind.i64 0,Go.Value.slice none 0 0],none⟩
def ty198:Ty:=⟨.struct [(0,3),(1,26)],2,32,[Go.Value.int Go.IntKind.i64 0,Go.Value.slice none 0 0],none⟩
def ty205:Ty:=⟨.struct [(0,3),(1,3),(2,3),(3,3),(4,4)],5,40,[Go.Value.int Go.IntKind.i64 0,Go.Value.int Go.IntKind.i64 0,Go.Value.int Go.IntKind.i64 0,Go.Value.int Go.IntKind.i64 0,Go.Value.bool false],some [(0,3),(1,3),(2,3),(3,3),(4,4)]⟩
def ty213:Ty:=⟨.struct [(0,47),(1,3),(2,3)],3,40,[Go.Value.slice none 0 0,Go.Value.int Go.IntKind.i64 0,Go.Value.int Go.IntKind.i64 0],none⟩
def ty217:Ty:=⟨.other,1,8,[Go.Value.nilFunc],none⟩
def ty219:Ty:=⟨.other,1,8,[Go.Value.nilFunc],none⟩
def ty222:Ty:=⟨.other,1,8,[Go.Value.nilFunc],none⟩
def ty233:Ty:=⟨.other,1,8,[Go.Value.nilFunc],none⟩
def ty235:Ty:=⟨.other,1,8,[Go.Value.nilFunc],none⟩
def ty239:Ty:=⟨.other,1,8,[Go.Value.nilFunc],none⟩
def ty241:Ty:=⟨.map 9 4,1,8,[Go.Value.map none],none⟩
def ty243:Ty:=⟨.struct [(0,36),(3,241)],4,64,[Go.Value.slice none 0 0,Go.Value.slice none 0 0,Go.Value.int Go.IntKind.i64 0,Go.Value.map none],none⟩
def ty250:Ty:=⟨.int .u64,1,8,[Go.Value.int Go.IntKind.u64 0],none⟩
def ty253:Ty:=⟨.struct [(0,9),(1,3),(2,4),(3,3),(4,3),(5,3),(6,3),(7,4),(8,3),(9,3),(10,3)],11,96,[Go.Value.string { data:=#[] },Go.Value.int Go.IntKind.i64 0,Go.Value.bool false,Go.Value.int Go.IntKind.i64 0,Go.Value.int Go.IntKind.i64 0,Go.Value.int Go.IntKind.i64 0,Go.Value.int Go.IntKind.i64 0,Go.Value.bool false,Go.Value.int Go.IntKind.i64 0,Go.Value.int Go.IntKind.i64 0,Go.Value.int Go.IntKind.i64 0],some [(0,9),(1,3),(2,4),(3,3),(4,3),(5,3),(6,3),(7,4),(8,3),(9,3),(10,3)]⟩
def ty260:Ty:=⟨.struct [(0,3),(1,3),(2,3)],3,24,[Go.Value.int Go.IntKind.i64 0,Go.Value.int Go.IntKind.i64 0,Go.Value.int Go.IntKind.i64 0],some [(0,3),(1,3),(2,3)]⟩
def ty266:Ty:=⟨.other,1,8,[Go.Value.nilFunc],none⟩
def ty269:Ty:=⟨.other,1,8,[Go.Value.nilFunc],none⟩
def ty282:Ty:=⟨.other,1,8,[Go.Value.pointer none],none⟩
def ty284:Ty:=⟨.struct [(0,282),(1,47)],2,32,[Go.Value.pointer none,Go.Value.slice none 0 0],none⟩
def ty298:Ty:=⟨.other,1,8,[Go.Value.nilFunc],none⟩
def ty299:Ty:=⟨.int .u32,1,4,[Go.Value.int Go.IntKind.u32 0],none⟩
def ty302:Ty:=⟨.int .u64,1,8,[Go.Value.int Go.IntKind.u64 0],none⟩
def ty310:Ty:=⟨.int .i64,1,8,[Go.Value.int Go.IntKind.i64 0],none⟩
def tys:List Ty:=[unkTy,ty1,ty2,ty3,ty4,ty5,ty6,ty7,ty8,ty9,ty10,unkTy,unkTy,unkTy,unkTy,unkTy,unkTy,unkTy,unkTy,unkTy,ty20,unkTy,ty22,ty23,unkTy,ty25,ty26,unkTy,ty28,unkTy,unkTy,ty31,unkTy,ty33,ty34,unkTy,ty36,unkTy,ty38,unkTy,unkTy,unkTy,unkTy,unkTy,unkTy,unkTy,unkTy,ty47,unkTy,unkTy,unkTy,unkTy,unkTy,unkTy,unkTy,unkTy,unkTy,unkTy,unkTy,unkTy,ty60,ty61,unkTy,ty63,unkTy,unkTy,unkTy,unkTy,unkTy,unkTy,unkTy,unkTy,unkTy,unkTy,unkTy,unkTy,unkTy,ty77,unkTy,ty79,unkTy,unkTy,unkTy,unkTy,unkTy,unkTy,unkTy,unkTy,unkTy,unkTy,unkTy,unkTy,ty92,unkTy,ty94,unkTy,unkTy,unkTy,unkTy,unkTy,unkTy,unkTy,ty102,unkTy,ty104,unkTy,unkTy,unkTy,unkTy,ty109,unkTy,ty111,unkTy,unkTy,unkTy,unkTy,unkTy,unkTy,unkTy,unkTy,unkTy,unkTy,unkTy,unkTy,unkTy,ty125,unkTy,unkTy,unkTy,unkTy,unkTy,unkTy,unkTy,ty133,unkTy,unkTy,unkTy,unkTy,unkTy,unkTy,unkTy,unkTy,unkTy,unkTy,unkTy,unkTy,unkTy,ty147,unkTy,unkTy,unkTy,unkTy,unkTy,unkTy,unkTy,unkTy,ty156,unkTy,unkTy,unkTy,unkTy,unkTy,unkTy,ty163,ty164,unkTy,unkTy,ty167,unkTy,unkTy,unkTy,unkTy,unkTy,unkTy,unkTy,unkTy,unkTy,unkTy,unkTy,unkTy,unkTy,unkTy,unkTy,unkTy,unkTy,ty185,ty186,unkTy,ty188,unkTy,unkTy,unkTy,ty192,unkTy,ty194,unkTy,unkTy,unkTy,ty198,unkTy,unkTy,unkTy,unkTy,unkTy,unkTy,ty205,unkTy,unkTy,unkTy,unkTy,unkTy,unkTy,unkTy,ty213,unkTy,unkTy,unkTy,ty217,unkTy,ty219,unkTy,unkTy,ty222,unkTy,unkTy,unkTy,unkTy,unkTy,unkTy,unkTy,unkTy,unkTy,unkTy,ty233,unkTy,ty235,unkTy,unkTy,unkTy,ty239,unkTy,ty241,unkTy,ty243,unkTy,unkTy,unkTy,unkTy,unkTy,unkTy,ty250,unkTy,unkTy,ty253,unkTy,unkTy,unkTy,unkTy,unkTy,unkTy,ty260,unkTy,unkTy,unkTy,unkTy,unkTy,ty266,unkTy,unkTy,ty269,unkTy,unkTy,unkTy,unkTy,unkTy,unkTy,unkTy,unkTy,unkTy,unkTy,unkTy,unkTy,ty282,unkTy,ty284,unkTy,unkTy,unkTy,unkTy,unkTy,unkTy,unkTy,unkTy,unkTy,unkTy,unkTy,unkTy,unkTy,ty298,ty299,unkTy,unkTy,ty302,unkTy,unkTy,unkTy,unkTy,unkTy,unkTy,unkTy,ty310]
def T (t:Nat):Ty:=tys.getD t unkTy
inductive bc (P:Program):Nat→List Ty→Prop
 | nil (k:Nat):bc P k []
 | cons {k:Nat} {ty:Ty} {l:List Ty} (h:TyOk P k ty) (r:bc P (k+1) l):bc P k (ty::l)
theorem bc.get {P:Program}:∀ {l:List Ty} {k:Nat},bc P k l→∀ i,TyOk P (k+i) (l.getD i unkTy)
 | _,_,.nil _,i=>by simp[unkTy,TyOk]
 | _,_,.cons h r,0=>h
 | _,_,.cons (k:=k) h r,i+1=>by
  have:=r.get i
  rw[show k+1+i=k+(i+1) by omega]at this
  simpa using this
theorem ae (P:Program)(t:Nat):TyOk P t unkTy:=by simp[unkTy,TyOk]
theorem aE {P:Program}{t:Nat}{ty:Ty}{i:TypeInfo}{z:Value}(hs:t<P.types.size)(h1:P.types[t]?=some i)(h2:i.zero=some z)(h:i.size=ty.size∧i.bytes=ty.bytes∧z.cells.toList=ty.zero∧ty.zero.length=ty.size)(h3:ty.zero.all (fun v=>v.oneCell')=true)(h4:de P t ty.kind)(h5:∀ fs,ty.eqs=some fs→∃ fields:Array Field,P.underlying t=some (.struct fields)∧fields.toList.map (fun f=>(f.offset,f.type))=fs∧(∀ f,f∈fields.toList→f.name ≠ "_")∧P.stoodInHeld t=false∧P.eqGuardType P.depth t=false):TyOk P t ty:=by
 unfold TyOk
 split
 ·trivial
 exact⟨⟨i,z,(by unfold Tables.info?;rw[if_pos hs];exact h1),h.1,h.2.1,h2,h.2.2.1,h.2.2.2⟩,fun v hv=>List.all_eq_true.1 h3 v hv,h4,h5⟩
theorem NE:TyOk prog 1 ty1:=aE (i:=Tryz.t1) (by rw[types_size];decide) type1 rfl ⟨rfl,rfl,rfl,rfl⟩ rfl (by exact⟨_,underlying1,rfl⟩) (by intro fs h;cases h)
theorem NF:TyOk prog 2 ty2:=aE (i:=Tryz.t2) (by rw[types_size];decide) type2 rfl ⟨rfl,rfl,rfl,rfl⟩ rfl (by exact underlying2) (by intro fs h;cases h)
theorem NG:TyOk prog 3 ty3:=aE (i:=Tryz.t3) (by rw[types_size];decide) type3 rfl ⟨rfl,rfl,rfl,rfl⟩ rfl (by exact underlying3) (by intro fs h;cases h)
theorem NH:TyOk prog 4 ty4:=aE (i:=Tryz.t4) (by rw[types_size];decide) type4 rfl ⟨rfl,rfl,rfl,rfl⟩ rfl (by exact underlying4) (by intro fs h;cases h)
theorem NI:TyOk prog 5 ty5:=aE (i:=Tryz.t5) (by rw[types_size];decide) type5 rfl ⟨rfl,rfl,rfl,rfl⟩ rfl (by exact underlying5) (by intro fs h;cases h)
theorem NJ:TyOk prog 6 ty6:=aE (i:=Tryz.t6) (by rw[types_size];decide) type6 rfl ⟨rfl,rfl,rfl,rfl⟩ rfl (by exact underlying6) (by intro fs h;cases h)
theorem NK:TyOk prog 7 ty7:=aE (i:=Tryz.t7) (by rw[types_size];decide) type7 rfl ⟨rfl,rfl,rfl,rfl⟩ rfl (by exact⟨_,underlying7,rfl⟩) (by intro fs h;cases h)
theorem NL:TyOk prog 8 ty8:=aE (i:=Tryz.t8) (by rw[types_size];decide) type8 rfl ⟨rfl,rfl,rfl,rfl⟩ rfl (by exact⟨_,underlying8,rfl⟩) (by intro fs h;cases h)
theorem NM:TyOk prog 9 ty9:=aE (i:=Tryz.t9) (by rw[types_size];decide) type9 rfl ⟨rfl,rfl,rfl,rfl⟩ rfl (by exact underlying9) (by intro fs h;cases h)
theorem MH:TyOk prog 10 ty10:=aE (i:=Tryz.t10) (by rw[types_size];decide) type10 rfl ⟨rfl,rfl,rfl,rfl⟩ rfl (by exact underlying10) (by intro fs h;cases h)
theorem MI:TyOk prog 20 ty20:=aE (i:=Tryz.t20) (by rw[types_size];decide) type20 rfl ⟨rfl,rfl,rfl,rfl⟩ rfl (by exact⟨_,underlying20,rfl⟩) (by intro fs h;cases h)
theorem MJ:TyOk prog 22 ty22:=aE (i:=Tryz.t22) (by rw[types_size];decide) type22 rfl ⟨rfl,rfl,rfl,rfl⟩ rfl (by exact underlying22) (by intro fs h;cases h)
theorem MK:TyOk prog 23 ty23:=aE (i:=Tryz.t23) (by rw[types_size];decide) type23 rfl ⟨rfl,rfl,rfl,rfl⟩ rfl (by exact underlying23) (by intro fs h;cases h)
theorem ML:TyOk prog 25 ty25:=aE (i:=Tryz.t25) (by rw[types_size];decide) type25 rfl ⟨rfl,rfl,rfl,rfl⟩ rfl (by exact⟨_,underlying25,rfl⟩) (by intro fs h;cases h)
theorem MM:TyOk prog 26 ty26:=aE (i:=Tryz.t26) (by rw[types_size];decide) type26 rfl ⟨rfl,rfl,rfl,rfl⟩ rfl (by exact underlying26) (by intro fs h;cases h)
theorem MN:TyOk prog 28 ty28:=aE (i:=Tryz.t28) (by rw[types_size];decide) type28 rfl ⟨rfl,rfl,rfl,rfl⟩ rfl (by exact⟨_,underlying28,rfl⟩) (by intro fs h;cases h)
theorem MO:TyOk prog 31 ty31:=aE (i:=Tryz.t31) (by rw[types_size];decide) type31 rfl ⟨rfl,rfl,rfl,rfl⟩ rfl (by exact underlying31) (by intro fs h;cases h)
theorem MP:TyOk prog 33 ty33:=aE (i:=Tryz.t33) (by rw[types_size];decide) type33 rfl ⟨rfl,rfl,rfl,rfl⟩ rfl (by exact underlying33) (by intro fs h;cases h)
theorem MQ:TyOk prog 34 ty34:=aE (i:=Tryz.t34) (by rw[types_size];decide) type34 rfl ⟨rfl,rfl,rfl,rfl⟩ rfl (by exact underlying34) (by intro fs h;cases h)
theorem MR:TyOk prog 36 ty36:=aE (i:=Tryz.t36) (by rw[types_size];decide) type36 rfl ⟨rfl,rfl,rfl,rfl⟩ rfl (by exact⟨_,underlying36,rfl⟩) (by intro fs h;cases h)
theorem MS:TyOk prog 38 ty38:=aE (i:=Tryz.t38) (by rw[types_size];decide) type38 rfl ⟨rfl,rfl,rfl,rfl⟩ rfl (by exact⟨_,underlying38,rfl⟩) (by intro fs h;cases h)
theorem MT:TyOk prog 47 ty47:=aE (i:=Tryz.t47) (by rw[types_size];decide) type47 rfl ⟨rfl,rfl,rfl,rfl⟩ rfl (by exact underlying47) (by intro fs h;cases h)
theorem MU:TyOk prog 60 ty60:=aE (i:=Tryz.t60) (by rw[types_size];decide) type60 rfl ⟨rfl,rfl,rfl,rfl⟩ rfl (by exact⟨_,underlying60,rfl⟩) (by intro fs h;cases h)
theorem MV:TyOk prog 61 ty61:=aE (i:=Tryz.t61) (by rw[types_size];decide) type61 rfl ⟨rfl,rfl,rfl,rfl⟩ rfl (by exact underlying61) (by intro fs h;cases h)
theorem MW:TyOk prog 63 ty63:=aE (i:=Tryz.t63) (by rw[types_size];decide) type63 rfl ⟨rfl,rfl,rfl,rfl⟩ rfl (by exact⟨_,underlying63,rfl⟩) (by intro fs h;cases h)
theorem MX:TyOk prog 77 ty77:=aE (i:=Tryz.t77) (by rw[types_size];decide) type77 rfl ⟨rfl,rfl,rfl,rfl⟩ rfl (by exact underlying77) (by intro fs h;cases h)
theorem MY:TyOk prog 79 ty79:=aE (i:=Tryz.t79) (by rw[types_size];decide) type79 rfl ⟨rfl,rfl,rfl,rfl⟩ rfl (by exact⟨_,underlying79,rfl⟩) (by intro fs h;cases h)
theorem MZ:TyOk prog 92 ty92:=aE (i:=Tryz.t92) (by rw[types_size];decide) type92 rfl ⟨rfl,rfl,rfl,rfl⟩ rfl (by exact underlying92) (by intro fs h;cases h)
theorem Na:TyOk prog 94 ty94:=aE (i:=Tryz.t94) (by rw[types_size];decide) type94 rfl ⟨rfl,rfl,rfl,rfl⟩ rfl (by exact⟨_,underlying94,rfl⟩) (by intro fs h;cases h)
theorem JZ:TyOk prog 102 ty102:=aE (i:=Tryz.t102) (by rw[types_size];decide) type102 rfl ⟨rfl,rfl,rfl,rfl⟩ rfl (by exact underlying102) (by intro fs h;cases h)
theorem Ka:TyOk prog 104 ty104:=aE (i:=Tryz.t104) (by rw[types_size];decide) type104 rfl ⟨rfl,rfl,rfl,rfl⟩ rfl (by exact⟨_,underlying104,rfl⟩) (by intro fs h;cases h)
theorem Kb:TyOk prog 109 ty109:=aE (i:=Tryz.t109) (by rw[types_size];decide) type109 rfl ⟨rfl,rfl,rfl,rfl⟩ rfl (by exact⟨_,underlying109,rfl⟩) (by intro fs h;cases h)
theorem Kc:TyOk prog 111 ty111:=aE (i:=Tryz.t111) (by rw[types_size];decide) type111 rfl ⟨rfl,rfl,rfl,rfl⟩ rfl (by exact⟨_,underlying111,rfl⟩) (by intro fs h;cases h;exact⟨_,underlying111,rfl,by decide,by kernel_rfl,by kernel_rfl⟩)
theorem Kd:TyOk prog 125 ty125:=aE (i:=Tryz.t125) (by rw[types_size];decide) type125 rfl ⟨rfl,rfl,rfl,rfl⟩ rfl (by exact⟨_,underlying125,rfl⟩) (by intro fs h;cases h)
theorem Ke:TyOk prog 133 ty133:=aE (i:=Tryz.t133) (by rw[types_size];decide) type133 rfl ⟨rfl,rfl,rfl,rfl⟩ rfl (by exact⟨_,underlying133,rfl⟩) (by intro fs h;cases h;exact⟨_,underlying133,rfl,by decide,by kernel_rfl,by kernel_rfl⟩)
theorem Kf:TyOk prog 147 ty147:=aE (i:=Tryz.t147) (by rw[types_size];decide) type147 rfl ⟨rfl,rfl,rfl,rfl⟩ rfl (by exact⟨_,underlying147,rfl⟩) (by intro fs h;cases h)
theorem Kg:TyOk prog 156 ty156:=aE (i:=Tryz.t156) (by rw[types_size];decide) type156 rfl ⟨rfl,rfl,rfl,rfl⟩ rfl (by exact⟨_,underlying156,rfl⟩) (by intro fs h;cases h;exact⟨_,underlying156,rfl,by decide,by kernel_rfl,by kernel_rfl⟩)
theorem Kh:TyOk prog 163 ty163:=aE (i:=Tryz.t163) (by rw[types_size];decide) type163 rfl ⟨rfl,rfl,rfl,rfl⟩ rfl (by exact⟨_,underlying163,rfl⟩) (by intro fs h;cases h)
theorem Ki:TyOk prog 164 ty164:=aE (i:=Tryz.t164) (by rw[types_size];decide) type164 rfl ⟨rfl,rfl,rfl,rfl⟩ rfl (by exact⟨_,underlying164,rfl⟩) (by intro fs h;cases h)
theorem Kj:TyOk prog 167 ty167:=aE (i:=Tryz.t167) (by rw[types_size];decide) type167 rfl ⟨rfl,rfl,rfl,rfl⟩ rfl (by exact underlying167) (by intro fs h;cases h)
theorem Kk:TyOk prog 185 ty185:=aE (i:=Tryz.t185) (by rw[types_size];decide) type185 rfl ⟨rfl,rfl,rfl,rfl⟩ rfl (by exact⟨_,underlying185,rfl⟩) (by intro fs h;cases h)
theorem Kl:TyOk prog 186 ty186:=aE (i:=Tryz.t186) (by rw[types_size];decide) type186 rfl ⟨rfl,rfl,rfl,rfl⟩ rfl (by exact underlying186) (by intro fs h;cases h)
theorem Km:TyOk prog 188 ty188:=aE (i:=Tryz.t188) (by rw[types_size];decide) type188 rfl ⟨rfl,rfl,rfl,rfl⟩ rfl (by exact⟨_,underlying188,rfl⟩) (by intro fs h;cases h)
theorem Kn:TyOk prog 192 ty192:=aE (i:=Tryz.t192) (by rw[types_size];decide) type192 rfl ⟨rfl,rfl,rfl,rfl⟩ rfl (by exact underlying192) (by intro fs h;cases h)
theorem Ko:TyOk prog 194 ty194:=aE (i:=Tryz.t194) (by rw[types_size];decide) type194 rfl ⟨rfl,rfl,rfl,rfl⟩ rfl (by exact⟨_,underlying194,rfl⟩) (by intro fs h;cases h)
theorem Kq:TyOk prog 198 ty198:=aE (i:=Tryz.t198) (by rw[types_size];decide) type198 rfl ⟨rfl,rfl,rfl,rfl⟩ rfl (by exact⟨_,underlying198,rfl⟩) (by intro fs h;cases h)
theorem Kr:TyOk prog 205 ty205:=aE (i:=Tryz.t205) (by rw[types_size];decide) type205 rfl ⟨rfl,rfl,rfl,rfl⟩ rfl (by exact⟨_,underlying205,rfl⟩) (by intro fs h;cases h;exact⟨_,underlying205,rfl,by decide,by kernel_rfl,by kernel_rfl⟩)
theorem Ks:TyOk prog 213 ty213:=aE (i:=Tryz.t213) (by rw[types_size];decide) type213 rfl ⟨rfl,rfl,rfl,rfl⟩ rfl (by exact⟨_,underlying213,rfl⟩) (by intro fs h;cases h)
theorem Kt:TyOk prog 217 ty217:=aE (i:=Tryz.t217) (by rw[types_size];decide) type217 rfl ⟨rfl,rfl,rfl,rfl⟩ rfl (by exact⟨_,underlying217,rfl⟩) (by intro fs h;cases h)
theorem Ku:TyOk prog 219 ty219:=aE (i:=Tryz.t219) (by rw[types_size];decide) type219 rfl ⟨rfl,rfl,rfl,rfl⟩ rfl (by exact⟨_,underlying219,rfl⟩) (by intro fs h;cases h)
theorem Kv:TyOk prog 222 ty222:=aE (i:=Tryz.t222) (by rw[types_size];decide) type222 rfl ⟨rfl,rfl,rfl,rfl⟩ rfl (by exact⟨_,underlying222,rfl⟩) (by intro fs h;cases h)
theorem Kw:TyOk prog 233 ty233:=aE (i:=Tryz.t233) (by rw[types_size];decide) type233 rfl ⟨rfl,rfl,rfl,rfl⟩ rfl (by exact⟨_,underlying233,rfl⟩) (by intro fs h;cases h)
theorem Kx:TyOk prog 235 ty235:=aE (i:=Tryz.t235) (by rw[types_size];decide) type235 rfl ⟨rfl,rfl,rfl,rfl⟩ rfl (by exact⟨_,underlying235,rfl⟩) (by intro fs h;cases h)
theorem Ky:TyOk prog 239 ty239:=aE (i:=Tryz.t239) (by rw[types_size];decide) type239 rfl ⟨rfl,rfl,rfl,rfl⟩ rfl (by exact⟨_,underlying239,rfl⟩) (by intro fs h;cases h)
theorem Kz:TyOk prog 241 ty241:=aE (i:=Tryz.t241) (by rw[types_size];decide) type241 rfl ⟨rfl,rfl,rfl,rfl⟩ rfl (by exact underlying241) (by intro fs h;cases h)
theorem KA:TyOk prog 243 ty243:=aE (i:=Tryz.t243) (by rw[types_size];decide) type243 rfl ⟨rfl,rfl,rfl,rfl⟩ rfl (by exact⟨_,underlying243,rfl⟩) (by intro fs h;cases h)
theorem KB:TyOk prog 250 ty250:=aE (i:=Tryz.t250) (by rw[types_size];decide) type250 rfl ⟨rfl,rfl,rfl,rfl⟩ rfl (by exact underlying250) (by intro fs h;cases h)
theorem KD:TyOk prog 253 ty253:=aE (i:=Tryz.t253) (by rw[types_size];decide) type253 rfl ⟨rfl,rfl,rfl,rfl⟩ rfl (by exact⟨_,underlying253,rfl⟩) (by intro fs h;cases h;exact⟨_,underlying253,rfl,by decide,by kernel_rfl,by kernel_rfl⟩)
theorem KE:TyOk prog 260 ty260:=aE (i:=Tryz.t260) (by rw[types_size];decide) type260 rfl ⟨rfl,rfl,rfl,rfl⟩ rfl (by exact⟨_,underlying260,rfl⟩) (by intro fs h;cases h;exact⟨_,underlying260,rfl,by decide,by kernel_rfl,by kernel_rfl⟩)
theorem KF:TyOk prog 266 ty266:=aE (i:=Tryz.t266) (by rw[types_size];decide) type266 rfl ⟨rfl,rfl,rfl,rfl⟩ rfl (by exact⟨_,underlying266,rfl⟩) (by intro fs h;cases h)
theorem KG:TyOk prog 269 ty269:=aE (i:=Tryz.t269) (by rw[types_size];decide) type269 rfl ⟨rfl,rfl,rfl,rfl⟩ rfl (by exact⟨_,underlying269,rfl⟩) (by intro fs h;cases h)
theorem KH:TyOk prog 282 ty282:=aE (i:=Tryz.t282) (by rw[types_size];decide) type282 rfl ⟨rfl,rfl,rfl,rfl⟩ rfl (by exact⟨_,underlying282,rfl⟩) (by intro fs h;cases h)
theorem KI:TyOk prog 284 ty284:=aE (i:=Tryz.t284) (by rw[types_size];decide) type284 rfl ⟨rfl,rfl,rfl,rfl⟩ rfl (by exact⟨_,underlying284,rfl⟩) (by intro fs h;cases h)
theorem KJ:TyOk prog 298 ty298:=aE (i:=Tryz.t298) (by rw[types_size];decide) type298 rfl ⟨rfl,rfl,rfl,rfl⟩ rfl (by exact⟨_,underlying298,rfl⟩) (by intro fs h;cases h)
theorem KK:TyOk prog 299 ty299:=aE (i:=Tryz.t299) (by rw[types_size];decide) type299 rfl ⟨rfl,rfl,rfl,rfl⟩ rfl (by exact underlying299) (by intro fs h;cases h)
theorem KL:TyOk prog 302 ty302:=aE (i:=Tryz.t302) (by rw[types_size];decide) type302 rfl ⟨rfl,rfl,rfl,rfl⟩ rfl (by exact underlying302) (by intro fs h;cases h)
theorem KM:TyOk prog 310 ty310:=aE (i:=Tryz.t310) (by rw[types_size];decide) type310 rfl ⟨rfl,rfl,rfl,rfl⟩ rfl (by exact underlying310) (by intro fs h;cases h)
theorem Nb {l:List Ty}(r:bc prog 16 l):bc prog 0 (unkTy::ty1::ty2::ty3::ty4::ty5::ty6::ty7::ty8::ty9::ty10::unkTy::unkTy::unkTy::unkTy::unkTy::l):=
 .cons (ae _ _) (.cons NE (.cons NF (.cons NG (.cons NH (.cons NI (.cons NJ (.cons NK (.cons NL (.cons NM (.cons MH (.cons (ae _ _) (.cons (ae _ _) (.cons (ae _ _) (.cons (ae _ _) (.cons (ae _ _) (r))))))))))))))))
theorem KN {l:List Ty}(r:bc prog 32 l):bc prog 16 (unkTy::unkTy::unkTy::unkTy::ty20::unkTy::ty22::ty23::unkTy::ty25::ty26::unkTy::ty28::unkTy::unkTy::ty31::l):=
 .cons (ae _ _) (.cons (ae _ _) (.cons (ae _ _) (.cons (ae _ _) (.cons MI (.cons (ae _ _) (.cons MJ (.cons MK (.cons (ae _ _) (.cons ML (.cons MM (.cons (ae _ _) (.cons MN (.cons (ae _ _) (.cons (ae _ _) (.cons MO (r))))))))))))))))
theorem KO {l:List Ty}(r:bc prog 48 l):bc prog 32 (unkTy::ty33::ty34::unkTy::ty36::unkTy::ty38::unkTy::unkTy::unkTy::unkTy::unkTy::unkTy::unkTy::unkTy::ty47::l):=
 .cons (ae _ _) (.cons MP (.cons MQ (.cons (ae _ _) (.cons MR (.cons (ae _ _) (.cons MS (.cons (ae _ _) (.cons (ae _ _) (.cons (ae _ _) (.cons (ae _ _) (.cons (ae _ _) (.cons (ae _ _) (.cons (ae _ _) (.cons (ae _ _) (.cons MT (r))))))))))))))))
theorem KQ {l:List Ty}(r:bc prog 64 l):bc prog 48 (unkTy::unkTy::unkTy::unkTy::unkTy::unkTy::unkTy::unkTy::unkTy::unkTy::unkTy::unkTy::ty60::ty61::unkTy::ty63::l):=
 .cons (ae _ _) (.cons (ae _ _) (.cons (ae _ _) (.cons (ae _ _) (.cons (ae _ _) (.cons (ae _ _) (.cons (ae _ _) (.cons (ae _ _) (.cons (ae _ _) (.cons (ae _ _) (.cons (ae _ _) (.cons (ae _ _) (.cons MU (.cons MV (.cons (ae _ _) (.cons MW (r))))))))))))))))
theorem KR {l:List Ty}(r:bc prog 80 l):bc prog 64 (unkTy::unkTy::unkTy::unkTy::unkTy::unkTy::unkTy::unkTy::unkTy::unkTy::unkTy::unkTy::unkTy::ty77::unkTy::ty79::l):=
 .cons (ae _ _) (.cons (ae _ _) (.cons (ae _ _) (.cons (ae _ _) (.cons (ae _ _) (.cons (ae _ _) (.cons (ae _ _) (.cons (ae _ _) (.cons (ae _ _) (.cons (ae _ _) (.cons (ae _ _) (.cons (ae _ _) (.cons (ae _ _) (.cons MX (.cons (ae _ _) (.cons MY (r))))))))))))))))
theorem KS {l:List Ty}(r:bc prog 96 l):bc prog 80 (unkTy::unkTy::unkTy::unkTy::unkTy::unkTy::unkTy::unkTy::unkTy::unkTy::unkTy::unkTy::ty92::unkTy::ty94::unkTy::l):=
 .cons (ae _ _) (.cons (ae _ _) (.cons (ae _ _) (.cons (ae _ _) (.cons (ae _ _) (.cons (ae _ _) (.cons (ae _ _) (.cons (ae _ _) (.cons (ae _ _) (.cons (ae _ _) (.cons (ae _ _) (.cons (ae _ _) (.cons MZ (.cons (ae _ _) (.cons Na (.cons (ae _ _) (r))))))))))))))))
theorem KT {l:List Ty}(r:bc prog 112 l):bc prog 96 (unkTy::unkTy::unkTy::unkTy::unkTy::unkTy::ty102::unkTy::ty104::unkTy::unkTy::unkTy::unkTy::ty109::unkTy::ty111::l):=
 .cons (ae _ _) (.cons (ae _ _) (.cons (ae _ _) (.cons (ae _ _) (.cons (ae _ _) (.cons (ae _ _) (.cons JZ (.cons (ae _ _) (.cons Ka (.cons (ae _ _) (.cons (ae _ _) (.cons (ae _ _) (.cons (ae _ _) (.cons Kb (.cons (ae _ _) (.cons Kc (r))))))))))))))))
theorem Ib {l:List Ty}(r:bc prog 128 l):bc prog 112 (unkTy::unkTy::unkTy::unkTy::unkTy::unkTy::unkTy::unkTy::unkTy::unkTy::unkTy::unkTy::unkTy::ty125::unkTy::unkTy::l):=
 .cons (ae _ _) (.cons (ae _ _) (.cons (ae _ _) (.cons (ae _ _) (.cons (ae _ _) (.cons (ae _ _) (.cons (ae _ _) (.cons (ae _ _) (.cons (ae _ _) (.cons (ae _ _) (.cons (ae _ _) (.cons (ae _ _) (.cons (ae _ _) (.cons Kd (.cons (ae _ _) (.cons (ae _ _) (r))))))))))))))))
theorem Ic {l:List Ty}(r:bc prog 144 l):bc prog 128 (unkTy::unkTy::unkTy::unkTy::unkTy::ty133::unkTy::unkTy::unkTy::unkTy::unkTy::unkTy::unkTy::unkTy::unkTy::unkTy::l):=
 .cons (ae _ _) (.cons (ae _ _) (.cons (ae _ _) (.cons (ae _ _) (.cons (ae _ _) (.cons Ke (.cons (ae _ _) (.cons (ae _ _) (.cons (ae _ _) (.cons (ae _ _) (.cons (ae _ _) (.cons (ae _ _) (.cons (ae _ _) (.cons (ae _ _) (.cons (ae _ _) (.cons (ae _ _) (r))))))))))))))))
theorem Ie {l:List Ty}(r:bc prog 160 l):bc prog 144 (unkTy::unkTy::unkTy::ty147::unkTy::unkTy::unkTy::unkTy::unkTy::unkTy::unkTy::unkTy::ty156::unkTy::unkTy::unkTy::l):=
 .cons (ae _ _) (.cons (ae _ _) (.cons (ae _ _) (.cons Kf (.cons (ae _ _) (.cons (ae _ _) (.cons (ae _ _) (.cons (ae _ _) (.cons (ae _ _) (.cons (ae _ _) (.cons (ae _ _) (.cons (ae _ _) (.cons Kg (.cons (ae _ _) (.cons (ae _ _) (.cons (ae _ _) (r))))))))))))))))
theorem If {l:List Ty}(r:bc prog 176 l):bc prog 160 (unkTy::unkTy::unkTy::ty163::ty164::unkTy::unkTy::ty167::unkTy::unkTy::unkTy::unkTy::unkTy::unkTy::unkTy::unkTy::l):=
 .cons (ae _ _) (.cons (ae _ _) (.cons (ae _ _) (.cons Kh (.cons Ki (.cons (ae _ _) (.cons (ae _ _) (.cons Kj (.cons (ae _ _) (.cons (ae _ _) (.cons (ae _ _) (.cons (ae _ _) (.cons (ae _ _) (.cons (ae _ _) (.cons (ae _ _) (.cons (ae _ _) (r))))))))))))))))
theorem Ig {l:List Ty}(r:bc prog 192 l):bc prog 176 (unkTy::unkTy::unkTy::unkTy::unkTy::unkTy::unkTy::unkTy::unkTy::ty185::ty186::unkTy::ty188::unkTy::unkTy::unkTy::l):=
 .cons (ae _ _) (.cons (ae _ _) (.cons (ae _ _) (.cons (ae _ _) (.cons (ae _ _) (.cons (ae _ _) (.cons (ae _ _) (.cons (ae _ _) (.cons (ae _ _) (.cons Kk (.cons Kl (.cons (ae _ _) (.cons Km (.cons (ae _ _) (.cons (ae _ _) (.cons (ae _ _) (r))))))))))))))))
theorem Ih {l:List Ty}(r:bc prog 208 l):bc prog 192 (ty192::unkTy::ty194::unkTy::unkTy::unkTy::ty198::unkTy::unkTy::unkTy::unkTy::unkTy::unkTy::ty205::unkTy::unkTy::l):=
 .cons Kn (.cons (ae _ _) (.cons Ko (.cons (ae _ _) (.cons (ae _ _) (.cons (ae _ _) (.cons Kq (.cons (ae _ _) (.cons (ae _ _) (.cons (ae _ _) (.cons (ae _ _) (.cons (ae _ _) (.cons (ae _ _) (.cons Kr (.cons (ae _ _) (.cons (ae _ _) (r))))))))))))))))
theorem Ii {l:List Ty}(r:bc prog 224 l):bc prog 208 (unkTy::unkTy::unkTy::unkTy::unkTy::ty213::unkTy::unkTy::unkTy::ty217::unkTy::ty219::unkTy::unkTy::ty222::unkTy::l):=
 .cons (ae _ _) (.cons (ae _ _) (.cons (ae _ _) (.cons (ae _ _) (.cons (ae _ _) (.cons Ks (.cons (ae _ _) (.cons (ae _ _) (.cons (ae _ _) (.cons Kt (.cons (ae _ _) (.cons Ku (.cons (ae _ _) (.cons (ae _ _) (.cons Kv (.cons (ae _ _) (r))))))))))))))))
theorem Ij {l:List Ty}(r:bc prog 240 l):bc prog 224 (unkTy::unkTy::unkTy::unkTy::unkTy::unkTy::unkTy::unkTy::unkTy::ty233::unkTy::ty235::unkTy::unkTy::unkTy::ty239::l):=
 .cons (ae _ _) (.cons (ae _ _) (.cons (ae _ _) (.cons (ae _ _) (.cons (ae _ _) (.cons (ae _ _) (.cons (ae _ _) (.cons (ae _ _) (.cons (ae _ _) (.cons Kw (.cons (ae _ _) (.cons Kx (.cons (ae _ _) (.cons (ae _ _) (.cons (ae _ _) (.cons Ky (r))))))))))))))))
theorem Ik {l:List Ty}(r:bc prog 256 l):bc prog 240 (unkTy::ty241::unkTy::ty243::unkTy::unkTy::unkTy::unkTy::unkTy::unkTy::ty250::unkTy::unkTy::ty253::unkTy::unkTy::l):=
 .cons (ae _ _) (.cons Kz (.cons (ae _ _) (.cons KA (.cons (ae _ _) (.cons (ae _ _) (.cons (ae _ _) (.cons (ae _ _) (.cons (ae _ _) (.cons (ae _ _) (.cons KB (.cons (ae _ _) (.cons (ae _ _) (.cons KD (.cons (ae _ _) (.cons (ae _ _) (r))))))))))))))))
theorem Il {l:List Ty}(r:bc prog 272 l):bc prog 256 (unkTy::unkTy::unkTy::unkTy::ty260::unkTy::unkTy::unkTy::unkTy::unkTy::ty266::unkTy::unkTy::ty269::unkTy::unkTy::l):=
 .cons (ae _ _) (.cons (ae _ _) (.cons (ae _ _) (.cons (ae _ _) (.cons KE (.cons (ae _ _) (.cons (ae _ _) (.cons (ae _ _) (.cons (ae _ _) (.cons (ae _ _) (.cons KF (.cons (ae _ _) (.cons (ae _ _) (.cons KG (.cons (ae _ _) (.cons (ae _ _) (r))))))))))))))))
theorem Im {l:List Ty}(r:bc prog 288 l):bc prog 272 (unkTy::unkTy::unkTy::unkTy::unkTy::unkTy::unkTy::unkTy::unkTy::unkTy::ty282::unkTy::ty284::unkTy::unkTy::unkTy::l):=
 .cons (ae _ _) (.cons (ae _ _) (.cons (ae _ _) (.cons (ae _ _) (.cons (ae _ _) (.cons (ae _ _) (.cons (ae _ _) (.cons (ae _ _) (.cons (ae _ _) (.cons (ae _ _) (.cons KH (.cons (ae _ _) (.cons KI (.cons (ae _ _) (.cons (ae _ _) (.cons (ae _ _) (r))))))))))))))))
theorem In {l:List Ty}(r:bc prog 304 l):bc prog 288 (unkTy::unkTy::unkTy::unkTy::unkTy::unkTy::unkTy::unkTy::unkTy::unkTy::ty298::ty299::unkTy::unkTy::ty302::unkTy::l):=
 .cons (ae _ _) (.cons (ae _ _) (.cons (ae _ _) (.cons (ae _ _) (.cons (ae _ _) (.cons (ae _ _) (.cons (ae _ _) (.cons (ae _ _) (.cons (ae _ _) (.cons (ae _ _) (.cons KJ (.cons KK (.cons (ae _ _) (.cons (ae _ _) (.cons KL (.cons (ae _ _) (r))))))))))))))))
theorem Io {l:List Ty}(r:bc prog 311 l):bc prog 304 (unkTy::unkTy::unkTy::unkTy::unkTy::unkTy::ty310::l):=
 .cons (ae _ _) (.cons (ae _ _) (.cons (ae _ _) (.cons (ae _ _) (.cons (ae _ _) (.cons (ae _ _) (.cons KM (r)))))))
theorem hT (t:Nat):TyOk prog t (T t):=by
 have h:bc prog 0 tys:=Nb (KN (KO (KQ (KR (KS (KT (Ib (Ic (Ie (If (Ig (Ih (Ii (Ij (Ik (Il (Im (In (Io (.nil _))))))))))))))))))))
 have:=h.get t
 rw[Nat.zero_add]at this
 exact this
section
open TK
@[simp,go_sem] theorem Tk1:(T 1).kind=.other:=rfl
@[simp,go_sem] theorem Ts1:(T 1).size=1:=rfl
@[simp,go_sem] theorem Tb1:(T 1).bytes=8:=rfl
@[simp,go_sem] theorem Tz1:(T 1).zero=[Go.Value.nilFunc]:=rfl
@[simp,go_sem] theorem Tk2:(T 2).kind=.int .i64:=rfl
@[simp,go_sem] theorem Ts2:(T 2).size=1:=rfl
@[simp,go_sem] theorem Tb2:(T 2).bytes=8:=rfl
@[simp,go_sem] theorem Tz2:(T 2).zero=[Go.Value.int Go.IntKind.i64 0]:=rfl
@[simp,go_sem] theorem Tk3:(T 3).kind=.int .i64:=rfl
@[simp,go_sem] theorem Ts3:(T 3).size=1:=rfl
@[simp,go_sem] theorem Tb3:(T 3).bytes=8:=rfl
@[simp,go_sem] theorem Tz3:(T 3).zero=[Go.Value.int Go.IntKind.i64 0]:=rfl
@[simp,go_sem] theorem Tk4:(T 4).kind=.bool:=rfl
@[simp,go_sem] theorem Ts4:(T 4).size=1:=rfl
@[simp,go_sem] theorem Tb4:(T 4).bytes=1:=rfl
@[simp,go_sem] theorem Tz4:(T 4).zero=[Go.Value.bool false]:=rfl
@[simp,go_sem] theorem Tk5:(T 5).kind=.int .u8:=rfl
@[simp,go_sem] theorem Ts5:(T 5).size=1:=rfl
@[simp,go_sem] theorem Tb5:(T 5).bytes=1:=rfl
@[simp,go_sem] theorem Tz5:(T 5).zero=[Go.Value.int Go.IntKind.u8 0]:=rfl
@[simp,go_sem] theorem Tk6:(T 6).kind=.int .u8:=rfl
@[simp,go_sem] theorem Ts6:(T 6).size=1:=rfl
@[simp,go_sem] theorem Tb6:(T 6).bytes=1:=rfl
@[simp,go_sem] theorem Tz6:(T 6).zero=[Go.Value.int Go.IntKind.u8 0]:=rfl
@[simp,go_sem] theorem Tk7:(T 7).kind=.struct [(0,2),(1,3),(2,4),(3,6)]:=rfl
@[simp,go_sem] theorem Ts7:(T 7).size=4:=rfl
@[simp,go_sem] theorem Tb7:(T 7).bytes=24:=rfl
@[simp,go_sem] theorem Tz7:(T 7).zero=[Go.Value.int Go.IntKind.i64 0,Go.Value.int Go.IntKind.i64 0,Go.Value.bool false,Go.Value.int Go.IntKind.u8 0]:=rfl
@[simp,go_sem] theorem Tk8:(T 8).kind=.struct [(0,2),(1,3),(2,4),(3,6)]:=rfl
@[simp,go_sem] theorem Ts8:(T 8).size=4:=rfl
@[simp,go_sem] theorem Tb8:(T 8).bytes=24:=rfl
@[simp,go_sem] theorem Tz8:(T 8).zero=[Go.Value.int Go.IntKind.i64 0,Go.Value.int Go.IntKind.i64 0,Go.Value.bool false,Go.Value.int Go.IntKind.u8 0]:=rfl
@[simp,go_sem] theorem Tk9:(T 9).kind=.str:=rfl
@[simp,go_sem] theorem Ts9:(T 9).size=1:=rfl
@[simp,go_sem] theorem Tb9:(T 9).bytes=16:=rfl
@[simp,go_sem] theorem Tz9:(T 9).zero=[Go.Value.string { data:=#[] }]:=rfl
@[simp,go_sem] theorem Tk10:(T 10).kind=.str:=rfl
@[simp,go_sem] theorem Ts10:(T 10).size=1:=rfl
@[simp,go_sem] theorem Tb10:(T 10).bytes=16:=rfl
@[simp,go_sem] theorem Tz10:(T 10).zero=[Go.Value.string { data:=#[] }]:=rfl
@[simp,go_sem] theorem Tk20:(T 20).kind=.other:=rfl
@[simp,go_sem] theorem Ts20:(T 20).size=1:=rfl
@[simp,go_sem] theorem Tb20:(T 20).bytes=16:=rfl
@[simp,go_sem] theorem Tz20:(T 20).zero=[Go.Value.nilIface]:=rfl
@[simp,go_sem] theorem Tk22:(T 22).kind=.slice 185:=rfl
@[simp,go_sem] theorem Ts22:(T 22).size=1:=rfl
@[simp,go_sem] theorem Tb22:(T 22).bytes=24:=rfl
@[simp,go_sem] theorem Tz22:(T 22).zero=[Go.Value.slice none 0 0]:=rfl
@[simp,go_sem] theorem Tk23:(T 23).kind=.slice 205:=rfl
@[simp,go_sem] theorem Ts23:(T 23).size=1:=rfl
@[simp,go_sem] theorem Tb23:(T 23).bytes=24:=rfl
@[simp,go_sem] theorem Tz23:(T 23).zero=[Go.Value.slice none 0 0]:=rfl
@[simp,go_sem] theorem Tk25:(T 25).kind=.struct [(0,22),(1,23),(2,3)]:=rfl
@[simp,go_sem] theorem Ts25:(T 25).size=3:=rfl
@[simp,go_sem] theorem Tb25:(T 25).bytes=56:=rfl
@[simp,go_sem] theorem Tz25:(T 25).zero=[Go.Value.slice none 0 0,Go.Value.slice none 0 0,Go.Value.int Go.IntKind.i64 0]:=rfl
@[simp,go_sem] theorem Tk26:(T 26).kind=.slice 3:=rfl
@[simp,go_sem] theorem Ts26:(T 26).size=1:=rfl
@[simp,go_sem] theorem Tb26:(T 26).bytes=24:=rfl
@[simp,go_sem] theorem Tz26:(T 26).zero=[Go.Value.slice none 0 0]:=rfl
@[simp,go_sem] theorem Tk28:(T 28).kind=.struct [(0,26),(1,26)]:=rfl
@[simp,go_sem] theorem Ts28:(T 28).size=2:=rfl
@[simp,go_sem] theorem Tb28:(T 28).bytes=48:=rfl
@[simp,go_sem] theorem Tz28:(T 28).zero=[Go.Value.slice none 0 0,Go.Value.slice none 0 0]:=rfl
@[simp,go_sem] theorem Tk31:(T 31).kind=.slice 9:=rfl
@[simp,go_sem] theorem Ts31:(T 31).size=1:=rfl
@[simp,go_sem] theorem Tb31:(T 31).bytes=24:=rfl
@[simp,go_sem] theorem Tz31:(T 31).zero=[Go.Value.slice none 0 0]:=rfl
@[simp,go_sem] theorem Tk33:(T 33).kind=.slice 109:=rfl
@[simp,go_sem] theorem Ts33:(T 33).size=1:=rfl
@[simp,go_sem] theorem Tb33:(T 33).bytes=24:=rfl
@[simp,go_sem] theorem Tz33:(T 33).zero=[Go.Value.slice none 0 0]:=rfl
@[simp,go_sem] theorem Tk34:(T 34).kind=.slice 133:=rfl
@[simp,go_sem] theorem Ts34:(T 34).size=1:=rfl
@[simp,go_sem] theorem Tb34:(T 34).bytes=24:=rfl
@[simp,go_sem] theorem Tz34:(T 34).zero=[Go.Value.slice none 0 0]:=rfl
@[simp,go_sem] theorem Tk36:(T 36).kind=.struct [(0,33),(1,34),(2,3)]:=rfl
@[simp,go_sem] theorem Ts36:(T 36).size=3:=rfl
@[simp,go_sem] theorem Tb36:(T 36).bytes=56:=rfl
@[simp,go_sem] theorem Tz36:(T 36).zero=[Go.Value.slice none 0 0,Go.Value.slice none 0 0,Go.Value.int Go.IntKind.i64 0]:=rfl
@[simp,go_sem] theorem Tk38:(T 38).kind=.struct [(0,26),(1,26)]:=rfl
@[simp,go_sem] theorem Ts38:(T 38).size=2:=rfl
@[simp,go_sem] theorem Tb38:(T 38).bytes=48:=rfl
@[simp,go_sem] theorem Tz38:(T 38).zero=[Go.Value.slice none 0 0,Go.Value.slice none 0 0]:=rfl
@[simp,go_sem] theorem Tk47:(T 47).kind=.slice 5:=rfl
@[simp,go_sem] theorem Ts47:(T 47).size=1:=rfl
@[simp,go_sem] theorem Tb47:(T 47).bytes=24:=rfl
@[simp,go_sem] theorem Tz47:(T 47).zero=[Go.Value.slice none 0 0]:=rfl
@[simp,go_sem] theorem Tk60:(T 60).kind=.struct [(0,3),(1,26),(2,26)]:=rfl
@[simp,go_sem] theorem Ts60:(T 60).size=3:=rfl
@[simp,go_sem] theorem Tb60:(T 60).bytes=56:=rfl
@[simp,go_sem] theorem Tz60:(T 60).zero=[Go.Value.int Go.IntKind.i64 0,Go.Value.slice none 0 0,Go.Value.slice none 0 0]:=rfl
@[simp,go_sem] theorem Tk61:(T 61).kind=.slice 147:=rfl
@[simp,go_sem] theorem Ts61:(T 61).size=1:=rfl
@[simp,go_sem] theorem Tb61:(T 61).bytes=24:=rfl
@[simp,go_sem] theorem Tz61:(T 61).zero=[Go.Value.slice none 0 0]:=rfl
@[simp,go_sem] theorem Tk63:(T 63).kind=.struct [(0,36),(3,60),(6,4),(7,61)]:=rfl
@[simp,go_sem] theorem Ts63:(T 63).size=8:=rfl
@[simp,go_sem] theorem Tb63:(T 63).bytes=144:=rfl
@[simp,go_sem] theorem Tz63:(T 63).zero=[Go.Value.slice none 0 0,Go.Value.slice none 0 0,Go.Value.int Go.IntKind.i64 0,Go.Value.int Go.IntKind.i64 0,Go.Value.slice none 0 0,Go.Value.slice none 0 0,Go.Value.bool false,Go.Value.slice none 0 0]:=rfl
@[simp,go_sem] theorem Tk77:(T 77).kind=.slice 156:=rfl
@[simp,go_sem] theorem Ts77:(T 77).size=1:=rfl
@[simp,go_sem] theorem Tb77:(T 77).bytes=24:=rfl
@[simp,go_sem] theorem Tz77:(T 77).zero=[Go.Value.slice none 0 0]:=rfl
@[simp,go_sem] theorem Tk79:(T 79).kind=.struct [(0,77),(1,26),(2,3)]:=rfl
@[simp,go_sem] theorem Ts79:(T 79).size=3:=rfl
@[simp,go_sem] theorem Tb79:(T 79).bytes=56:=rfl
@[simp,go_sem] theorem Tz79:(T 79).zero=[Go.Value.slice none 0 0,Go.Value.slice none 0 0,Go.Value.int Go.IntKind.i64 0]:=rfl
@[simp,go_sem] theorem Tk92:(T 92).kind=.slice 253:=rfl
@[simp,go_sem] theorem Ts92:(T 92).size=1:=rfl
@[simp,go_sem] theorem Tb92:(T 92).bytes=24:=rfl
@[simp,go_sem] theorem Tz92:(T 92).zero=[Go.Value.slice none 0 0]:=rfl
@[simp,go_sem] theorem Tk94:(T 94).kind=.struct [(0,92),(1,26),(2,3)]:=rfl
@[simp,go_sem] theorem Ts94:(T 94).size=3:=rfl
@[simp,go_sem] theorem Tb94:(T 94).bytes=56:=rfl
@[simp,go_sem] theorem Tz94:(T 94).zero=[Go.Value.slice none 0 0,Go.Value.slice none 0 0,Go.Value.int Go.IntKind.i64 0]:=rfl
@[simp,go_sem] theorem UH:(T 102).kind=.slice 188:=rfl
@[simp,go_sem] theorem UI:(T 102).size=1:=rfl
@[simp,go_sem] theorem UJ:(T 102).bytes=24:=rfl
@[simp,go_sem] theorem UK:(T 102).zero=[Go.Value.slice none 0 0]:=rfl
@[simp,go_sem] theorem UL:(T 104).kind=.struct [(0,3),(1,102)]:=rfl
@[simp,go_sem] theorem UM:(T 104).size=2:=rfl
@[simp,go_sem] theorem UN:(T 104).bytes=32:=rfl
@[simp,go_sem] theorem UO:(T 104).zero=[Go.Value.int Go.IntKind.i64 0,Go.Value.slice none 0 0]:=rfl
@[simp,go_sem] theorem UP:(T 109).kind=.struct [(0,9),(1,26),(2,3)]:=rfl
@[simp,go_sem] theorem UQ:(T 109).size=3:=rfl
@[simp,go_sem] theorem UR:(T 109).bytes=48:=rfl
@[simp,go_sem] theorem US:(T 109).zero=[Go.Value.string { data:=#[] },Go.Value.slice none 0 0,Go.Value.int Go.IntKind.i64 0]:=rfl
@[simp,go_sem] theorem UT:(T 111).kind=.struct [(0,3),(1,3)]:=rfl
@[simp,go_sem] theorem UU:(T 111).size=2:=rfl
@[simp,go_sem] theorem UV:(T 111).bytes=16:=rfl
@[simp,go_sem] theorem UW:(T 111).zero=[Go.Value.int Go.IntKind.i64 0,Go.Value.int Go.IntKind.i64 0]:=rfl
@[simp,go_sem] theorem UX:(T 111).eqs=some [(0,3),(1,3)]:=rfl
@[simp,go_sem] theorem UY:(T 125).kind=.other:=rfl
@[simp,go_sem] theorem UZ:(T 125).size=1:=rfl
@[simp,go_sem] theorem Va:(T 125).bytes=8:=rfl
@[simp,go_sem] theorem Vb:(T 125).zero=[Go.Value.pointer none]:=rfl
@[simp,go_sem] theorem Vc:(T 133).kind=.struct [(0,3),(1,3),(2,3),(3,3),(4,4)]:=rfl
@[simp,go_sem] theorem Vd:(T 133).size=5:=rfl
@[simp,go_sem] theorem Ve:(T 133).bytes=40:=rfl
@[simp,go_sem] theorem Vf:(T 133).zero=[Go.Value.int Go.IntKind.i64 0,Go.Value.int Go.IntKind.i64 0,Go.Value.int Go.IntKind.i64 0,Go.Value.int Go.IntKind.i64 0,Go.Value.bool false]:=rfl
@[simp,go_sem] theorem Vg:(T 133).eqs=some [(0,3),(1,3),(2,3),(3,3),(4,4)]:=rfl
@[simp,go_sem] theorem Vh:(T 147).kind=.struct [(0,3),(1,26),(2,26),(3,26)]:=rfl
@[simp,go_sem] theorem Vi:(T 147).size=4:=rfl
@[simp,go_sem] theorem Vj:(T 147).bytes=80:=rfl
@[simp,go_sem] theorem Vk:(T 147).zero=[Go.Value.int Go.IntKind.i64 0,Go.Value.slice none 0 0,Go.Value.slice none 0 0,Go.Value.slice none 0 0]:=rfl
@[simp,go_sem] theorem Vl:(T 156).kind=.struct [(0,9),(1,3),(2,4),(3,3),(4,3),(5,3),(6,3),(7,4),(8,3),(9,3),(10,3)]:=rfl
@[simp,go_sem] theorem Vm:(T 156).size=11:=rfl
@[simp,go_sem] theorem Vn:(T 156).bytes=96:=rfl
@[simp,go_sem] theorem Vo:(T 156).zero=[Go.Value.string { data:=#[] },Go.Value.int Go.IntKind.i64 0,Go.Value.bool false,Go.Value.int Go.IntKind.i64 0,Go.Value.int Go.IntKind.i64 0,Go.Value.int Go.IntKind.i64 0,Go.Value.int Go.IntKind.i64 0,Go.Value.bool false,Go.Value.int Go.IntKind.i64 0,Go.Value.int Go.IntKind.i64 0,Go.Value.int Go.IntKind.i64 0]:=rfl
@[simp,go_sem] theorem Vp:(T 156).eqs=some [(0,9),(1,3),(2,4),(3,3),(4,3),(5,3),(6,3),(7,4),(8,3),(9,3),(10,3)]:=rfl
@[simp,go_sem] theorem Vq:(T 163).kind=.other:=rfl
@[simp,go_sem] theorem Vr:(T 163).size=1:=rfl
@[simp,go_sem] theorem Vs:(T 163).bytes=8:=rfl
@[simp,go_sem] theorem Vt:(T 163).zero=[Go.Value.nilFunc]:=rfl
@[simp,go_sem] theorem Vu:(T 164).kind=.other:=rfl
@[simp,go_sem] theorem Vv:(T 164).size=1:=rfl
@[simp,go_sem] theorem Vw:(T 164).bytes=8:=rfl
@[simp,go_sem] theorem Vx:(T 164).zero=[Go.Value.pointer none]:=rfl
@[simp,go_sem] theorem Vy:(T 167).kind=.slice 26:=rfl
@[simp,go_sem] theorem Vz:(T 167).size=1:=rfl
@[simp,go_sem] theorem VA:(T 167).bytes=24:=rfl
@[simp,go_sem] theorem VB:(T 167).zero=[Go.Value.slice none 0 0]:=rfl
@[simp,go_sem] theorem VC:(T 185).kind=.struct [(0,9),(1,26),(2,3)]:=rfl
@[simp,go_sem] theorem VD:(T 185).size=3:=rfl
@[simp,go_sem] theorem VE:(T 185).bytes=48:=rfl
@[simp,go_sem] theorem VG:(T 185).zero=[Go.Value.string { data:=#[] },Go.Value.slice none 0 0,Go.Value.int Go.IntKind.i64 0]:=rfl
@[simp,go_sem] theorem VH:(T 186).kind=.slice 4:=rfl
@[simp,go_sem] theorem VI:(T 186).size=1:=rfl
@[simp,go_sem] theorem VJ:(T 186).bytes=24:=rfl
@[simp,go_sem] theorem VK:(T 186).zero=[Go.Value.slice none 0 0]:=rfl
@[simp,go_sem] theorem VL:(T 188).kind=.struct [(0,3),(1,3),(2,111)]:=rfl
@[simp,go_sem] theorem VM:(T 188).size=4:=rfl
@[simp,go_sem] theorem VN:(T 188).bytes=32:=rfl
@[simp,go_sem] theorem VO:(T 188).zero=[Go.Value.int Go.IntKind.i64 0,Go.Value.int Go.IntKind.i64 0,Go.Value.int Go.IntKind.i64 0,Go.Value.int Go.IntKind.i64 0]:=rfl
@[simp,go_sem] theorem VP:(T 192).kind=.slice 260:=rfl
@[simp,go_sem] theorem VQ:(T 192).size=1:=rfl
@[simp,go_sem] theorem VR:(T 192).bytes=24:=rfl
@[simp,go_sem] theorem VS:(T 192).zero=[Go.Value.slice none 0 0]:=rfl
@[simp,go_sem] theorem VT:(T 194).kind=.struct [(0,3),(1,192)]:=rfl
@[simp,go_sem] theorem VU:(T 194).size=2:=rfl
@[simp,go_sem] theorem VV:(T 194).bytes=32:=rfl
@[simp,go_sem] theorem VW:(T 194).zero=[Go.Value.int Go.IntKind.i64 0,Go.Value.slice none 0 0]:=rfl
@[simp,go_sem] theorem VX:(T 198).kind=.struct [(0,3),(1,26)]:=rfl
@[simp,go_sem] theorem VY:(T 198).size=2:=rfl
@[simp,go_sem] theorem VZ:(T 198).bytes=32:=rfl
@[simp,go_sem] theorem Wa:(T 198).zero=[Go.Value.int Go.IntKind.i64 0,Go.Value.slice none 0 0]:=rfl
@[simp,go_sem] theorem Wb:(T 205).kind=.struct [(0,3),(1,3),(2,3),(3,3),(4,4)]:=rfl
@[simp,go_sem] theorem Wc:(T 205).size=5:=rfl
@[simp,go_sem] theorem Wd:(T 205).bytes=40:=rfl
@[simp,go_sem] theorem We:(T 205).zero=[Go.Value.int Go.IntKind.i64 0,Go.Value.int Go.IntKind.i64 0,Go.Value.int Go.IntKind.i64 0,Go.Value.int Go.IntKind.i64 0,Go.Value.bool false]:=rfl
@[simp,go_sem] theorem Wf:(T 205).eqs=some [(0,3),(1,3),(2,3),(3,3),(4,4)]:=rfl
@[simp,go_sem] theorem Wg:(T 213).kind=.struct [(0,47),(1,3),(2,3)]:=rfl
@[simp,go_sem] theorem Wh:(T 213).size=3:=rfl
@[simp,go_sem] theorem Wi:(T 213).bytes=40:=rfl
@[simp,go_sem] theorem Wj:(T 213).zero=[Go.Value.slice none 0 0,Go.Value.int Go.IntKind.i64 0,Go.Value.int Go.IntKind.i64 0]:=rfl
@[simp,go_sem] theorem Wk:(T 217).kind=.other:=rfl
@[simp,go_sem] theorem Wl:(T 217).size=1:=rfl
@[simp,go_sem] theorem Wm:(T 217).bytes=8:=rfl
@[simp,go_sem] theorem Wn:(T 217).zero=[Go.Value.nilFunc]:=rfl
@[simp,go_sem] theorem Wo:(T 219).kind=.other:=rfl
@[simp,go_sem] theorem Wp:(T 219).size=1:=rfl
@[simp,go_sem] theorem Wq:(T 219).bytes=8:=rfl
@[simp,go_sem] theorem Wr:(T 219).zero=[Go.Value.nilFunc]:=rfl
@[simp,go_sem] theorem Ws:(T 222).kind=.other:=rfl
@[simp,go_sem] theorem Wt:(T 222).size=1:=rfl
@[simp,go_sem] theorem Wu:(T 222).bytes=8:=rfl
@[simp,go_sem] theorem Wv:(T 222).zero=[Go.Value.nilFunc]:=rfl
@[simp,go_sem] theorem Ww:(T 233).kind=.other:=rfl
@[simp,go_sem] theorem Wx:(T 233).size=1:=rfl
@[simp,go_sem] theorem Wy:(T 233).bytes=8:=rfl
@[simp,go_sem] theorem Wz:(T 233).zero=[Go.Value.nilFunc]:=rfl
@[simp,go_sem] theorem WA:(T 235).kind=.other:=rfl
@[simp,go_sem] theorem WB:(T 235).size=1:=rfl
@[simp,go_sem] theorem WC:(T 235).bytes=8:=rfl
@[simp,go_sem] theorem WD:(T 235).zero=[Go.Value.nilFunc]:=rfl
@[simp,go_sem] theorem WE:(T 239).kind=.other:=rfl
@[simp,go_sem] theorem WF:(T 239).size=1:=rfl
@[simp,go_sem] theorem WG:(T 239).bytes=8:=rfl
@[simp,go_sem] theorem WH:(T 239).zero=[Go.Value.nilFunc]:=rfl
@[simp,go_sem] theorem WI:(T 241).kind=.map 9 4:=rfl
@[simp,go_sem] theorem WJ:(T 241).size=1:=rfl
@[simp,go_sem] theorem WK:(T 241).bytes=8:=rfl
@[simp,go_sem] theorem WL:(T 241).zero=[Go.Value.map none]:=rfl
@[simp,go_sem] theorem WM:(T 243).kind=.struct [(0,36),(3,241)]:=rfl
@[simp,go_sem] theorem WN:(T 243).size=4:=rfl
@[simp,go_sem] theorem WO:(T 243).bytes=64:=rfl
@[simp,go_sem] theorem WP:(T 243).zero=[Go.Value.slice none 0 0,Go.Value.slice none 0 0,Go.Value.int Go.IntKind.i64 0,Go.Value.map none]:=rfl
@[simp,go_sem] theorem WQ:(T 250).kind=.int .u64:=rfl
@[simp,go_sem] theorem WR:(T 250).size=1:=rfl
@[simp,go_sem] theorem WS:(T 250).bytes=8:=rfl
@[simp,go_sem] theorem WT:(T 250).zero=[Go.Value.int Go.IntKind.u64 0]:=rfl
@[simp,go_sem] theorem WU:(T 253).kind=.struct [(0,9),(1,3),(2,4),(3,3),(4,3),(5,3),(6,3),(7,4),(8,3),(9,3),(10,3)]:=rfl
@[simp,go_sem] theorem WV:(T 253).size=11:=rfl
@[simp,go_sem] theorem WW:(T 253).bytes=96:=rfl
@[simp,go_sem] theorem WX:(T 253).zero=[Go.Value.string { data:=#[] },Go.Value.int Go.IntKind.i64 0,Go.Value.bool false,Go.Value.int Go.IntKind.i64 0,Go.Value.int Go.IntKind.i64 0,Go.Value.int Go.IntKind.i64 0,Go.Value.int Go.IntKind.i64 0,Go.Value.bool false,Go.Value.int Go.IntKind.i64 0,Go.Value.int Go.IntKind.i64 0,Go.Value.int Go.IntKind.i64 0]:=rfl
@[simp,go_sem] theorem WY:(T 253).eqs=some [(0,9),(1,3),(2,4),(3,3),(4,3),(5,3),(6,3),(7,4),(8,3),(9,3),(10,3)]:=rfl
@[simp,go_sem] theorem WZ:(T 260).kind=.struct [(0,3),(1,3),(2,3)]:=rfl
@[simp,go_sem] theorem Xa:(T 260).size=3:=rfl
@[simp,go_sem] theorem Xb:(T 260).bytes=24:=rfl
@[simp,go_sem] theorem Xc:(T 260).zero=[Go.Value.int Go.IntKind.i64 0,Go.Value.int Go.IntKind.i64 0,Go.Value.int Go.IntKind.i64 0]:=rfl
@[simp,go_sem] theorem Xd:(T 260).eqs=some [(0,3),(1,3),(2,3)]:=rfl
@[simp,go_sem] theorem Xe:(T 266).kind=.other:=rfl
@[simp,go_sem] theorem Xf:(T 266).size=1:=rfl
@[simp,go_sem] theorem Xg:(T 266).bytes=8:=rfl
@[simp,go_sem] theorem Xh:(T 266).zero=[Go.Value.nilFunc]:=rfl
@[simp,go_sem] theorem Xi:(T 269).kind=.other:=rfl
@[simp,go_sem] theorem Xj:(T 269).size=1:=rfl
@[simp,go_sem] theorem Xk:(T 269).bytes=8:=rfl
@[simp,go_sem] theorem Xl:(T 269).zero=[Go.Value.nilFunc]:=rfl
@[simp,go_sem] theorem Xm:(T 282).kind=.other:=rfl
@[simp,go_sem] theorem Xn:(T 282).size=1:=rfl
@[simp,go_sem] theorem Xo:(T 282).bytes=8:=rfl
@[simp,go_sem] theorem Xp:(T 282).zero=[Go.Value.pointer none]:=rfl
@[simp,go_sem] theorem Xq:(T 284).kind=.struct [(0,282),(1,47)]:=rfl
@[simp,go_sem] theorem Xr:(T 284).size=2:=rfl
@[simp,go_sem] theorem Xs:(T 284).bytes=32:=rfl
@[simp,go_sem] theorem Xt:(T 284).zero=[Go.Value.pointer none,Go.Value.slice none 0 0]:=rfl
@[simp,go_sem] theorem Xu:(T 298).kind=.other:=rfl
@[simp,go_sem] theorem Xv:(T 298).size=1:=rfl
@[simp,go_sem] theorem Xw:(T 298).bytes=8:=rfl
@[simp,go_sem] theorem Xx:(T 298).zero=[Go.Value.nilFunc]:=rfl
@[simp,go_sem] theorem Xy:(T 299).kind=.int .u32:=rfl
@[simp,go_sem] theorem Xz:(T 299).size=1:=rfl
@[simp,go_sem] theorem XA:(T 299).bytes=4:=rfl
@[simp,go_sem] theorem XB:(T 299).zero=[Go.Value.int Go.IntKind.u32 0]:=rfl
@[simp,go_sem] theorem XC:(T 302).kind=.int .u64:=rfl
@[simp,go_sem] theorem XD:(T 302).size=1:=rfl
@[simp,go_sem] theorem XE:(T 302).bytes=8:=rfl
@[simp,go_sem] theorem XF:(T 302).zero=[Go.Value.int Go.IntKind.u64 0]:=rfl
@[simp,go_sem] theorem XG:(T 310).kind=.int .i64:=rfl
@[simp,go_sem] theorem XH:(T 310).size=1:=rfl
@[simp,go_sem] theorem XI:(T 310).bytes=8:=rfl
@[simp,go_sem] theorem XJ:(T 310).zero=[Go.Value.int Go.IntKind.i64 0]:=rfl
end
end Go.Proofs.Qj
