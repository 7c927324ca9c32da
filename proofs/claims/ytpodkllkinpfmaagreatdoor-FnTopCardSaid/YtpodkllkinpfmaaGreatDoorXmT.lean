/- The types of the seat,and that they fit. Made by gentypes.py. -/
import Derived.Test.YtpodkllkinpfmaaGreatDoorXm31
import Derived.KernelRfl
import Derived.Test.YtpodkllkinpfmaaGreatDoorProg
set_option linter.all false
namespace Go.Proofs.Qm
open Go Tryz
def unkTy:Ty:=⟨.unknown,0,0,[],none⟩
def ty1:Ty:=⟨.other,1,8,[Go.Value.nilFunc],none⟩
def ty2:Ty:=⟨.int .i64,1,8,[Go.Value.int Go.IntKind.i64 0],none⟩
def ty3:Ty:=⟨.int .i64,1,8,[Go.Value.int Go.IntKind.i64 0],none⟩
def ty4:Ty:=⟨.bool,1,1,[Go.Value.bool false],none⟩
def ty5:Ty:=⟨.int .u8,1,1,[Go.Value.int Go.IntKind.u8 0],none⟩
def ty6:Ty:=⟨.int .u8,1,1,[Go.Value.int Go.IntKind.u8 0],none⟩
def ty7:Ty:=⟨.struct [(0,2),(1,3),(2,4),(3,6)],4,24,[Go.Value.int Go.IntKind.i64 0,Go.Value.int Go.IntKind.i64 0,Go.Value.bool false,Go.Value.int Go.IntKind.u8 0],none⟩
def ty8:Ty:=⟨.struct [(0,2),(1,3),(2,4),(3,6)],4,24,[Go.Value.int Go.IntKind.i64 0,Go.Value.int Go.IntKind.i64 0,Go.Value.bool false,Go.Value.int Go.IntKind.u8 0],none⟩
def ty9:Ty:=⟨.str,1,16,[Go.Value.string { data:=#[] }],none⟩
def ty10:Ty:=⟨.str,1,16,[Go.Value.string { data:=#[] }],none⟩
def ty20:Ty:=⟨.other,1,16,[Go.Value.nilIface],none⟩
def ty26:Ty:=⟨.slice 3,1,24,[Go.Value.slice none 0 0],none⟩
def ty31:Ty:=⟨.slice 9,1,24,[Go.Value.slice none 0 0],none⟩
def ty33:Ty:=⟨.slice 109,1,24,[Go.Value.slice none 0 0],none⟩
def ty34:Ty:=⟨.slice 133,1,24,[Go.Value.slice none 0 0],none⟩
def ty36:Ty:=⟨.struct [(0,33),(1,34),(2,3)],3,56,[Go.Value.slice none 0 0,Go.Value.slice none 0 0,Go.Value.int Go.IntKind.i64 0],none⟩
def ty38:Ty:=⟨.struct [(0,26),(1,26)],2,48,[Go.Value.slice none 0 0,Go.Value.slice none 0 0],none⟩
def ty47:Ty:=⟨.slice 5,1,24,[Go.Value.slice none 0 0],none⟩
def ty60:Ty:=⟨.struct [(0,3),(1,26),(2,26)],3,56,[Go.Value.int Go.IntKind.i64 0,Go.Value.slice none 0 0,Go.Value.slice none 0 0],none⟩
def ty61:Ty:=⟨.slice 147,1,24,[Go.Value.slice none 0 0],none⟩
def ty63:Ty:=⟨.struct [(0,36),(3,60),(6,4),(7,61)],8,144,[Go.Value.slice none 0 0,Go.Value.slice none 0 0,Go.Value.int Go.IntKind.i64 0,Go.Value.int Go.IntKind.i64 0,Go.Value.slice none 0 0,Go.Value.slice none 0 0,Go.Value.bool false,Go.Value.slice none 0 0],none⟩
def ty77:Ty:=⟨.slice 156,1,24,[Go.Value.slice none 0 0],none⟩
def ty79:Ty:=⟨.struct [(0,77),(1,26),(2,3)],3,56,[Go.Value.slice none 0 0,Go.Value.slice none 0 0,Go.Value.int Go.IntKind.i64 0],none⟩
def ty102:Ty:=⟨.slice 188,1,24,[Go.Value.slice none 0 0],none⟩
def ty104:Ty:=⟨.struct [(0,3),(1,102)],2,32,[Go.Value.int Go.IntKind.i64 0,Go.Value.slice none 0 0],none⟩
def ty109:Ty:=⟨.struct [(0,9),(1,26),(2,3)],3,48,[Go.Value.string { data:=#[] },Go.Value.slice none 0 0,Go.Value.int Go.IntKind.i64 0],none⟩
def ty111:Ty:=⟨.struct [(0,3),(1,3)],2,16,[Go.Value.int Go.IntKind.i64 0,Go.Value.int Go.IntKind.i64 0],some [(0,3),(1,3)]⟩
def ty125:Ty:=⟨.other,1,8,[Go.Value.pointer none],none⟩
def ty133:Ty:=⟨.struct [(0,3),(1,3),(2,3),(3,3),(4,4)],5,40,[Go.Value.int Go.IntKind.i64 0,Go.Value.int Go.IntKind.i64 0,Go.Value.int Go.IntKind.i64 0,Go.Value.int Go.IntKind.i64 0,Go.Value.bool false],some [(0,3),(1,3),(2,3),(3,3),(4,4)]⟩
def ty147:Ty:=⟨.struct [(0,3),(1,26),(2,26),(3,26)],4,80,[Go.Value.int Go.IntKind.i64 0,Go.Value.slice none 0 0,Go.Value.slice none 0 0,Go.Value.slice none 0 0],none⟩
def ty156:Ty:=⟨.struct [(0,9),(1,3),(2,4),(3,3),(4,3),(5,3),(6,3),(7,4),(8,3),(9,3),(10,3)],11,96,[Go.Value.string { data:=#[] },Go.Value.int Go.IntKind.i64 0,Go.Value.bool false,Go.Value.int Go.IntKind.i64 0,Go.Value.int Go.IntKind.i64 0,Go.Value.int Go.IntKind.i64 0,Go.Value.int Go.IntKind.i64 0,Go.Value.bool false,Go.Value.int Go.IntKind.i64 0,Go.Value.int Go.IntKind.i64 0,Go.Value.int Go.IntKind.i64 0],some [(0,9),(1,3),(2,4),(3,3),(4,3),(5,3),(6,3),(7,4),(8,3),(9,3),(10,3)]⟩
def ty163:Ty:=⟨.other,1,8,[Go.Value.nilFunc],none⟩
def ty164:Ty:=⟨.other,1,8,[Go.Value.pointer none],none⟩
def ty167:Ty:=⟨.slice 26,1,24,[Go.Value.slice none 0 0],none⟩
def ty186:Ty:=⟨.slice 4,1,24,[Go.Value.slice none 0 0],none⟩
def ty188:Ty:=⟨.struct [(0,3),(1,3),(2,111)],4,32,[Go.Value.int Go.IntKind.i64 0,Go.Value.int Go.IntKind.i64 0,Go.Value.int Go.IntKind.i64 0,Go.Value.int Go.IntKind.i64 0],none⟩
def ty192:Ty:=⟨.slice 260,1,24,[Go.Value.slice none 0 0],none⟩
def ty194:Ty:=⟨.struct [(0,3),(1,192)],2,32,[Go.Value.int Go.IntKind.i64 0,Go.Value.slice none 0 0],none⟩
def ty198:Ty:=⟨.struct [(0,3),(1,26)],2,32,[Go.Value.int Go.IntKind.i64 0,Go.Value.slice none 0 0],none⟩
def ty213:Ty:=⟨.struct [(0,47),(1,3),(2,3)],3,40,[Go.Value.slice none 0 0,Go.Value.int Go.IntKind.i64 0,Go.Value.int Go.IntKind.i64 0],none⟩
def ty217:Ty:=⟨.other,1,8,[Go.Value.nilFunc],none⟩
def ty219:Ty:=⟨.other,1,8,[Go.Value.nilFunc],none⟩
def ty222:Ty:=⟨.other,1,8,[Go.Value.nilFunc],none⟩
def ty233:Ty:=⟨.other,1,8,[Go.Value.nilFunc],none⟩
def ty235:Ty:=⟨.other,1,8,[Go.Value.nilFunc],none⟩
def ty239:Ty:=⟨.other,1,8,[Go.Value.nilFunc],none⟩
def ty241:Ty:=⟨.map 9 4,1,8,[Go.Value.map none],none⟩
def ty243:Ty:=⟨.struct [(0,36),(3,241)],4,64,[Go.Value.slice none 0 0,Go.Value.slice none 0 0,Go.Value.int Go.IntKind.i64 0,Go.Value.map none],none⟩
def ty250:Ty:=⟨.int .u64,1,8,[Go.Value.int Go.IntKind.u64 0],none⟩
def ty260:Ty:=⟨.struct [(0,3),(1,3),(2,3)],3,24,[Go.Value.int Go.IntKind.i64 0,Go.Value.int Go.IntKind.i64 0,Go.Value.int Go.IntKind.i64 0],some [(0,3),(1,3),(2,3)]⟩
def ty266:Ty:=⟨.other,1,8,[Go.Value.nilFunc],none⟩
def ty269:Ty:=⟨.other,1,8,[Go.Value.nilFunc],none⟩
def ty282:Ty:=⟨.other,1,8,[Go.Value.pointer none],none⟩
def ty284:Ty:=⟨.struct [(0,282),(1,47)],2,32,[Go.Value.pointer none,Go.Value.slice none 0 0],none⟩
def ty298:Ty:=⟨.other,1,8,[Go.Value.nilFunc],none⟩
def ty299:Ty:=⟨.int .u32,1,4,[Go.Value.int Go.IntKind.u32 0],none⟩
def ty302:Ty:=⟨.int .u64,1,8,[Go.Value.int Go.IntKind.u64 0],none⟩
def ty310:Ty:=⟨.int .i64,1,8,[Go.Value.int Go.IntKind.i64 0],none⟩
def tys:List Ty:=[unkTy,ty1,ty2,ty3,ty4,ty5,ty6,ty7,ty8,ty9,ty10,unkTy,unkTy,unkTy,unkTy,unkTy,unkTy,unkTy,unkTy,unkTy,ty20,unkTy,unkTy,unkTy,unkTy,unkTy,ty26,unkTy,unkTy,unkTy,unkTy,ty31,unkTy,ty33,ty34,unkTy,ty36,unkTy,ty38,unkTy,unkTy,unkTy,unkTy,unkTy,unkTy,unkTy,unkTy,ty47,unkTy,unkTy,unkTy,unkTy,unkTy,unkTy,unkTy,unkTy,unkTy,unkTy,unkTy,unkTy,ty60,ty61,unkTy,ty63,unkTy,unkTy,unkTy,unkTy,unkTy,unkTy,unkTy,unkTy,unkTy,unkTy,unkTy,unkTy,unkTy,ty77,unkTy,ty79,unkTy,unkTy,unkTy,unkTy,unkTy,unkTy,unkTy,unkTy,unkTy,unkTy,unkTy,unkTy,unkTy,unkTy,unkTy,unkTy,unkTy,unkTy,unkTy,unkTy,unkTy,unkTy,ty102,unkTy,ty104,unkTy,unkTy,unkTy,unkTy,ty109,unkTy,ty111,unkTy,unkTy,unkTy,unkTy,unkTy,unkTy,unkTy,unkTy,unkTy,unkTy,unkTy,unkTy,unkTy,ty125,unkTy,unkTy,unkTy,unkTy,unkTy,unkTy,unkTy,ty133,unkTy,unkTy,unkTy,unkTy,unkTy,unkTy,unkTy,unkTy,unkTy,unkTy,unkTy,unkTy,unkTy,ty147,unkTy,unkTy,unkTy,unkTy,unkTy,unkTy,unkTy,unkTy,ty156,unkTy,unkTy,unkTy,unkTy,unkTy,unkTy,ty163,ty164,unkTy,unkTy,ty167,unkTy,unkTy,unkTy,unkTy,unkTy,unkTy,unkTy,unkTy,unkTy,unkTy,unkTy,unkTy,unkTy,unkTy,unkTy,unkTy,unkTy,unkTy,ty186,unkTy,ty188,unkTy,unkTy,unkTy,ty192,unkTy,ty194,unkTy,unkTy,unkTy,ty198,unkTy,unkTy,unkTy,unkTy,unkTy,unkTy,unkTy,unkTy,unkTy,unkTy,unkTy,unkTy,unkTy,unkTy,ty213,unkTy,unkTy,unkTy,ty217,unkTy,ty219,unkTy,unkTy,ty222,unkTy,unkTy,unkTy,unkTy,unkTy,unkTy,unkTy,unkTy,unkTy,unkTy,ty233,unkTy,ty235,unkTy,unkTy,unkTy,ty239,unkTy,ty241,unkTy,ty243,unkTy,unkTy,unkTy,unkTy,unkTy,unkTy,ty250,unkTy,unkTy,unkTy,unkTy,unkTy,unkTy,unkTy,unkTy,unkTy,ty260,unkTy,unkTy,unkTy,unkTy,unkTy,ty266,unkTy,unkTy,ty269,unkTy,unkTy,unkTy,unkTy,unkTy,unkTy,unkTy,unkTy,unkTy,unkTy,unkTy,unkTy,ty282,unkTy,ty284,unkTy,unkTy,unkTy,unkTy,unkTy,unkTy,unkTy,unkTy,unkTy,unkTy,unkTy,unkTy,unkTy,ty298,ty299,unkTy,unkTy,ty302,unkTy,unkTy,unkTy,unkTy,unkTy,unkTy,unkTy,ty310]
def T (t:Nat):Ty:=tys.getD t unkTy
inductive bH (P:Program):Nat→List Ty→Prop
 | nil (k:Nat):bH P k []
 | cons {k:Nat} {ty:Ty} {l:List Ty} (h:TyOk P k ty) (r:bH P (k+1) l):bH P k (ty::l)
theorem bH.get {P:Program}:∀ {l:List Ty} {k:Nat},bH P k l→∀ i,TyOk P (k+i) (l.getD i unkTy)
 | _,_,.nil _,i=>by simp[unkTy,TyOk]
 | _,_,.cons h r,0=>h
 | _,_,.cons (k:=k) h r,i+1=>by
  have:=r.get i
  rw[show k+1+i=k+(i+1) by omega]at this
  simpa using this
theorem ah (P:Program)(t:Nat):TyOk P t unkTy:=by simp[unkTy,TyOk]
theorem aM {P:Program}{t:Nat}{ty:Ty}{i:TypeInfo}{z:Value}(hs:t<P.types.size)(h1:P.types[t]?=some i)(h2:i.zero=some z)(h:i.size=ty.size∧i.bytes=ty.bytes∧z.cells.toList=ty.zero∧ty.zero.length=ty.size)(h3:ty.zero.all (fun v=>v.oneCell')=true)(h4:fB P t ty.kind)(h5:∀ fs,ty.eqs=some fs→∃ fields:Array Field,P.underlying t=some (.struct fields)∧fields.toList.map (fun f=>(f.offset,f.type))=fs∧(∀ f,f∈fields.toList→f.name ≠ "_")∧P.stoodInHeld t=false∧P.eqGuardType P.depth t=false):TyOk P t ty:=by
 unfold TyOk
 split
 ·trivial
 exact⟨⟨i,z,(by unfold Tables.info?;rw[if_pos hs];exact h1),h.1,h.2.1,h2,h.2.2.1,h.2.2.2⟩,fun v hv=>List.all_eq_true.1 h3 v hv,h4,h5⟩
theorem aaE:TyOk prog 1 ty1:=aM (i:=Tryz.t1) (by rw[types_size];decide) type1 rfl ⟨rfl,rfl,rfl,rfl⟩ rfl (by exact⟨_,underlying1,rfl⟩) (by intro fs h;cases h)
theorem aaF:TyOk prog 2 ty2:=aM (i:=Tryz.t2) (by rw[types_size];decide) type2 rfl ⟨rfl,rfl,rfl,rfl⟩ rfl (by exact underlying2) (by intro fs h;cases h)
theorem aaG:TyOk prog 3 ty3:=aM (i:=Tryz.t3) (by rw[types_size];decide) type3 rfl ⟨rfl,rfl,rfl,rfl⟩ rfl (by exact underlying3) (by intro fs h;cases h)
theorem aaH:TyOk prog 4 ty4:=aM (i:=Tryz.t4) (by rw[types_size];decide) type4 rfl ⟨rfl,rfl,rfl,rfl⟩ rfl (by exact underlying4) (by intro fs h;cases h)
theorem aaI:TyOk prog 5 ty5:=aM (i:=Tryz.t5) (by rw[types_size];decide) type5 rfl ⟨rfl,rfl,rfl,rfl⟩ rfl (by exact underlying5) (by intro fs h;cases h)
theorem aaJ:TyOk prog 6 ty6:=aM (i:=Tryz.t6) (by rw[types_size];decide) type6 rfl ⟨rfl,rfl,rfl,rfl⟩ rfl (by exact underlying6) (by intro fs h;cases h)
theorem aaK:TyOk prog 7 ty7:=aM (i:=Tryz.t7) (by rw[types_size];decide) type7 rfl ⟨rfl,rfl,rfl,rfl⟩ rfl (by exact⟨_,underlying7,rfl⟩) (by intro fs h;cases h)
theorem aaL:TyOk prog 8 ty8:=aM (i:=Tryz.t8) (by rw[types_size];decide) type8 rfl ⟨rfl,rfl,rfl,rfl⟩ rfl (by exact⟨_,underlying8,rfl⟩) (by intro fs h;cases h)
theorem aaM:TyOk prog 9 ty9:=aM (i:=Tryz.t9) (by rw[types_size];decide) type9 rfl ⟨rfl,rfl,rfl,rfl⟩ rfl (by exact underlying9) (by intro fs h;cases h)
theorem ZA:TyOk prog 10 ty10:=aM (i:=Tryz.t10) (by rw[types_size];decide) type10 rfl ⟨rfl,rfl,rfl,rfl⟩ rfl (by exact underlying10) (by intro fs h;cases h)
theorem ZB:TyOk prog 20 ty20:=aM (i:=Tryz.t20) (by rw[types_size];decide) type20 rfl ⟨rfl,rfl,rfl,rfl⟩ rfl (by exact⟨_,underlying20,rfl⟩) (by intro fs h;cases h)
theorem ZC:TyOk prog 26 ty26:=aM (i:=Tryz.t26) (by rw[types_size];decide) type26 rfl ⟨rfl,rfl,rfl,rfl⟩ rfl (by exact underlying26) (by intro fs h;cases h)
theorem ZD:TyOk prog 31 ty31:=aM (i:=Tryz.t31) (by rw[types_size];decide) type31 rfl ⟨rfl,rfl,rfl,rfl⟩ rfl (by exact underlying31) (by intro fs h;cases h)
theorem ZE:TyOk prog 33 ty33:=aM (i:=Tryz.t33) (by rw[types_size];decide) type33 rfl ⟨rfl,rfl,rfl,rfl⟩ rfl (by exact underlying33) (by intro fs h;cases h)
theorem ZF:TyOk prog 34 ty34:=aM (i:=Tryz.t34) (by rw[types_size];decide) type34 rfl ⟨rfl,rfl,rfl,rfl⟩ rfl (by exact underlying34) (by intro fs h;cases h)
theorem ZG:TyOk prog 36 ty36:=aM (i:=Tryz.t36) (by rw[types_size];decide) type36 rfl ⟨rfl,rfl,rfl,rfl⟩ rfl (by exact⟨_,underlying36,rfl⟩) (by intro fs h;cases h)
theorem ZH:TyOk prog 38 ty38:=aM (i:=Tryz.t38) (by rw[types_size];decide) type38 rfl ⟨rfl,rfl,rfl,rfl⟩ rfl (by exact⟨_,underlying38,rfl⟩) (by intro fs h;cases h)
theorem ZI:TyOk prog 47 ty47:=aM (i:=Tryz.t47) (by rw[types_size];decide) type47 rfl ⟨rfl,rfl,rfl,rfl⟩ rfl (by exact underlying47) (by intro fs h;cases h)
theorem ZJ:TyOk prog 60 ty60:=aM (i:=Tryz.t60) (by rw[types_size];decide) type60 rfl ⟨rfl,rfl,rfl,rfl⟩ rfl (by exact⟨_,underlying60,rfl⟩) (by intro fs h;cases h)
theorem ZK:TyOk prog 61 ty61:=aM (i:=Tryz.t61) (by rw[types_size];decide) type61 rfl ⟨rfl,rfl,rfl,rfl⟩ rfl (by exact underlying61) (by intro fs h;cases h)
theorem ZL:TyOk prog 63 ty63:=aM (i:=Tryz.t63) (by rw[types_size];decide) type63 rfl ⟨rfl,rfl,rfl,rfl⟩ rfl (by exact⟨_,underlying63,rfl⟩) (by intro fs h;cases h)
theorem ZM:TyOk prog 77 ty77:=aM (i:=Tryz.t77) (by rw[types_size];decide) type77 rfl ⟨rfl,rfl,rfl,rfl⟩ rfl (by exact underlying77) (by intro fs h;cases h)
theorem ZN:TyOk prog 79 ty79:=aM (i:=Tryz.t79) (by rw[types_size];decide) type79 rfl ⟨rfl,rfl,rfl,rfl⟩ rfl (by exact⟨_,underlying79,rfl⟩) (by intro fs h;cases h)
theorem VD:TyOk prog 102 ty102:=aM (i:=Tryz.t102) (by rw[types_size];decide) type102 rfl ⟨rfl,rfl,rfl,rfl⟩ rfl (by exact underlying102) (by intro fs h;cases h)
theorem VE:TyOk prog 104 ty104:=aM (i:=Tryz.t104) (by rw[types_size];decide) type104 rfl ⟨rfl,rfl,rfl,rfl⟩ rfl (by exact⟨_,underlying104,rfl⟩) (by intro fs h;cases h)
theorem VG:TyOk prog 109 ty109:=aM (i:=Tryz.t109) (by rw[types_size];decide) type109 rfl ⟨rfl,rfl,rfl,rfl⟩ rfl (by exact⟨_,underlying109,rfl⟩) (by intro fs h;cases h)
theorem VH:TyOk prog 111 ty111:=aM (i:=Tryz.t111) (by rw[types_size];decide) type111 rfl ⟨rfl,rfl,rfl,rfl⟩ rfl (by exact⟨_,underlying111,rfl⟩) (by intro fs h;cases h;exact⟨_,underlying111,rfl,by decide,by kernel_rfl,by kernel_rfl⟩)
theorem VI:TyOk prog 125 ty125:=aM (i:=Tryz.t125) (by rw[types_size];decide) type125 rfl ⟨rfl,rfl,rfl,rfl⟩ rfl (by exact⟨_,underlying125,rfl⟩) (by intro fs h;cases h)
theorem VJ:TyOk prog 133 ty133:=aM (i:=Tryz.t133) (by rw[types_size];decide) type133 rfl ⟨rfl,rfl,rfl,rfl⟩ rfl (by exact⟨_,underlying133,rfl⟩) (by intro fs h;cases h;exact⟨_,underlying133,rfl,by decide,by kernel_rfl,by kernel_rfl⟩)
theorem VK:TyOk prog 147 ty147:=aM (i:=Tryz.t147) (by rw[types_size];decide) type147 rfl ⟨rfl,rfl,rfl,rfl⟩ rfl (by exact⟨_,underlying147,rfl⟩) (by intro fs h;cases h)
theorem VL:TyOk prog 156 ty156:=aM (i:=Tryz.t156) (by rw[types_size];decide) type156 rfl ⟨rfl,rfl,rfl,rfl⟩ rfl (by exact⟨_,underlying156,rfl⟩) (by intro fs h;cases h;exact⟨_,underlying156,rfl,by decide,by kernel_rfl,by kernel_rfl⟩)
theorem VM:TyOk prog 163 ty163:=aM (i:=Tryz.t163) (by rw[types_size];decide) type163 rfl ⟨rfl,rfl,rfl,rfl⟩ rfl (by exact⟨_,underlying163,rfl⟩) (by intro fs h;cases h)
theorem VN:TyOk prog 164 ty164:=aM (i:=Tryz.t164) (by rw[types_size];decide) type164 rfl ⟨rfl,rfl,rfl,rfl⟩ rfl (by exact⟨_,underlying164,rfl⟩) (by intro fs h;cases h)
theorem VO:TyOk prog 167 ty167:=aM (i:=Tryz.t167) (by rw[types_size];decide) type167 rfl ⟨rfl,rfl,rfl,rfl⟩ rfl (by exact underlying167) (by intro fs h;cases h)
theorem VP:TyOk prog 186 ty186:=aM (i:=Tryz.t186) (by rw[types_size];decide) type186 rfl ⟨rfl,rfl,rfl,rfl⟩ rfl (by exact underlying186) (by intro fs h;cases h)
theorem VQ:TyOk prog 188 ty188:=aM (i:=Tryz.t188) (by rw[types_size];decide) type188 rfl ⟨rfl,rfl,rfl,rfl⟩ rfl (by exact⟨_,underlying188,rfl⟩) (by intro fs h;cases h)
theorem VR:TyOk prog 192 ty192:=aM (i:=Tryz.t192) (by rw[types_size];decide) type192 rfl ⟨rfl,rfl,rfl,rfl⟩ rfl (by exact underlying192) (by intro fs h;cases h)
theorem VS:TyOk prog 194 ty194:=aM (i:=Tryz.t194) (by rw[types_size];decide) type194 rfl ⟨rfl,rfl,rfl,rfl⟩ rfl (by exact⟨_,underlying194,rfl⟩) (by intro fs h;cases h)
theorem VT:TyOk prog 198 ty198:=aM (i:=Tryz.t198) (by rw[types_size];decide) type198 rfl ⟨rfl,rfl,rfl,rfl⟩ rfl (by exact⟨_,underlying198,rfl⟩) (by intro fs h;cases h)
theorem VU:TyOk prog 213 ty213:=aM (i:=Tryz.t213) (by rw[types_size];decide) type213 rfl ⟨rfl,rfl,rfl,rfl⟩ rfl (by exact⟨_,underlying213,rfl⟩) (by intro fs h;cases h)
theorem VV:TyOk prog 217 ty217:=aM (i:=Tryz.t217) (by rw[types_size];decide) type217 rfl ⟨rfl,rfl,rfl,rfl⟩ rfl (by exact⟨_,underlying217,rfl⟩) (by intro fs h;cases h)
theorem VW:TyOk prog 219 ty219:=aM (i:=Tryz.t219) (by rw[types_size];decide) type219 rfl ⟨rfl,rfl,rfl,rfl⟩ rfl (by exact⟨_,underlying219,rfl⟩) (by intro fs h;cases h)
theorem VX:TyOk prog 222 ty222:=aM (i:=Tryz.t222) (by rw[types_size];decide) type222 rfl ⟨rfl,rfl,rfl,rfl⟩ rfl (by exact⟨_,underlying222,rfl⟩) (by intro fs h;cases h)
theorem VY:TyOk prog 233 ty233:=aM (i:=Tryz.t233) (by rw[types_size];decide) type233 rfl ⟨rfl,rfl,rfl,rfl⟩ rfl (by exact⟨_,underlying233,rfl⟩) (by intro fs h;cases h)
theorem VZ:TyOk prog 235 ty235:=aM (i:=Tryz.t235) (by rw[types_size];decide) type235 rfl ⟨rfl,rfl,rfl,rfl⟩ rfl (by exact⟨_,underlying235,rfl⟩) (by intro fs h;cases h)
theorem Wa:TyOk prog 239 ty239:=aM (i:=Tryz.t239) (by rw[types_size];decide) type239 rfl ⟨rfl,rfl,rfl,rfl⟩ rfl (by exact⟨_,underlying239,rfl⟩) (by intro fs h;cases h)
theorem Wb:TyOk prog 241 ty241:=aM (i:=Tryz.t241) (by rw[types_size];decide) type241 rfl ⟨rfl,rfl,rfl,rfl⟩ rfl (by exact underlying241) (by intro fs h;cases h)
theorem Wc:TyOk prog 243 ty243:=aM (i:=Tryz.t243) (by rw[types_size];decide) type243 rfl ⟨rfl,rfl,rfl,rfl⟩ rfl (by exact⟨_,underlying243,rfl⟩) (by intro fs h;cases h)
theorem Wd:TyOk prog 250 ty250:=aM (i:=Tryz.t250) (by rw[types_size];decide) type250 rfl ⟨rfl,rfl,rfl,rfl⟩ rfl (by exact underlying250) (by intro fs h;cases h)
theorem We:TyOk prog 260 ty260:=aM (i:=Tryz.t260) (by rw[types_size];decide) type260 rfl ⟨rfl,rfl,rfl,rfl⟩ rfl (by exact⟨_,underlying260,rfl⟩) (by intro fs h;cases h;exact⟨_,underlying260,rfl,by decide,by kernel_rfl,by kernel_rfl⟩)
theorem Wf:TyOk prog 266 ty266:=aM (i:=Tryz.t266) (by rw[types_size];decide) type266 rfl ⟨rfl,rfl,rfl,rfl⟩ rfl (by exact⟨_,underlying266,rfl⟩) (by intro fs h;cases h)
theorem Wg:TyOk prog 269 ty269:=aM (i:=Tryz.t269) (by rw[types_size];decide) type269 rfl ⟨rfl,rfl,rfl,rfl⟩ rfl (by exact⟨_,underlying269,rfl⟩) (by intro fs h;cases h)
theorem Wh:TyOk prog 282 ty282:=aM (i:=Tryz.t282) (by rw[types_size];decide) type282 rfl ⟨rfl,rfl,rfl,rfl⟩ rfl (by exact⟨_,underlying282,rfl⟩) (by intro fs h;cases h)
theorem Wi:TyOk prog 284 ty284:=aM (i:=Tryz.t284) (by rw[types_size];decide) type284 rfl ⟨rfl,rfl,rfl,rfl⟩ rfl (by exact⟨_,underlying284,rfl⟩) (by intro fs h;cases h)
theorem Wj:TyOk prog 298 ty298:=aM (i:=Tryz.t298) (by rw[types_size];decide) type298 rfl ⟨rfl,rfl,rfl,rfl⟩ rfl (by exact⟨_,underlying298,rfl⟩) (by intro fs h;cases h)
theorem Wk:TyOk prog 299 ty299:=aM (i:=Tryz.t299) (by rw[types_size];decide) type299 rfl ⟨rfl,rfl,rfl,rfl⟩ rfl (by exact underlying299) (by intro fs h;cases h)
theorem Wl:TyOk prog 302 ty302:=aM (i:=Tryz.t302) (by rw[types_size];decide) type302 rfl ⟨rfl,rfl,rfl,rfl⟩ rfl (by exact underlying302) (by intro fs h;cases h)
theorem Wm:TyOk prog 310 ty310:=aM (i:=Tryz.t310) (by rw[types_size];decide) type310 rfl ⟨rfl,rfl,rfl,rfl⟩ rfl (by exact underlying310) (by intro fs h;cases h)
theorem ZO {l:List Ty}(r:bH prog 16 l):bH prog 0 (unkTy::ty1::ty2::ty3::ty4::ty5::ty6::ty7::ty8::ty9::ty10::unkTy::unkTy::unkTy::unkTy::unkTy::l):=
 .cons (ah _ _) (.cons aaE (.cons aaF (.cons aaG (.cons aaH (.cons aaI (.cons aaJ (.cons aaK (.cons aaL (.cons aaM (.cons ZA (.cons (ah _ _) (.cons (ah _ _) (.cons (ah _ _) (.cons (ah _ _) (.cons (ah _ _) (r))))))))))))))))
theorem Wn {l:List Ty}(r:bH prog 32 l):bH prog 16 (unkTy::unkTy::unkTy::unkTy::ty20::unkTy::unkTy::unkTy::unkTy::unkTy::ty26::unkTy::unkTy::unkTy::unkTy::ty31::l):=
 .cons (ah _ _) (.cons (ah _ _) (.cons (ah _ _) (.cons (ah _ _) (.cons ZB (.cons (ah _ _) (.cons (ah _ _) (.cons (ah _ _) (.cons (ah _ _) (.cons (ah _ _) (.cons ZC (.cons (ah _ _) (.cons (ah _ _) (.cons (ah _ _) (.cons (ah _ _) (.cons ZD (r))))))))))))))))
theorem Wo {l:List Ty}(r:bH prog 48 l):bH prog 32 (unkTy::ty33::ty34::unkTy::ty36::unkTy::ty38::unkTy::unkTy::unkTy::unkTy::unkTy::unkTy::unkTy::unkTy::ty47::l):=
 .cons (ah _ _) (.cons ZE (.cons ZF (.cons (ah _ _) (.cons ZG (.cons (ah _ _) (.cons ZH (.cons (ah _ _) (.cons (ah _ _) (.cons (ah _ _) (.cons (ah _ _) (.cons (ah _ _) (.cons (ah _ _) (.cons (ah _ _) (.cons (ah _ _) (.cons ZI (r))))))))))))))))
theorem Wp {l:List Ty}(r:bH prog 64 l):bH prog 48 (unkTy::unkTy::unkTy::unkTy::unkTy::unkTy::unkTy::unkTy::unkTy::unkTy::unkTy::unkTy::ty60::ty61::unkTy::ty63::l):=
 .cons (ah _ _) (.cons (ah _ _) (.cons (ah _ _) (.cons (ah _ _) (.cons (ah _ _) (.cons (ah _ _) (.cons (ah _ _) (.cons (ah _ _) (.cons (ah _ _) (.cons (ah _ _) (.cons (ah _ _) (.cons (ah _ _) (.cons ZJ (.cons ZK (.cons (ah _ _) (.cons ZL (r))))))))))))))))
theorem Wq {l:List Ty}(r:bH prog 80 l):bH prog 64 (unkTy::unkTy::unkTy::unkTy::unkTy::unkTy::unkTy::unkTy::unkTy::unkTy::unkTy::unkTy::unkTy::ty77::unkTy::ty79::l):=
 .cons (ah _ _) (.cons (ah _ _) (.cons (ah _ _) (.cons (ah _ _) (.cons (ah _ _) (.cons (ah _ _) (.cons (ah _ _) (.cons (ah _ _) (.cons (ah _ _) (.cons (ah _ _) (.cons (ah _ _) (.cons (ah _ _) (.cons (ah _ _) (.cons ZM (.cons (ah _ _) (.cons ZN (r))))))))))))))))
theorem Wr {l:List Ty}(r:bH prog 96 l):bH prog 80 (unkTy::unkTy::unkTy::unkTy::unkTy::unkTy::unkTy::unkTy::unkTy::unkTy::unkTy::unkTy::unkTy::unkTy::unkTy::unkTy::l):=
 .cons (ah _ _) (.cons (ah _ _) (.cons (ah _ _) (.cons (ah _ _) (.cons (ah _ _) (.cons (ah _ _) (.cons (ah _ _) (.cons (ah _ _) (.cons (ah _ _) (.cons (ah _ _) (.cons (ah _ _) (.cons (ah _ _) (.cons (ah _ _) (.cons (ah _ _) (.cons (ah _ _) (.cons (ah _ _) (r))))))))))))))))
theorem Ws {l:List Ty}(r:bH prog 112 l):bH prog 96 (unkTy::unkTy::unkTy::unkTy::unkTy::unkTy::ty102::unkTy::ty104::unkTy::unkTy::unkTy::unkTy::ty109::unkTy::ty111::l):=
 .cons (ah _ _) (.cons (ah _ _) (.cons (ah _ _) (.cons (ah _ _) (.cons (ah _ _) (.cons (ah _ _) (.cons VD (.cons (ah _ _) (.cons VE (.cons (ah _ _) (.cons (ah _ _) (.cons (ah _ _) (.cons (ah _ _) (.cons VG (.cons (ah _ _) (.cons VH (r))))))))))))))))
theorem Tp {l:List Ty}(r:bH prog 128 l):bH prog 112 (unkTy::unkTy::unkTy::unkTy::unkTy::unkTy::unkTy::unkTy::unkTy::unkTy::unkTy::unkTy::unkTy::ty125::unkTy::unkTy::l):=
 .cons (ah _ _) (.cons (ah _ _) (.cons (ah _ _) (.cons (ah _ _) (.cons (ah _ _) (.cons (ah _ _) (.cons (ah _ _) (.cons (ah _ _) (.cons (ah _ _) (.cons (ah _ _) (.cons (ah _ _) (.cons (ah _ _) (.cons (ah _ _) (.cons VI (.cons (ah _ _) (.cons (ah _ _) (r))))))))))))))))
theorem Tq {l:List Ty}(r:bH prog 144 l):bH prog 128 (unkTy::unkTy::unkTy::unkTy::unkTy::ty133::unkTy::unkTy::unkTy::unkTy::unkTy::unkTy::unkTy::unkTy::unkTy::unkTy::l):=
 .cons (ah _ _) (.cons (ah _ _) (.cons (ah _ _) (.cons (ah _ _) (.cons (ah _ _) (.cons VJ (.cons (ah _ _) (.cons (ah _ _) (.cons (ah _ _) (.cons (ah _ _) (.cons (ah _ _) (.cons (ah _ _) (.cons (ah _ _) (.cons (ah _ _) (.cons (ah _ _) (.cons (ah _ _) (r))))))))))))))))
theorem Tr {l:List Ty}(r:bH prog 160 l):bH prog 144 (unkTy::unkTy::unkTy::ty147::unkTy::unkTy::unkTy::unkTy::unkTy::unkTy::unkTy::unkTy::ty156::unkTy::unkTy::unkTy::l):=
 .cons (ah _ _) (.cons (ah _ _) (.cons (ah _ _) (.cons VK (.cons (ah _ _) (.cons (ah _ _) (.cons (ah _ _) (.cons (ah _ _) (.cons (ah _ _) (.cons (ah _ _) (.cons (ah _ _) (.cons (ah _ _) (.cons VL (.cons (ah _ _) (.cons (ah _ _) (.cons (ah _ _) (r))))))))))))))))
theorem Ts {l:List Ty}(r:bH prog 176 l):bH prog 160 (unkTy::unkTy::unkTy::ty163::ty164::unkTy::unkTy::ty167::unkTy::unkTy::unkTy::unkTy::unkTy::unkTy::unkTy::unkTy::l):=
 .cons (ah _ _) (.cons (ah _ _) (.cons (ah _ _) (.cons VM (.cons VN (.cons (ah _ _) (.cons (ah _ _) (.cons VO (.cons (ah _ _) (.cons (ah _ _) (.cons (ah _ _) (.cons (ah _ _) (.cons (ah _ _) (.cons (ah _ _) (.cons (ah _ _) (.cons (ah _ _) (r))))))))))))))))
theorem Tt {l:List Ty}(r:bH prog 192 l):bH prog 176 (unkTy::unkTy::unkTy::unkTy::unkTy::unkTy::unkTy::unkTy::unkTy::unkTy::ty186::unkTy::ty188::unkTy::unkTy::unkTy::l):=
 .cons (ah _ _) (.cons (ah _ _) (.cons (ah _ _) (.cons (ah _ _) (.cons (ah _ _) (.cons (ah _ _) (.cons (ah _ _) (.cons (ah _ _) (.cons (ah _ _) (.cons (ah _ _) (.cons VP (.cons (ah _ _) (.cons VQ (.cons (ah _ _) (.cons (ah _ _) (.cons (ah _ _) (r))))))))))))))))
theorem Tu {l:List Ty}(r:bH prog 208 l):bH prog 192 (ty192::unkTy::ty194::unkTy::unkTy::unkTy::ty198::unkTy::unkTy::unkTy::unkTy::unkTy::unkTy::unkTy::unkTy::unkTy::l):=
 .cons VR (.cons (ah _ _) (.cons VS (.cons (ah _ _) (.cons (ah _ _) (.cons (ah _ _) (.cons VT (.cons (ah _ _) (.cons (ah _ _) (.cons (ah _ _) (.cons (ah _ _) (.cons (ah _ _) (.cons (ah _ _) (.cons (ah _ _) (.cons (ah _ _) (.cons (ah _ _) (r))))))))))))))))
theorem Tv {l:List Ty}(r:bH prog 224 l):bH prog 208 (unkTy::unkTy::unkTy::unkTy::unkTy::ty213::unkTy::unkTy::unkTy::ty217::unkTy::ty219::unkTy::unkTy::ty222::unkTy::l):=
 .cons (ah _ _) (.cons (ah _ _) (.cons (ah _ _) (.cons (ah _ _) (.cons (ah _ _) (.cons VU (.cons (ah _ _) (.cons (ah _ _) (.cons (ah _ _) (.cons VV (.cons (ah _ _) (.cons VW (.cons (ah _ _) (.cons (ah _ _) (.cons VX (.cons (ah _ _) (r))))))))))))))))
theorem Tw {l:List Ty}(r:bH prog 240 l):bH prog 224 (unkTy::unkTy::unkTy::unkTy::unkTy::unkTy::unkTy::unkTy::unkTy::ty233::unkTy::ty235::unkTy::unkTy::unkTy::ty239::l):=
 .cons (ah _ _) (.cons (ah _ _) (.cons (ah _ _) (.cons (ah _ _) (.cons (ah _ _) (.cons (ah _ _) (.cons (ah _ _) (.cons (ah _ _) (.cons (ah _ _) (.cons VY (.cons (ah _ _) (.cons VZ (.cons (ah _ _) (.cons (ah _ _) (.cons (ah _ _) (.cons Wa (r))))))))))))))))
theorem Tx {l:List Ty}(r:bH prog 256 l):bH prog 240 (unkTy::ty241::unkTy::ty243::unkTy::unkTy::unkTy::unkTy::unkTy::unkTy::ty250::unkTy::unkTy::unkTy::unkTy::unkTy::l):=
 .cons (ah _ _) (.cons Wb (.cons (ah _ _) (.cons Wc (.cons (ah _ _) (.cons (ah _ _) (.cons (ah _ _) (.cons (ah _ _) (.cons (ah _ _) (.cons (ah _ _) (.cons Wd (.cons (ah _ _) (.cons (ah _ _) (.cons (ah _ _) (.cons (ah _ _) (.cons (ah _ _) (r))))))))))))))))
theorem Tz {l:List Ty}(r:bH prog 272 l):bH prog 256 (unkTy::unkTy::unkTy::unkTy::ty260::unkTy::unkTy::unkTy::unkTy::unkTy::ty266::unkTy::unkTy::ty269::unkTy::unkTy::l):=
 .cons (ah _ _) (.cons (ah _ _) (.cons (ah _ _) (.cons (ah _ _) (.cons We (.cons (ah _ _) (.cons (ah _ _) (.cons (ah _ _) (.cons (ah _ _) (.cons (ah _ _) (.cons Wf (.cons (ah _ _) (.cons (ah _ _) (.cons Wg (.cons (ah _ _) (.cons (ah _ _) (r))))))))))))))))
theorem TA {l:List Ty}(r:bH prog 288 l):bH prog 272 (unkTy::unkTy::unkTy::unkTy::unkTy::unkTy::unkTy::unkTy::unkTy::unkTy::ty282::unkTy::ty284::unkTy::unkTy::unkTy::l):=
 .cons (ah _ _) (.cons (ah _ _) (.cons (ah _ _) (.cons (ah _ _) (.cons (ah _ _) (.cons (ah _ _) (.cons (ah _ _) (.cons (ah _ _) (.cons (ah _ _) (.cons (ah _ _) (.cons Wh (.cons (ah _ _) (.cons Wi (.cons (ah _ _) (.cons (ah _ _) (.cons (ah _ _) (r))))))))))))))))
theorem TB {l:List Ty}(r:bH prog 304 l):bH prog 288 (unkTy::unkTy::unkTy::unkTy::unkTy::unkTy::unkTy::unkTy::unkTy::unkTy::ty298::ty299::unkTy::unkTy::ty302::unkTy::l):=
 .cons (ah _ _) (.cons (ah _ _) (.cons (ah _ _) (.cons (ah _ _) (.cons (ah _ _) (.cons (ah _ _) (.cons (ah _ _) (.cons (ah _ _) (.cons (ah _ _) (.cons (ah _ _) (.cons Wj (.cons Wk (.cons (ah _ _) (.cons (ah _ _) (.cons Wl (.cons (ah _ _) (r))))))))))))))))
theorem TC {l:List Ty}(r:bH prog 311 l):bH prog 304 (unkTy::unkTy::unkTy::unkTy::unkTy::unkTy::ty310::l):=
 .cons (ah _ _) (.cons (ah _ _) (.cons (ah _ _) (.cons (ah _ _) (.cons (ah _ _) (.cons (ah _ _) (.cons Wm (r)))))))
theorem hT (t:Nat):TyOk prog t (T t):=by
 have h:bH prog 0 tys:=ZO (Wn (Wo (Wp (Wq (Wr (Ws (Tp (Tq (Tr (Ts (Tt (Tu (Tv (Tw (Tx (Tz (TA (TB (TC (.nil _))))))))))))))))))))
 have:=h.get t
 rw[Nat.zero_add]at this
 exact this
section
open TK
@[simp,go_sem] theorem Tk3:(T 3).kind=.int .i64:=rfl
@[simp,go_sem] theorem Ts3:(T 3).size=1:=rfl
@[simp,go_sem] theorem Tb3:(T 3).bytes=8:=rfl
@[simp,go_sem] theorem Tz3:(T 3).zero=[Go.Value.int Go.IntKind.i64 0]:=rfl
@[simp,go_sem] theorem Tk4:(T 4).kind=.bool:=rfl
@[simp,go_sem] theorem Ts4:(T 4).size=1:=rfl
@[simp,go_sem] theorem Tb4:(T 4).bytes=1:=rfl
@[simp,go_sem] theorem Tz4:(T 4).zero=[Go.Value.bool false]:=rfl
@[simp,go_sem] theorem Tk5:(T 5).kind=.int .u8:=rfl
@[simp,go_sem] theorem Ts5:(T 5).size=1:=rfl
@[simp,go_sem] theorem Tb5:(T 5).bytes=1:=rfl
@[simp,go_sem] theorem Tk9:(T 9).kind=.str:=rfl
@[simp,go_sem] theorem Ts9:(T 9).size=1:=rfl
@[simp,go_sem] theorem Tb9:(T 9).bytes=16:=rfl
@[simp,go_sem] theorem Tk26:(T 26).kind=.slice 3:=rfl
@[simp,go_sem] theorem Ts26:(T 26).size=1:=rfl
@[simp,go_sem] theorem Tb26:(T 26).bytes=24:=rfl
@[simp,go_sem] theorem Tz26:(T 26).zero=[Go.Value.slice none 0 0]:=rfl
@[simp,go_sem] theorem Tk31:(T 31).kind=.slice 9:=rfl
@[simp,go_sem] theorem Ts31:(T 31).size=1:=rfl
@[simp,go_sem] theorem Tz31:(T 31).zero=[Go.Value.slice none 0 0]:=rfl
@[simp,go_sem] theorem Tk33:(T 33).kind=.slice 109:=rfl
@[simp,go_sem] theorem Ts33:(T 33).size=1:=rfl
@[simp,go_sem] theorem Tk34:(T 34).kind=.slice 133:=rfl
@[simp,go_sem] theorem Ts34:(T 34).size=1:=rfl
@[simp,go_sem] theorem Tk36:(T 36).kind=.struct [(0,33),(1,34),(2,3)]:=rfl
@[simp,go_sem] theorem Ts36:(T 36).size=3:=rfl
@[simp,go_sem] theorem Tz36:(T 36).zero=[Go.Value.slice none 0 0,Go.Value.slice none 0 0,Go.Value.int Go.IntKind.i64 0]:=rfl
@[simp,go_sem] theorem Tk38:(T 38).kind=.struct [(0,26),(1,26)]:=rfl
@[simp,go_sem] theorem Ts38:(T 38).size=2:=rfl
@[simp,go_sem] theorem Tz38:(T 38).zero=[Go.Value.slice none 0 0,Go.Value.slice none 0 0]:=rfl
@[simp,go_sem] theorem Tk47:(T 47).kind=.slice 5:=rfl
@[simp,go_sem] theorem Ts47:(T 47).size=1:=rfl
@[simp,go_sem] theorem Tk60:(T 60).kind=.struct [(0,3),(1,26),(2,26)]:=rfl
@[simp,go_sem] theorem Ts60:(T 60).size=3:=rfl
@[simp,go_sem] theorem Tz60:(T 60).zero=[Go.Value.int Go.IntKind.i64 0,Go.Value.slice none 0 0,Go.Value.slice none 0 0]:=rfl
@[simp,go_sem] theorem Tk61:(T 61).kind=.slice 147:=rfl
@[simp,go_sem] theorem Ts61:(T 61).size=1:=rfl
@[simp,go_sem] theorem Tk63:(T 63).kind=.struct [(0,36),(3,60),(6,4),(7,61)]:=rfl
@[simp,go_sem] theorem Ts63:(T 63).size=8:=rfl
@[simp,go_sem] theorem Tz63:(T 63).zero=[Go.Value.slice none 0 0,Go.Value.slice none 0 0,Go.Value.int Go.IntKind.i64 0,Go.Value.int Go.IntKind.i64 0,Go.Value.slice none 0 0,Go.Value.slice none 0 0,Go.Value.bool false,Go.Value.slice none 0 0]:=rfl
@[simp,go_sem] theorem Tk77:(T 77).kind=.slice 156:=rfl
@[simp,go_sem] theorem Ts77:(T 77).size=1:=rfl
@[simp,go_sem] theorem Tk79:(T 79).kind=.struct [(0,77),(1,26),(2,3)]:=rfl
@[simp,go_sem] theorem Ts79:(T 79).size=3:=rfl
@[simp,go_sem] theorem Tz79:(T 79).zero=[Go.Value.slice none 0 0,Go.Value.slice none 0 0,Go.Value.int Go.IntKind.i64 0]:=rfl
@[simp,go_sem] theorem ahA:(T 102).kind=.slice 188:=rfl
@[simp,go_sem] theorem ahB:(T 102).size=1:=rfl
@[simp,go_sem] theorem ahE:(T 104).kind=.struct [(0,3),(1,102)]:=rfl
@[simp,go_sem] theorem ahF:(T 104).size=2:=rfl
@[simp,go_sem] theorem ahH:(T 104).zero=[Go.Value.int Go.IntKind.i64 0,Go.Value.slice none 0 0]:=rfl
@[simp,go_sem] theorem ahI:(T 109).kind=.struct [(0,9),(1,26),(2,3)]:=rfl
@[simp,go_sem] theorem ahJ:(T 109).size=3:=rfl
@[simp,go_sem] theorem ahK:(T 109).bytes=48:=rfl
@[simp,go_sem] theorem ahL:(T 109).zero=[Go.Value.string { data:=#[] },Go.Value.slice none 0 0,Go.Value.int Go.IntKind.i64 0]:=rfl
@[simp,go_sem] theorem ahM:(T 111).kind=.struct [(0,3),(1,3)]:=rfl
@[simp,go_sem] theorem ahN:(T 111).size=2:=rfl
@[simp,go_sem] theorem ahP:(T 111).zero=[Go.Value.int Go.IntKind.i64 0,Go.Value.int Go.IntKind.i64 0]:=rfl
@[simp,go_sem] theorem ahV:(T 133).kind=.struct [(0,3),(1,3),(2,3),(3,3),(4,4)]:=rfl
@[simp,go_sem] theorem ahW:(T 133).size=5:=rfl
@[simp,go_sem] theorem ahX:(T 133).bytes=40:=rfl
@[simp,go_sem] theorem ahY:(T 133).zero=[Go.Value.int Go.IntKind.i64 0,Go.Value.int Go.IntKind.i64 0,Go.Value.int Go.IntKind.i64 0,Go.Value.int Go.IntKind.i64 0,Go.Value.bool false]:=rfl
@[simp,go_sem] theorem aia:(T 147).kind=.struct [(0,3),(1,26),(2,26),(3,26)]:=rfl
@[simp,go_sem] theorem aib:(T 147).size=4:=rfl
@[simp,go_sem] theorem aic:(T 147).bytes=80:=rfl
@[simp,go_sem] theorem aid:(T 147).zero=[Go.Value.int Go.IntKind.i64 0,Go.Value.slice none 0 0,Go.Value.slice none 0 0,Go.Value.slice none 0 0]:=rfl
@[simp,go_sem] theorem aie:(T 156).kind=.struct [(0,9),(1,3),(2,4),(3,3),(4,3),(5,3),(6,3),(7,4),(8,3),(9,3),(10,3)]:=rfl
@[simp,go_sem] theorem aif:(T 156).size=11:=rfl
@[simp,go_sem] theorem aig:(T 156).bytes=96:=rfl
@[simp,go_sem] theorem aih:(T 156).zero=[Go.Value.string { data:=#[] },Go.Value.int Go.IntKind.i64 0,Go.Value.bool false,Go.Value.int Go.IntKind.i64 0,Go.Value.int Go.IntKind.i64 0,Go.Value.int Go.IntKind.i64 0,Go.Value.int Go.IntKind.i64 0,Go.Value.bool false,Go.Value.int Go.IntKind.i64 0,Go.Value.int Go.IntKind.i64 0,Go.Value.int Go.IntKind.i64 0]:=rfl
@[simp,go_sem] theorem ain:(T 164).kind=.other:=rfl
@[simp,go_sem] theorem air:(T 167).kind=.slice 26:=rfl
@[simp,go_sem] theorem aiv:(T 186).kind=.slice 4:=rfl
@[simp,go_sem] theorem aiz:(T 188).kind=.struct [(0,3),(1,3),(2,111)]:=rfl
@[simp,go_sem] theorem aiA:(T 188).size=4:=rfl
@[simp,go_sem] theorem aiB:(T 188).bytes=32:=rfl
@[simp,go_sem] theorem aiC:(T 188).zero=[Go.Value.int Go.IntKind.i64 0,Go.Value.int Go.IntKind.i64 0,Go.Value.int Go.IntKind.i64 0,Go.Value.int Go.IntKind.i64 0]:=rfl
@[simp,go_sem] theorem aiD:(T 192).kind=.slice 260:=rfl
@[simp,go_sem] theorem aiE:(T 192).size=1:=rfl
@[simp,go_sem] theorem aiH:(T 194).kind=.struct [(0,3),(1,192)]:=rfl
@[simp,go_sem] theorem aiI:(T 194).size=2:=rfl
@[simp,go_sem] theorem aiK:(T 194).zero=[Go.Value.int Go.IntKind.i64 0,Go.Value.slice none 0 0]:=rfl
@[simp,go_sem] theorem aiL:(T 198).kind=.struct [(0,3),(1,26)]:=rfl
@[simp,go_sem] theorem aiM:(T 198).size=2:=rfl
@[simp,go_sem] theorem aiO:(T 198).zero=[Go.Value.int Go.IntKind.i64 0,Go.Value.slice none 0 0]:=rfl
@[simp,go_sem] theorem aiP:(T 213).kind=.struct [(0,47),(1,3),(2,3)]:=rfl
@[simp,go_sem] theorem aiS:(T 213).zero=[Go.Value.slice none 0 0,Go.Value.int Go.IntKind.i64 0,Go.Value.int Go.IntKind.i64 0]:=rfl
@[simp,go_sem] theorem ajr:(T 241).kind=.map 9 4:=rfl
@[simp,go_sem] theorem ajs:(T 241).size=1:=rfl
@[simp,go_sem] theorem ajv:(T 243).kind=.struct [(0,36),(3,241)]:=rfl
@[simp,go_sem] theorem ajy:(T 243).zero=[Go.Value.slice none 0 0,Go.Value.slice none 0 0,Go.Value.int Go.IntKind.i64 0,Go.Value.map none]:=rfl
@[simp,go_sem] theorem ajz:(T 250).kind=.int .u64:=rfl
@[simp,go_sem] theorem ajD:(T 260).kind=.struct [(0,3),(1,3),(2,3)]:=rfl
@[simp,go_sem] theorem ajE:(T 260).size=3:=rfl
@[simp,go_sem] theorem ajF:(T 260).bytes=24:=rfl
@[simp,go_sem] theorem ajG:(T 260).zero=[Go.Value.int Go.IntKind.i64 0,Go.Value.int Go.IntKind.i64 0,Go.Value.int Go.IntKind.i64 0]:=rfl
@[simp,go_sem] theorem akg:(T 302).kind=.int .u64:=rfl
end
end Go.Proofs.Qm
