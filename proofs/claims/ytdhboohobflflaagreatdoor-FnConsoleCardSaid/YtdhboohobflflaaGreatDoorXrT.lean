/- The types of the seat,and that they fit. Made by gentypes.py. -/
import Derived.Test.YtdhboohobflflaaGreatDoorXr31
import Derived.KernelRfl
import Derived.Test.YtdhboohobflflaaGreatDoorProg
set_option linter.all false
namespace Go.Proofs.Qr
open Go Tryz
def unkTy:Ty:=⟨.unknown,0,0,[],none⟩
def ty1:Ty:=⟨.other,1,8,[Go.Value.nilFunc],none⟩
def ty2:Ty:=⟨.int .i64,1,8,[Go.Value.int Go.IntKind.i64 0],none⟩
def ty3:Ty:=⟨.int .i64,1,8,[Go.Value.int Go.IntKind.i64 0],none⟩
def ty4:Ty:=⟨.bool,1,1,[Go.Value.bool false],none⟩
def ty5:Ty:=⟨.int .u8,1,1,[Go.Value.int Go.IntKind.u8 0],none⟩
def ty6:Ty:=⟨.int .u8,1,1,[Go.Value.int Go.IntKind.u8 0],none⟩
def ty7:Ty:=⟨.struct [(0,2),(1,3),(2,4),(3,6)],4,24,[Go.Value.int Go.IntKind.i64 0,Go.Value.int Go.IntKind.i64 0,Go.Value.bool false,Go.Value.int Go.IntKind.u8 0],none⟩
def ty8:Ty:=⟨.struct [(0,2),(1,3),(2,4),(3,6)],4,24,[Go.Value.int Go.IntKind.i64 0,Go.Value.int Go.IntKind.i64 0,Go.Value.bool false,Go.Value.int Go.IntKind.u8 0],none⟩
def ty9:Ty:=⟨.str,1,16,[Go.Value.string { data:=#[] }],none⟩
def ty10:Ty:=⟨.str,1,16,[Go.Value.string { data:=#[] }],none⟩
def ty11:Ty:=⟨.str,1,16,[Go.Value.string { data:=#[] }],none⟩
def ty20:Ty:=⟨.other,1,16,[Go.Value.nilIface],none⟩
def ty22:Ty:=⟨.slice 5,1,24,[Go.Value.slice none 0 0],none⟩
def ty27:Ty:=⟨.slice 9,1,24,[Go.Value.slice none 0 0],none⟩
def ty32:Ty:=⟨.slice 72,1,24,[Go.Value.slice none 0 0],none⟩
def ty33:Ty:=⟨.slice 3,1,24,[Go.Value.slice none 0 0],none⟩
def ty35:Ty:=⟨.struct [(0,32),(1,33),(2,3)],3,56,[Go.Value.slice none 0 0,Go.Value.slice none 0 0,Go.Value.int Go.IntKind.i64 0],none⟩
def ty36:Ty:=⟨.slice 102,1,24,[Go.Value.slice none 0 0],none⟩
def ty37:Ty:=⟨.slice 100,1,24,[Go.Value.slice none 0 0],none⟩
def ty39:Ty:=⟨.struct [(0,36),(1,37),(2,3)],3,56,[Go.Value.slice none 0 0,Go.Value.slice none 0 0,Go.Value.int Go.IntKind.i64 0],none⟩
def ty41:Ty:=⟨.struct [(0,3),(1,33),(2,33)],3,56,[Go.Value.int Go.IntKind.i64 0,Go.Value.slice none 0 0,Go.Value.slice none 0 0],none⟩
def ty42:Ty:=⟨.slice 104,1,24,[Go.Value.slice none 0 0],none⟩
def ty44:Ty:=⟨.struct [(0,39),(3,41),(6,4),(7,42)],8,144,[Go.Value.slice none 0 0,Go.Value.slice none 0 0,Go.Value.int Go.IntKind.i64 0,Go.Value.int Go.IntKind.i64 0,Go.Value.slice none 0 0,Go.Value.slice none 0 0,Go.Value.bool false,Go.Value.slice none 0 0],none⟩
def ty45:Ty:=⟨.slice 62,1,24,[Go.Value.slice none 0 0],none⟩
def ty47:Ty:=⟨.struct [(0,35),(3,44),(11,45)],12,224,[Go.Value.slice none 0 0,Go.Value.slice none 0 0,Go.Value.int Go.IntKind.i64 0,Go.Value.slice none 0 0,Go.Value.slice none 0 0,Go.Value.int Go.IntKind.i64 0,Go.Value.int Go.IntKind.i64 0,Go.Value.slice none 0 0,Go.Value.slice none 0 0,Go.Value.bool false,Go.Value.slice none 0 0,Go.Value.slice none 0 0],none⟩
def ty52:Ty:=⟨.other,1,8,[Go.Value.pointer none],none⟩
def ty62:Ty:=⟨.struct [(0,3),(1,3)],2,16,[Go.Value.int Go.IntKind.i64 0,Go.Value.int Go.IntKind.i64 0],some [(0,3),(1,3)]⟩
def ty65:Ty:=⟨.struct [(0,22),(1,3),(2,3)],3,40,[Go.Value.slice none 0 0,Go.Value.int Go.IntKind.i64 0,Go.Value.int Go.IntKind.i64 0],none⟩
def ty66:Ty:=⟨.int .u64,1,8,[Go.Value.int Go.IntKind.u64 0],none⟩
def ty72:Ty:=⟨.struct [(0,9),(1,3),(2,4),(3,3),(4,3),(5,3),(6,3),(7,4),(8,3),(9,3),(10,3)],11,96,[Go.Value.string { data:=#[] },Go.Value.int Go.IntKind.i64 0,Go.Value.bool false,Go.Value.int Go.IntKind.i64 0,Go.Value.int Go.IntKind.i64 0,Go.Value.int Go.IntKind.i64 0,Go.Value.int Go.IntKind.i64 0,Go.Value.bool false,Go.Value.int Go.IntKind.i64 0,Go.Value.int Go.IntKind.i64 0,Go.Value.int Go.IntKind.i64 0],some [(0,9),(1,3),(2,4),(3,3),(4,3),(5,3),(6,3),(7,4),(8,3),(9,3),(10,3)]⟩
def ty77:Ty:=⟨.other,1,8,[Go.Value.pointer none],none⟩
def ty87:Ty:=⟨.other,1,8,[Go.Value.pointer none],none⟩
def ty89:Ty:=⟨.struct [(0,87),(1,22)],2,32,[Go.Value.pointer none,Go.Value.slice none 0 0],none⟩
def ty92:Ty:=⟨.other,1,16,[Go.Value.nilIface],none⟩
def ty95:Ty:=⟨.other,1,8,[Go.Value.nilFunc],none⟩
def ty100:Ty:=⟨.struct [(0,3),(1,3),(2,3),(3,3),(4,4)],5,40,[Go.Value.int Go.IntKind.i64 0,Go.Value.int Go.IntKind.i64 0,Go.Value.int Go.IntKind.i64 0,Go.Value.int Go.IntKind.i64 0,Go.Value.bool false],some [(0,3),(1,3),(2,3),(3,3),(4,4)]⟩
def ty102:Ty:=⟨.struct [(0,9),(1,33),(2,3)],3,48,[Go.Value.string { data:=#[] },Go.Value.slice none 0 0,Go.Value.int Go.IntKind.i64 0],none⟩
def ty104:Ty:=⟨.struct [(0,3),(1,33),(2,33),(3,33)],4,80,[Go.Value.int Go.IntKind.i64 0,Go.Value.slice none 0 0,Go.Value.slice none 0 0,Go.Value.slice none 0 0],none⟩
def ty125:Ty:=⟨.other,1,8,[Go.Value.nilFunc],none⟩
def ty132:Ty:=⟨.int .u64,1,8,[Go.Value.int Go.IntKind.u64 0],none⟩
def ty141:Ty:=⟨.other,1,8,[Go.Value.nilFunc],none⟩
def ty142:Ty:=⟨.other,1,8,[Go.Value.nilFunc],none⟩
def ty148:Ty:=⟨.other,1,8,[Go.Value.pointer none],none⟩
def ty151:Ty:=⟨.slice 33,1,24,[Go.Value.slice none 0 0],none⟩
def ty153:Ty:=⟨.other,1,8,[Go.Value.nilFunc],none⟩
def ty156:Ty:=⟨.map 9 4,1,8,[Go.Value.map none],none⟩
def ty158:Ty:=⟨.struct [(0,39),(3,156)],4,64,[Go.Value.slice none 0 0,Go.Value.slice none 0 0,Go.Value.int Go.IntKind.i64 0,Go.Value.map none],none⟩
def ty161:Ty:=⟨.other,1,8,[Go.Value.nilFunc],none⟩
def ty164:Ty:=⟨.other,1,8,[Go.Value.nilFunc],none⟩
def ty181:Ty:=⟨.struct [(0,3),(1,3)],2,16,[Go.Value.int Go.IntKind.i64 0,Go.Value.int Go.IntKind.i64 0],some [(0,3),(1,3)]⟩
def ty190:Ty:=⟨.int .u32,1,4,[Go.Value.int Go.IntKind.u32 0],none⟩
def ty195:Ty:=⟨.other,1,8,[Go.Value.nilFunc],none⟩
def ty223:Ty:=⟨.struct [(0,33),(1,33)],2,48,[Go.Value.slice none 0 0,Go.Value.slice none 0 0],none⟩
def ty241:Ty:=⟨.other,1,8,[Go.Value.nilFunc],none⟩
def ty245:Ty:=⟨.other,1,8,[Go.Value.nilFunc],none⟩
def ty247:Ty:=⟨.int .i64,1,8,[Go.Value.int Go.IntKind.i64 0],none⟩
def ty266:Ty:=⟨.slice 305,1,24,[Go.Value.slice none 0 0],none⟩
def ty268:Ty:=⟨.struct [(0,3),(1,266)],2,32,[Go.Value.int Go.IntKind.i64 0,Go.Value.slice none 0 0],none⟩
def ty279:Ty:=⟨.slice 45,1,24,[Go.Value.slice none 0 0],none⟩
def ty305:Ty:=⟨.struct [(0,3),(1,3),(2,181)],4,32,[Go.Value.int Go.IntKind.i64 0,Go.Value.int Go.IntKind.i64 0,Go.Value.int Go.IntKind.i64 0,Go.Value.int Go.IntKind.i64 0],none⟩
def ty308:Ty:=⟨.other,1,8,[Go.Value.nilFunc],none⟩
def ty312:Ty:=⟨.slice 331,1,24,[Go.Value.slice none 0 0],none⟩
def ty314:Ty:=⟨.struct [(0,3),(1,312)],2,32,[Go.Value.int Go.IntKind.i64 0,Go.Value.slice none 0 0],none⟩
def ty327:Ty:=⟨.other,1,8,[Go.Value.nilFunc],none⟩
def ty331:Ty:=⟨.struct [(0,3),(1,3),(2,3)],3,24,[Go.Value.int Go.IntKind.i64 0,Go.Value.int Go.IntKind.i64 0,Go.Value.int Go.IntKind.i64 0],some [(0,3),(1,3),(2,3)]⟩
def ty336:Ty:=⟨.struct [(0,3),(1,33)],2,32,[Go.Value.int Go.IntKind.i64 0,Go.Value.slice none 0 0],none⟩
def ty341:Ty:=⟨.other,1,8,[Go.Value.nilFunc],none⟩
def ty348:Ty:=⟨.slice 4,1,24,[Go.Value.slice none 0 0],none⟩
def tys:List Ty:=[unkTy,ty1,ty2,ty3,ty4,ty5,ty6,ty7,ty8,ty9,ty10,ty11,unkTy,unkTy,unkTy,unkTy,unkTy,unkTy,unkTy,unkTy,ty20,unkTy,ty22,unkTy,unkTy,unkTy,unkTy,ty27,unkTy,unkTy,unkTy,unkTy,ty32,ty33,unkTy,ty35,ty36,ty37,unkTy,ty39,unkTy,ty41,ty42,unkTy,ty44,ty45,unkTy,ty47,unkTy,unkTy,unkTy,unkTy,ty52,unkTy,unkTy,unkTy,unkTy,unkTy,unkTy,unkTy,unkTy,unkTy,ty62,unkTy,unkTy,ty65,ty66,unkTy,unkTy,unkTy,unkTy,unkTy,ty72,unkTy,unkTy,unkTy,unkTy,ty77,unkTy,unkTy,unkTy,unkTy,unkTy,unkTy,unkTy,unkTy,unkTy,ty87,unkTy,ty89,unkTy,unkTy,ty92,unkTy,unkTy,ty95,unkTy,unkTy,unkTy,unkTy,ty100,unkTy,ty102,unkTy,ty104,unkTy,unkTy,unkTy,unkTy,unkTy,unkTy,unkTy,unkTy,unkTy,unkTy,unkTy,unkTy,unkTy,unkTy,unkTy,unkTy,unkTy,unkTy,unkTy,unkTy,ty125,unkTy,unkTy,unkTy,unkTy,unkTy,unkTy,ty132,unkTy,unkTy,unkTy,unkTy,unkTy,unkTy,unkTy,unkTy,ty141,ty142,unkTy,unkTy,unkTy,unkTy,unkTy,ty148,unkTy,unkTy,ty151,unkTy,ty153,unkTy,unkTy,ty156,unkTy,ty158,unkTy,unkTy,ty161,unkTy,unkTy,ty164,unkTy,unkTy,unkTy,unkTy,unkTy,unkTy,unkTy,unkTy,unkTy,unkTy,unkTy,unkTy,unkTy,unkTy,unkTy,unkTy,ty181,unkTy,unkTy,unkTy,unkTy,unkTy,unkTy,unkTy,unkTy,ty190,unkTy,unkTy,unkTy,unkTy,ty195,unkTy,unkTy,unkTy,unkTy,unkTy,unkTy,unkTy,unkTy,unkTy,unkTy,unkTy,unkTy,unkTy,unkTy,unkTy,unkTy,unkTy,unkTy,unkTy,unkTy,unkTy,unkTy,unkTy,unkTy,unkTy,unkTy,unkTy,ty223,unkTy,unkTy,unkTy,unkTy,unkTy,unkTy,unkTy,unkTy,unkTy,unkTy,unkTy,unkTy,unkTy,unkTy,unkTy,unkTy,unkTy,ty241,unkTy,unkTy,unkTy,ty245,unkTy,ty247,unkTy,unkTy,unkTy,unkTy,unkTy,unkTy,unkTy,unkTy,unkTy,unkTy,unkTy,unkTy,unkTy,unkTy,unkTy,unkTy,unkTy,unkTy,ty266,unkTy,ty268,unkTy,unkTy,unkTy,unkTy,unkTy,unkTy,unkTy,unkTy,unkTy,unkTy,ty279,unkTy,unkTy,unkTy,unkTy,unkTy,unkTy,unkTy,unkTy,unkTy,unkTy,unkTy,unkTy,unkTy,unkTy,unkTy,unkTy,unkTy,unkTy,unkTy,unkTy,unkTy,unkTy,unkTy,unkTy,unkTy,ty305,unkTy,unkTy,ty308,unkTy,unkTy,unkTy,ty312,unkTy,ty314,unkTy,unkTy,unkTy,unkTy,unkTy,unkTy,unkTy,unkTy,unkTy,unkTy,unkTy,unkTy,ty327,unkTy,unkTy,unkTy,ty331,unkTy,unkTy,unkTy,unkTy,ty336,unkTy,unkTy,unkTy,unkTy,ty341,unkTy,unkTy,unkTy,unkTy,unkTy,unkTy,ty348]
def T (t:Nat):Ty:=tys.getD t unkTy
inductive aW (P:Program):Nat→List Ty→Prop
 | nil (k:Nat):aW P k []
 | cons {k:Nat} {ty:Ty} {l:List Ty} (h:TyOk P k ty) (r:aW P (k+1) l):aW P k (ty::l)
theorem aW.get {P:Program}:∀ {l:List Ty} {k:Nat},aW P k l→∀ i,TyOk P (k+i) (l.getD i unkTy)
 | _,_,.nil _,i=>by simp[unkTy,TyOk]
 | _,_,.cons h r,0=>h
 | _,_,.cons (k:=k) h r,i+1=>by
  have:=r.get i
  rw[show k+1+i=k+(i+1) by omega]at this
  simpa using this
theorem ah (P:Program)(t:Nat):TyOk P t unkTy:=by simp[unkTy,TyOk]
theorem aD {P:Program}{t:Nat}{ty:Ty}{i:TypeInfo}{z:Value}(hs:t<P.types.size)(h1:P.types[t]?=some i)(h2:i.zero=some z)(h:i.size=ty.size∧i.bytes=ty.bytes∧z.cells.toList=ty.zero∧ty.zero.length=ty.size)(h3:ty.zero.all (fun v=>v.oneCell')=true)(h4:cn P t ty.kind)(h5:∀ fs,ty.eqs=some fs→∃ fields:Array Field,P.underlying t=some (.struct fields)∧fields.toList.map (fun f=>(f.offset,f.type))=fs∧(∀ f,f∈fields.toList→f.name ≠ "_")∧P.stoodInHeld t=false∧P.eqGuardType P.depth t=false):TyOk P t ty:=by
 unfold TyOk
 split
 ·trivial
 exact⟨⟨i,z,(by unfold Tables.info?;rw[if_pos hs];exact h1),h.1,h.2.1,h2,h.2.2.1,h.2.2.2⟩,fun v hv=>List.all_eq_true.1 h3 v hv,h4,h5⟩
theorem Vj:TyOk prog 1 ty1:=aD (i:=Tryz.t1) (by rw[types_size];decide) type1 rfl ⟨rfl,rfl,rfl,rfl⟩ rfl (by exact⟨_,underlying1,rfl⟩) (by intro fs h;cases h)
theorem Vk:TyOk prog 2 ty2:=aD (i:=Tryz.t2) (by rw[types_size];decide) type2 rfl ⟨rfl,rfl,rfl,rfl⟩ rfl (by exact underlying2) (by intro fs h;cases h)
theorem Vl:TyOk prog 3 ty3:=aD (i:=Tryz.t3) (by rw[types_size];decide) type3 rfl ⟨rfl,rfl,rfl,rfl⟩ rfl (by exact underlying3) (by intro fs h;cases h)
theorem Vm:TyOk prog 4 ty4:=aD (i:=Tryz.t4) (by rw[types_size];decide) type4 rfl ⟨rfl,rfl,rfl,rfl⟩ rfl (by exact underlying4) (by intro fs h;cases h)
theorem Vn:TyOk prog 5 ty5:=aD (i:=Tryz.t5) (by rw[types_size];decide) type5 rfl ⟨rfl,rfl,rfl,rfl⟩ rfl (by exact underlying5) (by intro fs h;cases h)
theorem Vo:TyOk prog 6 ty6:=aD (i:=Tryz.t6) (by rw[types_size];decide) type6 rfl ⟨rfl,rfl,rfl,rfl⟩ rfl (by exact underlying6) (by intro fs h;cases h)
theorem Vp:TyOk prog 7 ty7:=aD (i:=Tryz.t7) (by rw[types_size];decide) type7 rfl ⟨rfl,rfl,rfl,rfl⟩ rfl (by exact⟨_,underlying7,rfl⟩) (by intro fs h;cases h)
theorem Vq:TyOk prog 8 ty8:=aD (i:=Tryz.t8) (by rw[types_size];decide) type8 rfl ⟨rfl,rfl,rfl,rfl⟩ rfl (by exact⟨_,underlying8,rfl⟩) (by intro fs h;cases h)
theorem Vr:TyOk prog 9 ty9:=aD (i:=Tryz.t9) (by rw[types_size];decide) type9 rfl ⟨rfl,rfl,rfl,rfl⟩ rfl (by exact underlying9) (by intro fs h;cases h)
theorem Ld:TyOk prog 10 ty10:=aD (i:=Tryz.t10) (by rw[types_size];decide) type10 rfl ⟨rfl,rfl,rfl,rfl⟩ rfl (by exact underlying10) (by intro fs h;cases h)
theorem Le:TyOk prog 11 ty11:=aD (i:=Tryz.t11) (by rw[types_size];decide) type11 rfl ⟨rfl,rfl,rfl,rfl⟩ rfl (by exact underlying11) (by intro fs h;cases h)
theorem Lf:TyOk prog 20 ty20:=aD (i:=Tryz.t20) (by rw[types_size];decide) type20 rfl ⟨rfl,rfl,rfl,rfl⟩ rfl (by exact⟨_,underlying20,rfl⟩) (by intro fs h;cases h)
theorem Lg:TyOk prog 22 ty22:=aD (i:=Tryz.t22) (by rw[types_size];decide) type22 rfl ⟨rfl,rfl,rfl,rfl⟩ rfl (by exact underlying22) (by intro fs h;cases h)
theorem Lh:TyOk prog 27 ty27:=aD (i:=Tryz.t27) (by rw[types_size];decide) type27 rfl ⟨rfl,rfl,rfl,rfl⟩ rfl (by exact underlying27) (by intro fs h;cases h)
theorem Li:TyOk prog 32 ty32:=aD (i:=Tryz.t32) (by rw[types_size];decide) type32 rfl ⟨rfl,rfl,rfl,rfl⟩ rfl (by exact underlying32) (by intro fs h;cases h)
theorem Lj:TyOk prog 33 ty33:=aD (i:=Tryz.t33) (by rw[types_size];decide) type33 rfl ⟨rfl,rfl,rfl,rfl⟩ rfl (by exact underlying33) (by intro fs h;cases h)
theorem Lk:TyOk prog 35 ty35:=aD (i:=Tryz.t35) (by rw[types_size];decide) type35 rfl ⟨rfl,rfl,rfl,rfl⟩ rfl (by exact⟨_,underlying35,rfl⟩) (by intro fs h;cases h)
theorem Ll:TyOk prog 36 ty36:=aD (i:=Tryz.t36) (by rw[types_size];decide) type36 rfl ⟨rfl,rfl,rfl,rfl⟩ rfl (by exact underlying36) (by intro fs h;cases h)
theorem Lm:TyOk prog 37 ty37:=aD (i:=Tryz.t37) (by rw[types_size];decide) type37 rfl ⟨rfl,rfl,rfl,rfl⟩ rfl (by exact underlying37) (by intro fs h;cases h)
theorem Ln:TyOk prog 39 ty39:=aD (i:=Tryz.t39) (by rw[types_size];decide) type39 rfl ⟨rfl,rfl,rfl,rfl⟩ rfl (by exact⟨_,underlying39,rfl⟩) (by intro fs h;cases h)
theorem Lo:TyOk prog 41 ty41:=aD (i:=Tryz.t41) (by rw[types_size];decide) type41 rfl ⟨rfl,rfl,rfl,rfl⟩ rfl (by exact⟨_,underlying41,rfl⟩) (by intro fs h;cases h)
theorem Lp:TyOk prog 42 ty42:=aD (i:=Tryz.t42) (by rw[types_size];decide) type42 rfl ⟨rfl,rfl,rfl,rfl⟩ rfl (by exact underlying42) (by intro fs h;cases h)
theorem Lq:TyOk prog 44 ty44:=aD (i:=Tryz.t44) (by rw[types_size];decide) type44 rfl ⟨rfl,rfl,rfl,rfl⟩ rfl (by exact⟨_,underlying44,rfl⟩) (by intro fs h;cases h)
theorem Lr:TyOk prog 45 ty45:=aD (i:=Tryz.t45) (by rw[types_size];decide) type45 rfl ⟨rfl,rfl,rfl,rfl⟩ rfl (by exact underlying45) (by intro fs h;cases h)
theorem Ls:TyOk prog 47 ty47:=aD (i:=Tryz.t47) (by rw[types_size];decide) type47 rfl ⟨rfl,rfl,rfl,rfl⟩ rfl (by exact⟨_,underlying47,rfl⟩) (by intro fs h;cases h)
theorem Lt:TyOk prog 52 ty52:=aD (i:=Tryz.t52) (by rw[types_size];decide) type52 rfl ⟨rfl,rfl,rfl,rfl⟩ rfl (by exact⟨_,underlying52,rfl⟩) (by intro fs h;cases h)
theorem Lu:TyOk prog 62 ty62:=aD (i:=Tryz.t62) (by rw[types_size];decide) type62 rfl ⟨rfl,rfl,rfl,rfl⟩ rfl (by exact⟨_,underlying62,rfl⟩) (by intro fs h;cases h;exact⟨_,underlying62,rfl,by decide,by kernel_rfl,by kernel_rfl⟩)
theorem Lv:TyOk prog 65 ty65:=aD (i:=Tryz.t65) (by rw[types_size];decide) type65 rfl ⟨rfl,rfl,rfl,rfl⟩ rfl (by exact⟨_,underlying65,rfl⟩) (by intro fs h;cases h)
theorem Lw:TyOk prog 66 ty66:=aD (i:=Tryz.t66) (by rw[types_size];decide) type66 rfl ⟨rfl,rfl,rfl,rfl⟩ rfl (by exact underlying66) (by intro fs h;cases h)
theorem Lx:TyOk prog 72 ty72:=aD (i:=Tryz.t72) (by rw[types_size];decide) type72 rfl ⟨rfl,rfl,rfl,rfl⟩ rfl (by exact⟨_,underlying72,rfl⟩) (by intro fs h;cases h;exact⟨_,underlying72,rfl,by decide,by kernel_rfl,by kernel_rfl⟩)
theorem Ly:TyOk prog 77 ty77:=aD (i:=Tryz.t77) (by rw[types_size];decide) type77 rfl ⟨rfl,rfl,rfl,rfl⟩ rfl (by exact⟨_,underlying77,rfl⟩) (by intro fs h;cases h)
theorem Lz:TyOk prog 87 ty87:=aD (i:=Tryz.t87) (by rw[types_size];decide) type87 rfl ⟨rfl,rfl,rfl,rfl⟩ rfl (by exact⟨_,underlying87,rfl⟩) (by intro fs h;cases h)
theorem LA:TyOk prog 89 ty89:=aD (i:=Tryz.t89) (by rw[types_size];decide) type89 rfl ⟨rfl,rfl,rfl,rfl⟩ rfl (by exact⟨_,underlying89,rfl⟩) (by intro fs h;cases h)
theorem LB:TyOk prog 92 ty92:=aD (i:=Tryz.t92) (by rw[types_size];decide) type92 rfl ⟨rfl,rfl,rfl,rfl⟩ rfl (by exact⟨_,underlying92,rfl⟩) (by intro fs h;cases h)
theorem LC:TyOk prog 95 ty95:=aD (i:=Tryz.t95) (by rw[types_size];decide) type95 rfl ⟨rfl,rfl,rfl,rfl⟩ rfl (by exact⟨_,underlying95,rfl⟩) (by intro fs h;cases h)
theorem Ie:TyOk prog 100 ty100:=aD (i:=Tryz.t100) (by rw[types_size];decide) type100 rfl ⟨rfl,rfl,rfl,rfl⟩ rfl (by exact⟨_,underlying100,rfl⟩) (by intro fs h;cases h;exact⟨_,underlying100,rfl,by decide,by kernel_rfl,by kernel_rfl⟩)
theorem If:TyOk prog 102 ty102:=aD (i:=Tryz.t102) (by rw[types_size];decide) type102 rfl ⟨rfl,rfl,rfl,rfl⟩ rfl (by exact⟨_,underlying102,rfl⟩) (by intro fs h;cases h)
theorem Ig:TyOk prog 104 ty104:=aD (i:=Tryz.t104) (by rw[types_size];decide) type104 rfl ⟨rfl,rfl,rfl,rfl⟩ rfl (by exact⟨_,underlying104,rfl⟩) (by intro fs h;cases h)
theorem Ih:TyOk prog 125 ty125:=aD (i:=Tryz.t125) (by rw[types_size];decide) type125 rfl ⟨rfl,rfl,rfl,rfl⟩ rfl (by exact⟨_,underlying125,rfl⟩) (by intro fs h;cases h)
theorem Ii:TyOk prog 132 ty132:=aD (i:=Tryz.t132) (by rw[types_size];decide) type132 rfl ⟨rfl,rfl,rfl,rfl⟩ rfl (by exact underlying132) (by intro fs h;cases h)
theorem Ij:TyOk prog 141 ty141:=aD (i:=Tryz.t141) (by rw[types_size];decide) type141 rfl ⟨rfl,rfl,rfl,rfl⟩ rfl (by exact⟨_,underlying141,rfl⟩) (by intro fs h;cases h)
theorem Ik:TyOk prog 142 ty142:=aD (i:=Tryz.t142) (by rw[types_size];decide) type142 rfl ⟨rfl,rfl,rfl,rfl⟩ rfl (by exact⟨_,underlying142,rfl⟩) (by intro fs h;cases h)
theorem Il:TyOk prog 148 ty148:=aD (i:=Tryz.t148) (by rw[types_size];decide) type148 rfl ⟨rfl,rfl,rfl,rfl⟩ rfl (by exact⟨_,underlying148,rfl⟩) (by intro fs h;cases h)
theorem Im:TyOk prog 151 ty151:=aD (i:=Tryz.t151) (by rw[types_size];decide) type151 rfl ⟨rfl,rfl,rfl,rfl⟩ rfl (by exact underlying151) (by intro fs h;cases h)
theorem In:TyOk prog 153 ty153:=aD (i:=Tryz.t153) (by rw[types_size];decide) type153 rfl ⟨rfl,rfl,rfl,rfl⟩ rfl (by exact⟨_,underlying153,rfl⟩) (by intro fs h;cases h)
theorem Io:TyOk prog 156 ty156:=aD (i:=Tryz.t156) (by rw[types_size];decide) type156 rfl ⟨rfl,rfl,rfl,rfl⟩ rfl (by exact underlying156) (by intro fs h;cases h)
theorem Ip:TyOk prog 158 ty158:=aD (i:=Tryz.t158) (by rw[types_size];decide) type158 rfl ⟨rfl,rfl,rfl,rfl⟩ rfl (by exact⟨_,underlying158,rfl⟩) (by intro fs h;cases h)
theorem Iq:TyOk prog 161 ty161:=aD (i:=Tryz.t161) (by rw[types_size];decide) type161 rfl ⟨rfl,rfl,rfl,rfl⟩ rfl (by exact⟨_,underlying161,rfl⟩) (by intro fs h;cases h)
theorem Ir:TyOk prog 164 ty164:=aD (i:=Tryz.t164) (by rw[types_size];decide) type164 rfl ⟨rfl,rfl,rfl,rfl⟩ rfl (by exact⟨_,underlying164,rfl⟩) (by intro fs h;cases h)
theorem Is:TyOk prog 181 ty181:=aD (i:=Tryz.t181) (by rw[types_size];decide) type181 rfl ⟨rfl,rfl,rfl,rfl⟩ rfl (by exact⟨_,underlying181,rfl⟩) (by intro fs h;cases h;exact⟨_,underlying181,rfl,by decide,by kernel_rfl,by kernel_rfl⟩)
theorem It:TyOk prog 190 ty190:=aD (i:=Tryz.t190) (by rw[types_size];decide) type190 rfl ⟨rfl,rfl,rfl,rfl⟩ rfl (by exact underlying190) (by intro fs h;cases h)
theorem Iu:TyOk prog 195 ty195:=aD (i:=Tryz.t195) (by rw[types_size];decide) type195 rfl ⟨rfl,rfl,rfl,rfl⟩ rfl (by exact⟨_,underlying195,rfl⟩) (by intro fs h;cases h)
theorem Iv:TyOk prog 223 ty223:=aD (i:=Tryz.t223) (by rw[types_size];decide) type223 rfl ⟨rfl,rfl,rfl,rfl⟩ rfl (by exact⟨_,underlying223,rfl⟩) (by intro fs h;cases h)
theorem Iw:TyOk prog 241 ty241:=aD (i:=Tryz.t241) (by rw[types_size];decide) type241 rfl ⟨rfl,rfl,rfl,rfl⟩ rfl (by exact⟨_,underlying241,rfl⟩) (by intro fs h;cases h)
theorem Ix:TyOk prog 245 ty245:=aD (i:=Tryz.t245) (by rw[types_size];decide) type245 rfl ⟨rfl,rfl,rfl,rfl⟩ rfl (by exact⟨_,underlying245,rfl⟩) (by intro fs h;cases h)
theorem Iy:TyOk prog 247 ty247:=aD (i:=Tryz.t247) (by rw[types_size];decide) type247 rfl ⟨rfl,rfl,rfl,rfl⟩ rfl (by exact underlying247) (by intro fs h;cases h)
theorem Iz:TyOk prog 266 ty266:=aD (i:=Tryz.t266) (by rw[types_size];decide) type266 rfl ⟨rfl,rfl,rfl,rfl⟩ rfl (by exact underlying266) (by intro fs h;cases h)
theorem IA:TyOk prog 268 ty268:=aD (i:=Tryz.t268) (by rw[types_size];decide) type268 rfl ⟨rfl,rfl,rfl,rfl⟩ rfl (by exact⟨_,underlying268,rfl⟩) (by intro fs h;cases h)
theorem IB:TyOk prog 279 ty279:=aD (i:=Tryz.t279) (by rw[types_size];decide) type279 rfl ⟨rfl,rfl,rfl,rfl⟩ rfl (by exact underlying279) (by intro fs h;cases h)
theorem IC:TyOk prog 305 ty305:=aD (i:=Tryz.t305) (by rw[types_size];decide) type305 rfl ⟨rfl,rfl,rfl,rfl⟩ rfl (by exact⟨_,underlying305,rfl⟩) (by intro fs h;cases h)
theorem ID:TyOk prog 308 ty308:=aD (i:=Tryz.t308) (by rw[types_size];decide) type308 rfl ⟨rfl,rfl,rfl,rfl⟩ rfl (by exact⟨_,underlying308,rfl⟩) (by intro fs h;cases h)
theorem IE:TyOk prog 312 ty312:=aD (i:=Tryz.t312) (by rw[types_size];decide) type312 rfl ⟨rfl,rfl,rfl,rfl⟩ rfl (by exact underlying312) (by intro fs h;cases h)
theorem IF:TyOk prog 314 ty314:=aD (i:=Tryz.t314) (by rw[types_size];decide) type314 rfl ⟨rfl,rfl,rfl,rfl⟩ rfl (by exact⟨_,underlying314,rfl⟩) (by intro fs h;cases h)
theorem IG:TyOk prog 327 ty327:=aD (i:=Tryz.t327) (by rw[types_size];decide) type327 rfl ⟨rfl,rfl,rfl,rfl⟩ rfl (by exact⟨_,underlying327,rfl⟩) (by intro fs h;cases h)
theorem IH:TyOk prog 331 ty331:=aD (i:=Tryz.t331) (by rw[types_size];decide) type331 rfl ⟨rfl,rfl,rfl,rfl⟩ rfl (by exact⟨_,underlying331,rfl⟩) (by intro fs h;cases h;exact⟨_,underlying331,rfl,by decide,by kernel_rfl,by kernel_rfl⟩)
theorem II:TyOk prog 336 ty336:=aD (i:=Tryz.t336) (by rw[types_size];decide) type336 rfl ⟨rfl,rfl,rfl,rfl⟩ rfl (by exact⟨_,underlying336,rfl⟩) (by intro fs h;cases h)
theorem IJ:TyOk prog 341 ty341:=aD (i:=Tryz.t341) (by rw[types_size];decide) type341 rfl ⟨rfl,rfl,rfl,rfl⟩ rfl (by exact⟨_,underlying341,rfl⟩) (by intro fs h;cases h)
theorem IK:TyOk prog 348 ty348:=aD (i:=Tryz.t348) (by rw[types_size];decide) type348 rfl ⟨rfl,rfl,rfl,rfl⟩ rfl (by exact underlying348) (by intro fs h;cases h)
theorem LD {l:List Ty}(r:aW prog 16 l):aW prog 0 (unkTy::ty1::ty2::ty3::ty4::ty5::ty6::ty7::ty8::ty9::ty10::ty11::unkTy::unkTy::unkTy::unkTy::l):=
 .cons (ah _ _) (.cons Vj (.cons Vk (.cons Vl (.cons Vm (.cons Vn (.cons Vo (.cons Vp (.cons Vq (.cons Vr (.cons Ld (.cons Le (.cons (ah _ _) (.cons (ah _ _) (.cons (ah _ _) (.cons (ah _ _) (r))))))))))))))))
theorem IL {l:List Ty}(r:aW prog 32 l):aW prog 16 (unkTy::unkTy::unkTy::unkTy::ty20::unkTy::ty22::unkTy::unkTy::unkTy::unkTy::ty27::unkTy::unkTy::unkTy::unkTy::l):=
 .cons (ah _ _) (.cons (ah _ _) (.cons (ah _ _) (.cons (ah _ _) (.cons Lf (.cons (ah _ _) (.cons Lg (.cons (ah _ _) (.cons (ah _ _) (.cons (ah _ _) (.cons (ah _ _) (.cons Lh (.cons (ah _ _) (.cons (ah _ _) (.cons (ah _ _) (.cons (ah _ _) (r))))))))))))))))
theorem IM {l:List Ty}(r:aW prog 48 l):aW prog 32 (ty32::ty33::unkTy::ty35::ty36::ty37::unkTy::ty39::unkTy::ty41::ty42::unkTy::ty44::ty45::unkTy::ty47::l):=
 .cons Li (.cons Lj (.cons (ah _ _) (.cons Lk (.cons Ll (.cons Lm (.cons (ah _ _) (.cons Ln (.cons (ah _ _) (.cons Lo (.cons Lp (.cons (ah _ _) (.cons Lq (.cons Lr (.cons (ah _ _) (.cons Ls (r))))))))))))))))
theorem IP {l:List Ty}(r:aW prog 64 l):aW prog 48 (unkTy::unkTy::unkTy::unkTy::ty52::unkTy::unkTy::unkTy::unkTy::unkTy::unkTy::unkTy::unkTy::unkTy::ty62::unkTy::l):=
 .cons (ah _ _) (.cons (ah _ _) (.cons (ah _ _) (.cons (ah _ _) (.cons Lt (.cons (ah _ _) (.cons (ah _ _) (.cons (ah _ _) (.cons (ah _ _) (.cons (ah _ _) (.cons (ah _ _) (.cons (ah _ _) (.cons (ah _ _) (.cons (ah _ _) (.cons Lu (.cons (ah _ _) (r))))))))))))))))
theorem IQ {l:List Ty}(r:aW prog 80 l):aW prog 64 (unkTy::ty65::ty66::unkTy::unkTy::unkTy::unkTy::unkTy::ty72::unkTy::unkTy::unkTy::unkTy::ty77::unkTy::unkTy::l):=
 .cons (ah _ _) (.cons Lv (.cons Lw (.cons (ah _ _) (.cons (ah _ _) (.cons (ah _ _) (.cons (ah _ _) (.cons (ah _ _) (.cons Lx (.cons (ah _ _) (.cons (ah _ _) (.cons (ah _ _) (.cons (ah _ _) (.cons Ly (.cons (ah _ _) (.cons (ah _ _) (r))))))))))))))))
theorem IR {l:List Ty}(r:aW prog 96 l):aW prog 80 (unkTy::unkTy::unkTy::unkTy::unkTy::unkTy::unkTy::ty87::unkTy::ty89::unkTy::unkTy::ty92::unkTy::unkTy::ty95::l):=
 .cons (ah _ _) (.cons (ah _ _) (.cons (ah _ _) (.cons (ah _ _) (.cons (ah _ _) (.cons (ah _ _) (.cons (ah _ _) (.cons Lz (.cons (ah _ _) (.cons LA (.cons (ah _ _) (.cons (ah _ _) (.cons LB (.cons (ah _ _) (.cons (ah _ _) (.cons LC (r))))))))))))))))
theorem IS {l:List Ty}(r:aW prog 112 l):aW prog 96 (unkTy::unkTy::unkTy::unkTy::ty100::unkTy::ty102::unkTy::ty104::unkTy::unkTy::unkTy::unkTy::unkTy::unkTy::unkTy::l):=
 .cons (ah _ _) (.cons (ah _ _) (.cons (ah _ _) (.cons (ah _ _) (.cons Ie (.cons (ah _ _) (.cons If (.cons (ah _ _) (.cons Ig (.cons (ah _ _) (.cons (ah _ _) (.cons (ah _ _) (.cons (ah _ _) (.cons (ah _ _) (.cons (ah _ _) (.cons (ah _ _) (r))))))))))))))))
theorem GA {l:List Ty}(r:aW prog 128 l):aW prog 112 (unkTy::unkTy::unkTy::unkTy::unkTy::unkTy::unkTy::unkTy::unkTy::unkTy::unkTy::unkTy::unkTy::ty125::unkTy::unkTy::l):=
 .cons (ah _ _) (.cons (ah _ _) (.cons (ah _ _) (.cons (ah _ _) (.cons (ah _ _) (.cons (ah _ _) (.cons (ah _ _) (.cons (ah _ _) (.cons (ah _ _) (.cons (ah _ _) (.cons (ah _ _) (.cons (ah _ _) (.cons (ah _ _) (.cons Ih (.cons (ah _ _) (.cons (ah _ _) (r))))))))))))))))
theorem GB {l:List Ty}(r:aW prog 144 l):aW prog 128 (unkTy::unkTy::unkTy::unkTy::ty132::unkTy::unkTy::unkTy::unkTy::unkTy::unkTy::unkTy::unkTy::ty141::ty142::unkTy::l):=
 .cons (ah _ _) (.cons (ah _ _) (.cons (ah _ _) (.cons (ah _ _) (.cons Ii (.cons (ah _ _) (.cons (ah _ _) (.cons (ah _ _) (.cons (ah _ _) (.cons (ah _ _) (.cons (ah _ _) (.cons (ah _ _) (.cons (ah _ _) (.cons Ij (.cons Ik (.cons (ah _ _) (r))))))))))))))))
theorem GC {l:List Ty}(r:aW prog 160 l):aW prog 144 (unkTy::unkTy::unkTy::unkTy::ty148::unkTy::unkTy::ty151::unkTy::ty153::unkTy::unkTy::ty156::unkTy::ty158::unkTy::l):=
 .cons (ah _ _) (.cons (ah _ _) (.cons (ah _ _) (.cons (ah _ _) (.cons Il (.cons (ah _ _) (.cons (ah _ _) (.cons Im (.cons (ah _ _) (.cons In (.cons (ah _ _) (.cons (ah _ _) (.cons Io (.cons (ah _ _) (.cons Ip (.cons (ah _ _) (r))))))))))))))))
theorem GD {l:List Ty}(r:aW prog 176 l):aW prog 160 (unkTy::ty161::unkTy::unkTy::ty164::unkTy::unkTy::unkTy::unkTy::unkTy::unkTy::unkTy::unkTy::unkTy::unkTy::unkTy::l):=
 .cons (ah _ _) (.cons Iq (.cons (ah _ _) (.cons (ah _ _) (.cons Ir (.cons (ah _ _) (.cons (ah _ _) (.cons (ah _ _) (.cons (ah _ _) (.cons (ah _ _) (.cons (ah _ _) (.cons (ah _ _) (.cons (ah _ _) (.cons (ah _ _) (.cons (ah _ _) (.cons (ah _ _) (r))))))))))))))))
theorem GE {l:List Ty}(r:aW prog 192 l):aW prog 176 (unkTy::unkTy::unkTy::unkTy::unkTy::ty181::unkTy::unkTy::unkTy::unkTy::unkTy::unkTy::unkTy::unkTy::ty190::unkTy::l):=
 .cons (ah _ _) (.cons (ah _ _) (.cons (ah _ _) (.cons (ah _ _) (.cons (ah _ _) (.cons Is (.cons (ah _ _) (.cons (ah _ _) (.cons (ah _ _) (.cons (ah _ _) (.cons (ah _ _) (.cons (ah _ _) (.cons (ah _ _) (.cons (ah _ _) (.cons It (.cons (ah _ _) (r))))))))))))))))
theorem GF {l:List Ty}(r:aW prog 208 l):aW prog 192 (unkTy::unkTy::unkTy::ty195::unkTy::unkTy::unkTy::unkTy::unkTy::unkTy::unkTy::unkTy::unkTy::unkTy::unkTy::unkTy::l):=
 .cons (ah _ _) (.cons (ah _ _) (.cons (ah _ _) (.cons Iu (.cons (ah _ _) (.cons (ah _ _) (.cons (ah _ _) (.cons (ah _ _) (.cons (ah _ _) (.cons (ah _ _) (.cons (ah _ _) (.cons (ah _ _) (.cons (ah _ _) (.cons (ah _ _) (.cons (ah _ _) (.cons (ah _ _) (r))))))))))))))))
theorem GG {l:List Ty}(r:aW prog 224 l):aW prog 208 (unkTy::unkTy::unkTy::unkTy::unkTy::unkTy::unkTy::unkTy::unkTy::unkTy::unkTy::unkTy::unkTy::unkTy::unkTy::ty223::l):=
 .cons (ah _ _) (.cons (ah _ _) (.cons (ah _ _) (.cons (ah _ _) (.cons (ah _ _) (.cons (ah _ _) (.cons (ah _ _) (.cons (ah _ _) (.cons (ah _ _) (.cons (ah _ _) (.cons (ah _ _) (.cons (ah _ _) (.cons (ah _ _) (.cons (ah _ _) (.cons (ah _ _) (.cons Iv (r))))))))))))))))
theorem GH {l:List Ty}(r:aW prog 240 l):aW prog 224 (unkTy::unkTy::unkTy::unkTy::unkTy::unkTy::unkTy::unkTy::unkTy::unkTy::unkTy::unkTy::unkTy::unkTy::unkTy::unkTy::l):=
 .cons (ah _ _) (.cons (ah _ _) (.cons (ah _ _) (.cons (ah _ _) (.cons (ah _ _) (.cons (ah _ _) (.cons (ah _ _) (.cons (ah _ _) (.cons (ah _ _) (.cons (ah _ _) (.cons (ah _ _) (.cons (ah _ _) (.cons (ah _ _) (.cons (ah _ _) (.cons (ah _ _) (.cons (ah _ _) (r))))))))))))))))
theorem GJ {l:List Ty}(r:aW prog 256 l):aW prog 240 (unkTy::ty241::unkTy::unkTy::unkTy::ty245::unkTy::ty247::unkTy::unkTy::unkTy::unkTy::unkTy::unkTy::unkTy::unkTy::l):=
 .cons (ah _ _) (.cons Iw (.cons (ah _ _) (.cons (ah _ _) (.cons (ah _ _) (.cons Ix (.cons (ah _ _) (.cons Iy (.cons (ah _ _) (.cons (ah _ _) (.cons (ah _ _) (.cons (ah _ _) (.cons (ah _ _) (.cons (ah _ _) (.cons (ah _ _) (.cons (ah _ _) (r))))))))))))))))
theorem GK {l:List Ty}(r:aW prog 272 l):aW prog 256 (unkTy::unkTy::unkTy::unkTy::unkTy::unkTy::unkTy::unkTy::unkTy::unkTy::ty266::unkTy::ty268::unkTy::unkTy::unkTy::l):=
 .cons (ah _ _) (.cons (ah _ _) (.cons (ah _ _) (.cons (ah _ _) (.cons (ah _ _) (.cons (ah _ _) (.cons (ah _ _) (.cons (ah _ _) (.cons (ah _ _) (.cons (ah _ _) (.cons Iz (.cons (ah _ _) (.cons IA (.cons (ah _ _) (.cons (ah _ _) (.cons (ah _ _) (r))))))))))))))))
theorem GL {l:List Ty}(r:aW prog 288 l):aW prog 272 (unkTy::unkTy::unkTy::unkTy::unkTy::unkTy::unkTy::ty279::unkTy::unkTy::unkTy::unkTy::unkTy::unkTy::unkTy::unkTy::l):=
 .cons (ah _ _) (.cons (ah _ _) (.cons (ah _ _) (.cons (ah _ _) (.cons (ah _ _) (.cons (ah _ _) (.cons (ah _ _) (.cons IB (.cons (ah _ _) (.cons (ah _ _) (.cons (ah _ _) (.cons (ah _ _) (.cons (ah _ _) (.cons (ah _ _) (.cons (ah _ _) (.cons (ah _ _) (r))))))))))))))))
theorem GM {l:List Ty}(r:aW prog 304 l):aW prog 288 (unkTy::unkTy::unkTy::unkTy::unkTy::unkTy::unkTy::unkTy::unkTy::unkTy::unkTy::unkTy::unkTy::unkTy::unkTy::unkTy::l):=
 .cons (ah _ _) (.cons (ah _ _) (.cons (ah _ _) (.cons (ah _ _) (.cons (ah _ _) (.cons (ah _ _) (.cons (ah _ _) (.cons (ah _ _) (.cons (ah _ _) (.cons (ah _ _) (.cons (ah _ _) (.cons (ah _ _) (.cons (ah _ _) (.cons (ah _ _) (.cons (ah _ _) (.cons (ah _ _) (r))))))))))))))))
theorem GN {l:List Ty}(r:aW prog 320 l):aW prog 304 (unkTy::ty305::unkTy::unkTy::ty308::unkTy::unkTy::unkTy::ty312::unkTy::ty314::unkTy::unkTy::unkTy::unkTy::unkTy::l):=
 .cons (ah _ _) (.cons IC (.cons (ah _ _) (.cons (ah _ _) (.cons ID (.cons (ah _ _) (.cons (ah _ _) (.cons (ah _ _) (.cons IE (.cons (ah _ _) (.cons IF (.cons (ah _ _) (.cons (ah _ _) (.cons (ah _ _) (.cons (ah _ _) (.cons (ah _ _) (r))))))))))))))))
theorem GO {l:List Ty}(r:aW prog 336 l):aW prog 320 (unkTy::unkTy::unkTy::unkTy::unkTy::unkTy::unkTy::ty327::unkTy::unkTy::unkTy::ty331::unkTy::unkTy::unkTy::unkTy::l):=
 .cons (ah _ _) (.cons (ah _ _) (.cons (ah _ _) (.cons (ah _ _) (.cons (ah _ _) (.cons (ah _ _) (.cons (ah _ _) (.cons IG (.cons (ah _ _) (.cons (ah _ _) (.cons (ah _ _) (.cons IH (.cons (ah _ _) (.cons (ah _ _) (.cons (ah _ _) (.cons (ah _ _) (r))))))))))))))))
theorem GP {l:List Ty}(r:aW prog 349 l):aW prog 336 (ty336::unkTy::unkTy::unkTy::unkTy::ty341::unkTy::unkTy::unkTy::unkTy::unkTy::unkTy::ty348::l):=
 .cons II (.cons (ah _ _) (.cons (ah _ _) (.cons (ah _ _) (.cons (ah _ _) (.cons IJ (.cons (ah _ _) (.cons (ah _ _) (.cons (ah _ _) (.cons (ah _ _) (.cons (ah _ _) (.cons (ah _ _) (.cons IK (r)))))))))))))
theorem hT (t:Nat):TyOk prog t (T t):=by
 have h:aW prog 0 tys:=LD (IL (IM (IP (IQ (IR (IS (GA (GB (GC (GD (GE (GF (GG (GH (GJ (GK (GL (GM (GN (GO (GP (.nil _))))))))))))))))))))))
 have:=h.get t
 rw[Nat.zero_add]at this
 exact this
section
open TK
@[simp,go_sem] theorem Tk1:(T 1).kind=.other:=rfl
@[simp,go_sem] theorem Ts1:(T 1).size=1:=rfl
@[simp,go_sem] theorem Tb1:(T 1).bytes=8:=rfl
@[simp,go_sem] theorem Tz1:(T 1).zero=[Go.Value.nilFunc]:=rfl
@[simp,go_sem] theorem Tk2:(T 2).kind=.int .i64:=rfl
@[simp,go_sem] theorem Ts2:(T 2).size=1:=rfl
@[simp,go_sem] theorem Tb2:(T 2).bytes=8:=rfl
@[simp,go_sem] theorem Tz2:(T 2).zero=[Go.Value.int Go.IntKind.i64 0]:=rfl
@[simp,go_sem] theorem Tk3:(T 3).kind=.int .i64:=rfl
@[simp,go_sem] theorem Ts3:(T 3).size=1:=rfl
@[simp,go_sem] theorem Tb3:(T 3).bytes=8:=rfl
@[simp,go_sem] theorem Tz3:(T 3).zero=[Go.Value.int Go.IntKind.i64 0]:=rfl
@[simp,go_sem] theorem Tk4:(T 4).kind=.bool:=rfl
@[simp,go_sem] theorem Ts4:(T 4).size=1:=rfl
@[simp,go_sem] theorem Tb4:(T 4).bytes=1:=rfl
@[simp,go_sem] theorem Tz4:(T 4).zero=[Go.Value.bool false]:=rfl
@[simp,go_sem] theorem Tk5:(T 5).kind=.int .u8:=rfl
@[simp,go_sem] theorem Ts5:(T 5).size=1:=rfl
@[simp,go_sem] theorem Tb5:(T 5).bytes=1:=rfl
@[simp,go_sem] theorem Tz5:(T 5).zero=[Go.Value.int Go.IntKind.u8 0]:=rfl
@[simp,go_sem] theorem Tk6:(T 6).kind=.int .u8:=rfl
@[simp,go_sem] theorem Ts6:(T 6).size=1:=rfl
@[simp,go_sem] theorem Tb6:(T 6).bytes=1:=rfl
@[simp,go_sem] theorem Tz6:(T 6).zero=[Go.Value.int Go.IntKind.u8 0]:=rfl
@[simp,go_sem] theorem Tk7:(T 7).kind=.struct [(0,2),(1,3),(2,4),(3,6)]:=rfl
@[simp,go_sem] theorem Ts7:(T 7).size=4:=rfl
@[simp,go_sem] theorem Tb7:(T 7).bytes=24:=rfl
@[simp,go_sem] theorem Tz7:(T 7).zero=[Go.Value.int Go.IntKind.i64 0,Go.Value.int Go.IntKind.i64 0,Go.Value.bool false,Go.Value.int Go.IntKind.u8 0]:=rfl
@[simp,go_sem] theorem Tk8:(T 8).kind=.struct [(0,2),(1,3),(2,4),(3,6)]:=rfl
@[simp,go_sem] theorem Ts8:(T 8).size=4:=rfl
@[simp,go_sem] theorem Tb8:(T 8).bytes=24:=rfl
@[simp,go_sem] theorem Tz8:(T 8).zero=[Go.Value.int Go.IntKind.i64 0,Go.Value.int Go.IntKind.i64 0,Go.Value.bool false,Go.Value.int Go.IntKind.u8 0]:=rfl
@[simp,go_sem] theorem Tk9:(T 9).kind=.str:=rfl
@[simp,go_sem] theorem Ts9:(T 9).size=1:=rfl
@[simp,go_sem] theorem Tb9:(T 9).bytes=16:=rfl
@[simp,go_sem] theorem Tz9:(T 9).zero=[Go.Value.string { data:=#[] }]:=rfl
@[simp,go_sem] theorem Tk10:(T 10).kind=.str:=rfl
@[simp,go_sem] theorem Ts10:(T 10).size=1:=rfl
@[simp,go_sem] theorem Tb10:(T 10).bytes=16:=rfl
@[simp,go_sem] theorem Tz10:(T 10).zero=[Go.Value.string { data:=#[] }]:=rfl
@[simp,go_sem] theorem Tk11:(T 11).kind=.str:=rfl
@[simp,go_sem] theorem Ts11:(T 11).size=1:=rfl
@[simp,go_sem] theorem Tb11:(T 11).bytes=16:=rfl
@[simp,go_sem] theorem Tz11:(T 11).zero=[Go.Value.string { data:=#[] }]:=rfl
@[simp,go_sem] theorem Tk20:(T 20).kind=.other:=rfl
@[simp,go_sem] theorem Ts20:(T 20).size=1:=rfl
@[simp,go_sem] theorem Tb20:(T 20).bytes=16:=rfl
@[simp,go_sem] theorem Tz20:(T 20).zero=[Go.Value.nilIface]:=rfl
@[simp,go_sem] theorem Tk22:(T 22).kind=.slice 5:=rfl
@[simp,go_sem] theorem Ts22:(T 22).size=1:=rfl
@[simp,go_sem] theorem Tb22:(T 22).bytes=24:=rfl
@[simp,go_sem] theorem Tz22:(T 22).zero=[Go.Value.slice none 0 0]:=rfl
@[simp,go_sem] theorem Tk27:(T 27).kind=.slice 9:=rfl
@[simp,go_sem] theorem Ts27:(T 27).size=1:=rfl
@[simp,go_sem] theorem Tb27:(T 27).bytes=24:=rfl
@[simp,go_sem] theorem Tz27:(T 27).zero=[Go.Value.slice none 0 0]:=rfl
@[simp,go_sem] theorem Tk32:(T 32).kind=.slice 72:=rfl
@[simp,go_sem] theorem Ts32:(T 32).size=1:=rfl
@[simp,go_sem] theorem Tb32:(T 32).bytes=24:=rfl
@[simp,go_sem] theorem Tz32:(T 32).zero=[Go.Value.slice none 0 0]:=rfl
@[simp,go_sem] theorem Tk33:(T 33).kind=.slice 3:=rfl
@[simp,go_sem] theorem Ts33:(T 33).size=1:=rfl
@[simp,go_sem] theorem Tb33:(T 33).bytes=24:=rfl
@[simp,go_sem] theorem Tz33:(T 33).zero=[Go.Value.slice none 0 0]:=rfl
@[simp,go_sem] theorem Tk35:(T 35).kind=.struct [(0,32),(1,33),(2,3)]:=rfl
@[simp,go_sem] theorem Ts35:(T 35).size=3:=rfl
@[simp,go_sem] theorem Tb35:(T 35).bytes=56:=rfl
@[simp,go_sem] theorem Tz35:(T 35).zero=[Go.Value.slice none 0 0,Go.Value.slice none 0 0,Go.Value.int Go.IntKind.i64 0]:=rfl
@[simp,go_sem] theorem Tk36:(T 36).kind=.slice 102:=rfl
@[simp,go_sem] theorem Ts36:(T 36).size=1:=rfl
@[simp,go_sem] theorem Tb36:(T 36).bytes=24:=rfl
@[simp,go_sem] theorem Tz36:(T 36).zero=[Go.Value.slice none 0 0]:=rfl
@[simp,go_sem] theorem Tk37:(T 37).kind=.slice 100:=rfl
@[simp,go_sem] theorem Ts37:(T 37).size=1:=rfl
@[simp,go_sem] theorem Tb37:(T 37).bytes=24:=rfl
@[simp,go_sem] theorem Tz37:(T 37).zero=[Go.Value.slice none 0 0]:=rfl
@[simp,go_sem] theorem Tk39:(T 39).kind=.struct [(0,36),(1,37),(2,3)]:=rfl
@[simp,go_sem] theorem Ts39:(T 39).size=3:=rfl
@[simp,go_sem] theorem Tb39:(T 39).bytes=56:=rfl
@[simp,go_sem] theorem Tz39:(T 39).zero=[Go.Value.slice none 0 0,Go.Value.slice none 0 0,Go.Value.int Go.IntKind.i64 0]:=rfl
@[simp,go_sem] theorem Tk41:(T 41).kind=.struct [(0,3),(1,33),(2,33)]:=rfl
@[simp,go_sem] theorem Ts41:(T 41).size=3:=rfl
@[simp,go_sem] theorem Tb41:(T 41).bytes=56:=rfl
@[simp,go_sem] theorem Tz41:(T 41).zero=[Go.Value.int Go.IntKind.i64 0,Go.Value.slice none 0 0,Go.Value.slice none 0 0]:=rfl
@[simp,go_sem] theorem Tk42:(T 42).kind=.slice 104:=rfl
@[simp,go_sem] theorem Ts42:(T 42).size=1:=rfl
@[simp,go_sem] theorem Tb42:(T 42).bytes=24:=rfl
@[simp,go_sem] theorem Tz42:(T 42).zero=[Go.Value.slice none 0 0]:=rfl
@[simp,go_sem] theorem Tk44:(T 44).kind=.struct [(0,39),(3,41),(6,4),(7,42)]:=rfl
@[simp,go_sem] theorem Ts44:(T 44).size=8:=rfl
@[simp,go_sem] theorem Tb44:(T 44).bytes=144:=rfl
@[simp,go_sem] theorem Tz44:(T 44).zero=[Go.Value.slice none 0 0,Go.Value.slice none 0 0,Go.Value.int Go.IntKind.i64 0,Go.Value.int Go.IntKind.i64 0,Go.Value.slice none 0 0,Go.Value.slice none 0 0,Go.Value.bool false,Go.Value.slice none 0 0]:=rfl
@[simp,go_sem] theorem Tk45:(T 45).kind=.slice 62:=rfl
@[simp,go_sem] theorem Ts45:(T 45).size=1:=rfl
@[simp,go_sem] theorem Tb45:(T 45).bytes=24:=rfl
@[simp,go_sem] theorem Tz45:(T 45).zero=[Go.Value.slice none 0 0]:=rfl
@[simp,go_sem] theorem Tk47:(T 47).kind=.struct [(0,35),(3,44),(11,45)]:=rfl
@[simp,go_sem] theorem Ts47:(T 47).size=12:=rfl
@[simp,go_sem] theorem Tb47:(T 47).bytes=224:=rfl
@[simp,go_sem] theorem Tz47:(T 47).zero=[Go.Value.slice none 0 0,Go.Value.slice none 0 0,Go.Value.int Go.IntKind.i64 0,Go.Value.slice none 0 0,Go.Value.slice none 0 0,Go.Value.int Go.IntKind.i64 0,Go.Value.int Go.IntKind.i64 0,Go.Value.slice none 0 0,Go.Value.slice none 0 0,Go.Value.bool false,Go.Value.slice none 0 0,Go.Value.slice none 0 0]:=rfl
@[simp,go_sem] theorem Tk52:(T 52).kind=.other:=rfl
@[simp,go_sem] theorem Ts52:(T 52).size=1:=rfl
@[simp,go_sem] theorem Tb52:(T 52).bytes=8:=rfl
@[simp,go_sem] theorem Tz52:(T 52).zero=[Go.Value.pointer none]:=rfl
@[simp,go_sem] theorem Tk62:(T 62).kind=.struct [(0,3),(1,3)]:=rfl
@[simp,go_sem] theorem Ts62:(T 62).size=2:=rfl
@[simp,go_sem] theorem Tb62:(T 62).bytes=16:=rfl
@[simp,go_sem] theorem Tz62:(T 62).zero=[Go.Value.int Go.IntKind.i64 0,Go.Value.int Go.IntKind.i64 0]:=rfl
@[simp,go_sem] theorem Te62:(T 62).eqs=some [(0,3),(1,3)]:=rfl
@[simp,go_sem] theorem Tk65:(T 65).kind=.struct [(0,22),(1,3),(2,3)]:=rfl
@[simp,go_sem] theorem Ts65:(T 65).size=3:=rfl
@[simp,go_sem] theorem Tb65:(T 65).bytes=40:=rfl
@[simp,go_sem] theorem Tz65:(T 65).zero=[Go.Value.slice none 0 0,Go.Value.int Go.IntKind.i64 0,Go.Value.int Go.IntKind.i64 0]:=rfl
@[simp,go_sem] theorem Tk66:(T 66).kind=.int .u64:=rfl
@[simp,go_sem] theorem Ts66:(T 66).size=1:=rfl
@[simp,go_sem] theorem Tb66:(T 66).bytes=8:=rfl
@[simp,go_sem] theorem Tz66:(T 66).zero=[Go.Value.int Go.IntKind.u64 0]:=rfl
@[simp,go_sem] theorem Tk72:(T 72).kind=.struct [(0,9),(1,3),(2,4),(3,3),(4,3),(5,3),(6,3),(7,4),(8,3),(9,3),(10,3)]:=rfl
@[simp,go_sem] theorem Ts72:(T 72).size=11:=rfl
@[simp,go_sem] theorem Tb72:(T 72).bytes=96:=rfl
@[simp,go_sem] theorem Tz72:(T 72).zero=[Go.Value.string { data:=#[] },Go.Value.int Go.IntKind.i64 0,Go.Value.bool false,Go.Value.int Go.IntKind.i64 0,Go.Value.int Go.IntKind.i64 0,Go.Value.int Go.IntKind.i64 0,Go.Value.int Go.IntKind.i64 0,Go.Value.bool false,Go.Value.int Go.IntKind.i64 0,Go.Value.int Go.IntKind.i64 0,Go.Value.int Go.IntKind.i64 0]:=rfl
@[simp,go_sem] theorem Te72:(T 72).eqs=some [(0,9),(1,3),(2,4),(3,3),(4,3),(5,3),(6,3),(7,4),(8,3),(9,3),(10,3)]:=rfl
@[simp,go_sem] theorem Tk77:(T 77).kind=.other:=rfl
@[simp,go_sem] theorem Ts77:(T 77).size=1:=rfl
@[simp,go_sem] theorem Tb77:(T 77).bytes=8:=rfl
@[simp,go_sem] theorem Tz77:(T 77).zero=[Go.Value.pointer none]:=rfl
@[simp,go_sem] theorem Tk87:(T 87).kind=.other:=rfl
@[simp,go_sem] theorem Ts87:(T 87).size=1:=rfl
@[simp,go_sem] theorem Tb87:(T 87).bytes=8:=rfl
@[simp,go_sem] theorem Tz87:(T 87).zero=[Go.Value.pointer none]:=rfl
@[simp,go_sem] theorem Tk89:(T 89).kind=.struct [(0,87),(1,22)]:=rfl
@[simp,go_sem] theorem Ts89:(T 89).size=2:=rfl
@[simp,go_sem] theorem Tb89:(T 89).bytes=32:=rfl
@[simp,go_sem] theorem Tz89:(T 89).zero=[Go.Value.pointer none,Go.Value.slice none 0 0]:=rfl
@[simp,go_sem] theorem Tk92:(T 92).kind=.other:=rfl
@[simp,go_sem] theorem Ts92:(T 92).size=1:=rfl
@[simp,go_sem] theorem Tb92:(T 92).bytes=16:=rfl
@[simp,go_sem] theorem Tz92:(T 92).zero=[Go.Value.nilIface]:=rfl
@[simp,go_sem] theorem Tk95:(T 95).kind=.other:=rfl
@[simp,go_sem] theorem Ts95:(T 95).size=1:=rfl
@[simp,go_sem] theorem Tb95:(T 95).bytes=8:=rfl
@[simp,go_sem] theorem Tz95:(T 95).zero=[Go.Value.nilFunc]:=rfl
@[simp,go_sem] theorem abc:(T 100).kind=.struct [(0,3),(1,3),(2,3),(3,3),(4,4)]:=rfl
@[simp,go_sem] theorem abd:(T 100).size=5:=rfl
@[simp,go_sem] theorem abe:(T 100).bytes=40:=rfl
@[simp,go_sem] theorem abf:(T 100).zero=[Go.Value.int Go.IntKind.i64 0,Go.Value.int Go.IntKind.i64 0,Go.Value.int Go.IntKind.i64 0,Go.Value.int Go.IntKind.i64 0,Go.Value.bool false]:=rfl
@[simp,go_sem] theorem abg:(T 100).eqs=some [(0,3),(1,3),(2,3),(3,3),(4,4)]:=rfl
@[simp,go_sem] theorem abh:(T 102).kind=.struct [(0,9),(1,33),(2,3)]:=rfl
@[simp,go_sem] theorem abi:(T 102).size=3:=rfl
@[simp,go_sem] theorem abj:(T 102).bytes=48:=rfl
@[simp,go_sem] theorem abk:(T 102).zero=[Go.Value.string { data:=#[] },Go.Value.slice none 0 0,Go.Value.int Go.IntKind.i64 0]:=rfl
@[simp,go_sem] theorem abl:(T 104).kind=.struct [(0,3),(1,33),(2,33),(3,33)]:=rfl
@[simp,go_sem] theorem abm:(T 104).size=4:=rfl
@[simp,go_sem] theorem abn:(T 104).bytes=80:=rfl
@[simp,go_sem] theorem abo:(T 104).zero=[Go.Value.int Go.IntKind.i64 0,Go.Value.slice none 0 0,Go.Value.slice none 0 0,Go.Value.slice none 0 0]:=rfl
@[simp,go_sem] theorem abp:(T 125).kind=.other:=rfl
@[simp,go_sem] theorem abq:(T 125).size=1:=rfl
@[simp,go_sem] theorem abr:(T 125).bytes=8:=rfl
@[simp,go_sem] theorem abt:(T 125).zero=[Go.Value.nilFunc]:=rfl
@[simp,go_sem] theorem abu:(T 132).kind=.int .u64:=rfl
@[simp,go_sem] theorem abv:(T 132).size=1:=rfl
@[simp,go_sem] theorem abw:(T 132).bytes=8:=rfl
@[simp,go_sem] theorem abx:(T 132).zero=[Go.Value.int Go.IntKind.u64 0]:=rfl
@[simp,go_sem] theorem aby:(T 141).kind=.other:=rfl
@[simp,go_sem] theorem abz:(T 141).size=1:=rfl
@[simp,go_sem] theorem abA:(T 141).bytes=8:=rfl
@[simp,go_sem] theorem abB:(T 141).zero=[Go.Value.nilFunc]:=rfl
@[simp,go_sem] theorem abC:(T 142).kind=.other:=rfl
@[simp,go_sem] theorem abD:(T 142).size=1:=rfl
@[simp,go_sem] theorem abE:(T 142).bytes=8:=rfl
@[simp,go_sem] theorem abF:(T 142).zero=[Go.Value.nilFunc]:=rfl
@[simp,go_sem] theorem abG:(T 148).kind=.other:=rfl
@[simp,go_sem] theorem abH:(T 148).size=1:=rfl
@[simp,go_sem] theorem abI:(T 148).bytes=8:=rfl
@[simp,go_sem] theorem abJ:(T 148).zero=[Go.Value.pointer none]:=rfl
@[simp,go_sem] theorem abK:(T 151).kind=.slice 33:=rfl
@[simp,go_sem] theorem abL:(T 151).size=1:=rfl
@[simp,go_sem] theorem abM:(T 151).bytes=24:=rfl
@[simp,go_sem] theorem abN:(T 151).zero=[Go.Value.slice none 0 0]:=rfl
@[simp,go_sem] theorem abO:(T 153).kind=.other:=rfl
@[simp,go_sem] theorem abP:(T 153).size=1:=rfl
@[simp,go_sem] theorem abQ:(T 153).bytes=8:=rfl
@[simp,go_sem] theorem abR:(T 153).zero=[Go.Value.nilFunc]:=rfl
@[simp,go_sem] theorem abS:(T 156).kind=.map 9 4:=rfl
@[simp,go_sem] theorem abT:(T 156).size=1:=rfl
@[simp,go_sem] theorem abU:(T 156).bytes=8:=rfl
@[simp,go_sem] theorem abV:(T 156).zero=[Go.Value.map none]:=rfl
@[simp,go_sem] theorem abW:(T 158).kind=.struct [(0,39),(3,156)]:=rfl
@[simp,go_sem] theorem abX:(T 158).size=4:=rfl
@[simp,go_sem] theorem abY:(T 158).bytes=64:=rfl
@[simp,go_sem] theorem abZ:(T 158).zero=[Go.Value.slice none 0 0,Go.Value.slice none 0 0,Go.Value.int Go.IntKind.i64 0,Go.Value.map none]:=rfl
@[simp,go_sem] theorem aca:(T 161).kind=.other:=rfl
@[simp,go_sem] theorem acb:(T 161).size=1:=rfl
@[simp,go_sem] theorem acd:(T 161).bytes=8:=rfl
@[simp,go_sem] theorem ace:(T 161).zero=[Go.Value.nilFunc]:=rfl
@[simp,go_sem] theorem acf:(T 164).kind=.other:=rfl
@[simp,go_sem] theorem acg:(T 164).size=1:=rfl
@[simp,go_sem] theorem ach:(T 164).bytes=8:=rfl
@[simp,go_sem] theorem aci:(T 164).zero=[Go.Value.nilFunc]:=rfl
@[simp,go_sem] theorem acj:(T 181).kind=.struct [(0,3),(1,3)]:=rfl
@[simp,go_sem] theorem ack:(T 181).size=2:=rfl
@[simp,go_sem] theorem acl:(T 181).bytes=16:=rfl
@[simp,go_sem] theorem acm:(T 181).zero=[Go.Value.int Go.IntKind.i64 0,Go.Value.int Go.IntKind.i64 0]:=rfl
@[simp,go_sem] theorem acn:(T 181).eqs=some [(0,3),(1,3)]:=rfl
@[simp,go_sem] theorem aco:(T 190).kind=.int .u32:=rfl
@[simp,go_sem] theorem acp:(T 190).size=1:=rfl
@[simp,go_sem] theorem acq:(T 190).bytes=4:=rfl
@[simp,go_sem] theorem acr:(T 190).zero=[Go.Value.int Go.IntKind.u32 0]:=rfl
@[simp,go_sem] theorem acs:(T 195).kind=.other:=rfl
@[simp,go_sem] theorem act:(T 195).size=1:=rfl
@[simp,go_sem] theorem acu:(T 195).bytes=8:=rfl
@[simp,go_sem] theorem acv:(T 195).zero=[Go.Value.nilFunc]:=rfl
@[simp,go_sem] theorem acw:(T 223).kind=.struct [(0,33),(1,33)]:=rfl
@[simp,go_sem] theorem acx:(T 223).size=2:=rfl
@[simp,go_sem] theorem acy:(T 223).bytes=48:=rfl
@[simp,go_sem] theorem acz:(T 223).zero=[Go.Value.slice none 0 0,Go.Value.slice none 0 0]:=rfl
@[simp,go_sem] theorem acA:(T 241).kind=.other:=rfl
@[simp,go_sem] theorem acB:(T 241).size=1:=rfl
@[simp,go_sem] theorem acC:(T 241).bytes=8:=rfl
@[simp,go_sem] theorem acD:(T 241).zero=[Go.Value.nilFunc]:=rfl
@[simp,go_sem] theorem acE:(T 245).kind=.other:=rfl
@[simp,go_sem] theorem acF:(T 245).size=1:=rfl
@[simp,go_sem] theorem acG:(T 245).bytes=8:=rfl
@[simp,go_sem] theorem acH:(T 245).zero=[Go.Value.nilFunc]:=rfl
@[simp,go_sem] theorem acI:(T 247).kind=.int .i64:=rfl
@[simp,go_sem] theorem acJ:(T 247).size=1:=rfl
@[simp,go_sem] theorem acK:(T 247).bytes=8:=rfl
@[simp,go_sem] theorem acL:(T 247).zero=[Go.Value.int Go.IntKind.i64 0]:=rfl
@[simp,go_sem] theorem acM:(T 266).kind=.slice 305:=rfl
@[simp,go_sem] theorem acN:(T 266).size=1:=rfl
@[simp,go_sem] theorem acO:(T 266).bytes=24:=rfl
@[simp,go_sem] theorem acP:(T 266).zero=[Go.Value.slice none 0 0]:=rfl
@[simp,go_sem] theorem acQ:(T 268).kind=.struct [(0,3),(1,266)]:=rfl
@[simp,go_sem] theorem acR:(T 268).size=2:=rfl
@[simp,go_sem] theorem acS:(T 268).bytes=32:=rfl
@[simp,go_sem] theorem acT:(T 268).zero=[Go.Value.int Go.IntKind.i64 0,Go.Value.slice none 0 0]:=rfl
@[simp,go_sem] theorem acU:(T 279).kind=.slice 45:=rfl
@[simp,go_sem] theorem acV:(T 279).size=1:=rfl
@[simp,go_sem] theorem acW:(T 279).bytes=24:=rfl
@[simp,go_sem] theorem acX:(T 279).zero=[Go.Value.slice none 0 0]:=rfl
@[simp,go_sem] theorem acY:(T 305).kind=.struct [(0,3),(1,3),(2,181)]:=rfl
@[simp,go_sem] theorem acZ:(T 305).size=4:=rfl
@[simp,go_sem] theorem ada:(T 305).bytes=32:=rfl
@[simp,go_sem] theorem adb:(T 305).zero=[Go.Value.int Go.IntKind.i64 0,Go.Value.int Go.IntKind.i64 0,Go.Value.int Go.IntKind.i64 0,Go.Value.int Go.IntKind.i64 0]:=rfl
@[simp,go_sem] theorem adc:(T 308).kind=.other:=rfl
@[simp,go_sem] theorem ade:(T 308).size=1:=rfl
@[simp,go_sem] theorem adf:(T 308).bytes=8:=rfl
@[simp,go_sem] theorem adg:(T 308).zero=[Go.Value.nilFunc]:=rfl
@[simp,go_sem] theorem adh:(T 312).kind=.slice 331:=rfl
@[simp,go_sem] theorem adi:(T 312).size=1:=rfl
@[simp,go_sem] theorem adj:(T 312).bytes=24:=rfl
@[simp,go_sem] theorem adk:(T 312).zero=[Go.Value.slice none 0 0]:=rfl
@[simp,go_sem] theorem adl:(T 314).kind=.struct [(0,3),(1,312)]:=rfl
@[simp,go_sem] theorem adm:(T 314).size=2:=rfl
@[simp,go_sem] theorem adn:(T 314).bytes=32:=rfl
@[simp,go_sem] theorem ado:(T 314).zero=[Go.Value.int Go.IntKind.i64 0,Go.Value.slice none 0 0]:=rfl
@[simp,go_sem] theorem adp:(T 327).kind=.other:=rfl
@[simp,go_sem] theorem adq:(T 327).size=1:=rfl
@[simp,go_sem] theorem adr:(T 327).bytes=8:=rfl
@[simp,go_sem] theorem ads:(T 327).zero=[Go.Value.nilFunc]:=rfl
@[simp,go_sem] theorem adt:(T 331).kind=.struct [(0,3),(1,3),(2,3)]:=rfl
@[simp,go_sem] theorem adu:(T 331).size=3:=rfl
@[simp,go_sem] theorem adv:(T 331).bytes=24:=rfl
@[simp,go_sem] theorem adw:(T 331).zero=[Go.Value.int Go.IntKind.i64 0,Go.Value.int Go.IntKind.i64 0,Go.Value.int Go.IntKind.i64 0]:=rfl
@[simp,go_sem] theorem adx:(T 331).eqs=some [(0,3),(1,3),(2,3)]:=rfl
@[simp,go_sem] theorem ady:(T 336).kind=.struct [(0,3),(1,33)]:=rfl
@[simp,go_sem] theorem adz:(T 336).size=2:=rfl
@[simp,go_sem] theorem adA:(T 336).bytes=32:=rfl
@[simp,go_sem] theorem adB:(T 336).zero=[Go.Value.int Go.IntKind.i64 0,Go.Value.slice none 0 0]:=rfl
@[simp,go_sem] theorem adC:(T 341).kind=.other:=rfl
@[simp,go_sem] theorem adD:(T 341).size=1:=rfl
@[simp,go_sem] theorem adE:(T 341).bytes=8:=rfl
@[simp,go_sem] theorem adF:(T 341).zero=[Go.Value.nilFunc]:=rfl
@[simp,go_sem] theorem adG:(T 348).kind=.slice 4:=rfl
@[simp,go_sem] theorem adH:(T 348).size=1:=rfl
@[simp,go_sem] theorem adI:(T 348).bytes=24:=rfl
@[simp,go_sem] theorem adJ:(T 348).zero=[Go.Value.slice none 0 0]:=rfl
end
end Go.Proofs.Qr
