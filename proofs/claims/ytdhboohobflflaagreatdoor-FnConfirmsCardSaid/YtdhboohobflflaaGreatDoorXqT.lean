/- The types of the seat,and that they fit. Made by gentypes.py. -/
import Derived.Test.YtdhboohobflflaaGreatDoorXq31
import Derived.KernelRfl
import Derived.Test.YtdhboohobflflaaGreatDoorProg
set_option linter.all false
namespace Go.Proofs.Qq
open Go Tryz
def unkTy:Ty:=⟨.unknown,0,0,[],none⟩
def ty1:Ty:=⟨.other,1,8,[Go.Value.nilFunc],none⟩
def ty2:Ty:=⟨.int .i64,1,8,[Go.Value.int Go.IntKind.i64 0],none⟩
def ty3:Ty:=⟨.int .i64,1,8,[Go.Value.int Go.IntKind.i64 0],none⟩
def ty4:Ty:=⟨.bool,1,1,[Go.Value.bool false],none⟩
def ty5:Ty:=⟨.int .u8,1,1,[Go.Value.int Go.IntKind.u8 0],none⟩
def ty6:Ty:=⟨.int .u8,1,1,[Go.Value.int Go.IntKind.u8 0],none⟩
def ty7:Ty:=⟨.struct [(0,2),(1,3),(2,4),(3,6)],4,24,[Go.Value.int Go.IntKind.i64 0,Go.Value.int Go.IntKind.i64 0,Go.Value.bool false,Go.Value.int Go.IntKind.u8 0],none⟩
def ty8:Ty:=⟨.struct [(0,2),(1,3),(2,4),(3,6)],4,24,[Go.Value.int Go.IntKind.i64 0,Go.Value.int Go.IntKind.i64 0,Go.Value.bool false,Go.Value.int Go.IntKind.u8 0],none⟩
def ty9:Ty:=⟨.str,1,16,[Go.Value.string { data:=#[] }],none⟩
def ty10:Ty:=⟨.str,1,16,[Go.Value.string { data:=#[] }],none⟩
def ty20:Ty:=⟨.other,1,16,[Go.Value.nilIface],none⟩
def ty22:Ty:=⟨.slice 5,1,24,[Go.Value.slice none 0 0],none⟩
def ty27:Ty:=⟨.slice 9,1,24,[Go.Value.slice none 0 0],none⟩
def ty32:Ty:=⟨.slice 72,1,24,[Go.Value.slice none 0 0],none⟩
def ty33:Ty:=⟨.slice 3,1,24,[Go.Value.slice none 0 0],none⟩
def ty35:Ty:=⟨.struct [(0,32),(1,33),(2,3)],3,56,[Go.Value.slice none 0 0,Go.Value.slice none 0 0,Go.Value.int Go.IntKind.i64 0],none⟩
def ty36:Ty:=⟨.slice 102,1,24,[Go.Value.slice none 0 0],none⟩
def ty37:Ty:=⟨.slice 100,1,24,[Go.Value.slice none 0 0],none⟩
def ty39:Ty:=⟨.struct [(0,36),(1,37),(2,3)],3,56,[Go.Value.slice none 0 0,Go.Value.slice none 0 0,Go.Value.int Go.IntKind.i64 0],none⟩
def ty41:Ty:=⟨.struct [(0,3),(1,33),(2,33)],3,56,[Go.Value.int Go.IntKind.i64 0,Go.Value.slice none 0 0,Go.Value.slice none 0 0],none⟩
def ty42:Ty:=⟨.slice 104,1,24,[Go.Value.slice none 0 0],none⟩
def ty44:Ty:=⟨.struct [(0,39),(3,41),(6,4),(7,42)],8,144,[Go.Value.slice none 0 0,Go.Value.slice none 0 0,Go.Value.int Go.IntKind.i64 0,Go.Value.int Go.IntKind.i64 0,Go.Value.slice none 0 0,Go.Value.slice none 0 0,Go.Value.bool false,Go.Value.slice none 0 0],none⟩
def ty45:Ty:=⟨.slice 62,1,24,[Go.Value.slice none 0 0],none⟩
def ty47:Ty:=⟨.struct [(0,35),(3,44),(11,45)],12,224,[Go.Value.slice none 0 0,Go.Value.slice none 0 0,Go.Value.int Go.IntKind.i64 0,Go.Value.slice none 0 0,Go.Value.slice none 0 0,Go.Value.int Go.IntKind.i64 0,Go.Value.int Go.IntKind.i64 0,Go.Value.slice none 0 0,Go.Value.slice none 0 0,Go.Value.bool false,Go.Value.slice none 0 0,Go.Value.slice none 0 0],none⟩
def ty52:Ty:=⟨.other,1,8,[Go.Value.pointer none],none⟩
def ty62:Ty:=⟨.struct [(0,3),(1,3)],2,16,[Go.Value.int Go.IntKind.i64 0,Go.Value.int Go.IntKind.i64 0],some [(0,3),(1,3)]⟩
def ty65:Ty:=⟨.struct [(0,22),(1,3),(2,3)],3,40,[Go.Value.slice none 0 0,Go.Value.int Go.IntKind.i64 0,Go.Value.int Go.IntKind.i64 0],none⟩
def ty66:Ty:=⟨.int .u64,1,8,[Go.Value.int Go.IntKind.u64 0],none⟩
def ty72:Ty:=⟨.struct [(0,9),(1,3),(2,4),(3,3),(4,3),(5,3),(6,3),(7,4),(8,3),(9,3),(10,3)],11,96,[Go.Value.string { data:=#[] },Go.Value.int Go.IntKind.i64 0,Go.Value.bool false,Go.Value.int Go.IntKind.i64 0,Go.Value.int Go.IntKind.i64 0,Go.Value.int Go.IntKind.i64 0,Go.Value.int Go.IntKind.i64 0,Go.Value.bool false,Go.Value.int Go.IntKind.i64 0,Go.Value.int Go.IntKind.i64 0,Go.Value.int Go.IntKind.i64 0],some [(0,9),(1,3),(2,4),(3,3),(4,3),(5,3),(6,3),(7,4),(8,3),(9,3),(10,3)]⟩
def ty77:Ty:=⟨.other,1,8,[Go.Value.pointer none],none⟩
def ty87:Ty:=⟨.other,1,8,[Go.Value.pointer none],none⟩
def ty89:Ty:=⟨.struct [(0,87),(1,22)],2,32,[Go.Value.pointer none,Go.Value.slice none 0 0],none⟩
def ty92:Ty:=⟨.other,1,16,[Go.Value.nilIface],none⟩
def ty95:Ty:=⟨.other,1,8,[Go.Value.nilFunc],none⟩
def ty100:Ty:=⟨.struct [(0,3),(1,3),(2,3),(3,3),(4,4)],5,40,[Go.Value.int Go.IntKind.i64 0,Go.Value.int Go.IntKind.i64 0,Go.Value.int Go.IntKind.i64 0,Go.Value.int Go.IntKind.i64 0,Go.Value.bool false],some [(0,3),(1,3),(2,3),(3,3),(4,4)]⟩
def ty102:Ty:=⟨.struct [(0,9),(1,33),(2,3)],3,48,[Go.Value.string { data:=#[] },Go.Value.slice none 0 0,Go.Value.int Go.IntKind.i64 0],none⟩
def ty104:Ty:=⟨.struct [(0,3),(1,33),(2,33),(3,33)],4,80,[Go.Value.int Go.IntKind.i64 0,Go.Value.slice none 0 0,Go.Value.slice none 0 0,Go.Value.slice none 0 0],none⟩
def ty132:Ty:=⟨.int .u64,1,8,[Go.Value.int Go.IntKind.u64 0],none⟩
def ty141:Ty:=⟨.other,1,8,[Go.Value.nilFunc],none⟩
def ty142:Ty:=⟨.other,1,8,[Go.Value.nilFunc],none⟩
def ty148:Ty:=⟨.other,1,8,[Go.Value.pointer none],none⟩
def ty151:Ty:=⟨.slice 33,1,24,[Go.Value.slice none 0 0],none⟩
def ty153:Ty:=⟨.other,1,8,[Go.Value.nilFunc],none⟩
def ty156:Ty:=⟨.map 9 4,1,8,[Go.Value.map none],none⟩
def ty158:Ty:=⟨.struct [(0,39),(3,156)],4,64,[Go.Value.slice none 0 0,Go.Value.slice none 0 0,Go.Value.int Go.IntKind.i64 0,Go.Value.map none],none⟩
def ty161:Ty:=⟨.other,1,8,[Go.Value.nilFunc],none⟩
def ty164:Ty:=⟨.other,1,8,[Go.Value.nilFunc],none⟩
def ty181:Ty:=⟨.struct [(0,3),(1,3)],2,16,[Go.Value.int Go.IntKind.i64 0,Go.Value.int Go.IntKind.i64 0],some [(0,3),(1,3)]⟩
def ty190:Ty:=⟨.int .u32,1,4,[Go.Value.int Go.IntKind.u32 0],none⟩
def ty195:Ty:=⟨.other,1,8,[Go.Value.nilFunc],none⟩
def ty245:Ty:=⟨.other,1,8,[Go.Value.nilFunc],none⟩
def ty247:Ty:=⟨.int .i64,1,8,[Go.Value.int Go.IntKind.i64 0],none⟩
def ty266:Ty:=⟨.slice 305,1,24,[Go.Value.slice none 0 0],none⟩
def ty268:Ty:=⟨.struct [(0,3),(1,266)],2,32,[Go.Value.int Go.IntKind.i64 0,Go.Value.slice none 0 0],none⟩
def ty305:Ty:=⟨.struct [(0,3),(1,3),(2,181)],4,32,[Go.Value.int Go.IntKind.i64 0,Go.Value.int Go.IntKind.i64 0,Go.Value.int Go.IntKind.i64 0,Go.Value.int Go.IntKind.i64 0],none⟩
def ty308:Ty:=⟨.other,1,8,[Go.Value.nilFunc],none⟩
def ty312:Ty:=⟨.slice 331,1,24,[Go.Value.slice none 0 0],none⟩
def ty314:Ty:=⟨.struct [(0,3),(1,312)],2,32,[Go.Value.int Go.IntKind.i64 0,Go.Value.slice none 0 0],none⟩
def ty327:Ty:=⟨.other,1,8,[Go.Value.nilFunc],none⟩
def ty331:Ty:=⟨.struct [(0,3),(1,3),(2,3)],3,24,[Go.Value.int Go.IntKind.i64 0,Go.Value.int Go.IntKind.i64 0,Go.Value.int Go.IntKind.i64 0],some [(0,3),(1,3),(2,3)]⟩
def ty336:Ty:=⟨.struct [(0,3),(1,33)],2,32,[Go.Value.int Go.IntKind.i64 0,Go.Value.slice none 0 0],none⟩
def ty341:Ty:=⟨.other,1,8,[Go.Value.nilFunc],none⟩
def ty348:Ty:=⟨.slice 4,1,24,[Go.Value.slice none 0 0],none⟩
def tys:List Ty:=[unkTy,ty1,ty2,ty3,ty4,ty5,ty6,ty7,ty8,ty9,ty10,unkTy,unkTy,unkTy,unkTy,unkTy,unkTy,unkTy,unkTy,unkTy,ty20,unkTy,ty22,unkTy,unkTy,unkTy,unkTy,ty27,unkTy,unkTy,unkTy,unkTy,ty32,ty33,unkTy,ty35,ty36,ty37,unkTy,ty39,unkTy,ty41,ty42,unkTy,ty44,ty45,unkTy,ty47,unkTy,unkTy,unkTy,unkTy,ty52,unkTy,unkTy,unkTy,unkTy,unkTy,unkTy,unkTy,unkTy,unkTy,ty62,unkTy,unkTy,ty65,ty66,unkTy,unkTy,unkTy,unkTy,unkTy,ty72,unkTy,unkTy,unkTy,unkTy,ty77,unkTy,unkTy,unkTy,unkTy,unkTy,unkTy,unkTy,unkTy,unkTy,ty87,unkTy,ty89,unkTy,unkTy,ty92,unkTy,unkTy,ty95,unkTy,unkTy,unkTy,unkTy,ty100,unkTy,ty102,unkTy,ty104,unkTy,unkTy,unkTy,unkTy,unkTy,unkTy,unkTy,unkTy,unkTy,unkTy,unkTy,unkTy,unkTy,unkTy,unkTy,unkTy,unkTy,unkTy,unkTy,unkTy,unkTy,unkTy,unkTy,unkTy,unkTy,unkTy,unkTy,ty132,unkTy,unkTy,unkTy,unkTy,unkTy,unkTy,unkTy,unkTy,ty141,ty142,unkTy,unkTy,unkTy,unkTy,unkTy,ty148,unkTy,unkTy,ty151,unkTy,ty153,unkTy,unkTy,ty156,unkTy,ty158,unkTy,unkTy,ty161,unkTy,unkTy,ty164,unkTy,unkTy,unkTy,unkTy,unkTy,unkTy,unkTy,unkTy,unkTy,unkTy,unkTy,unkTy,unkTy,unkTy,unkTy,unkTy,ty181,unkTy,unkTy,unkTy,unkTy,unkTy,unkTy,unkTy,unkTy,ty190,unkTy,unkTy,unkTy,unkTy,ty195,unkTy,unkTy,unkTy,unkTy,unkTy,unkTy,unkTy,unkTy,unkTy,unkTy,unkTy,unkTy,unkTy,unkTy,unkTy,unkTy,unkTy,unkTy,unkTy,unkTy,unkTy,unkTy,unkTy,unkTy,unkTy,unkTy,unkTy,unkTy,unkTy,unkTy,unkTy,unkTy,unkTy,unkTy,unkTy,unkTy,unkTy,unkTy,unkTy,unkTy,unkTy,unkTy,unkTy,unkTy,unkTy,unkTy,unkTy,unkTy,unkTy,ty245,unkTy,ty247,unkTy,unkTy,unkTy,unkTy,unkTy,unkTy,unkTy,unkTy,unkTy,unkTy,unkTy,unkTy,unkTy,unkTy,unkTy,unkTy,unkTy,unkTy,ty266,unkTy,ty268,unkTy,unkTy,unkTy,unkTy,unkTy,unkTy,unkTy,unkTy,unkTy,unkTy,unkTy,unkTy,unkTy,unkTy,unkTy,unkTy,unkTy,unkTy,unkTy,unkTy,unkTy,unkTy,unkTy,unkTy,unkTy,unkTy,unkTy,unkTy,unkTy,unkTy,unkTy,unkTy,unkTy,unkTy,unkTy,unkTy,ty305,unkTy,unkTy,ty308,unkTy,unkTy,unkTy,ty312,unkTy,ty314,unkTy,unkTy,unkTy,unkTy,unkTy,unkTy,unkTy,unkTy,unkTy,unkTy,unkTy,unkTy,ty327,unkTy,unkTy,unkTy,ty331,unkTy,unkTy,unkTy,unkTy,ty336,unkTy,unkTy,unkTy,unkTy,ty341,unkTy,unkTy,unkTy,unkTy,unkTy,unkTy,ty348]
def T (t:Nat):Ty:=tys.getD t unkTy
inductive aQ (P:Program):Nat→List Ty→Prop
 | nil (k:Nat):aQ P k []
 | cons {k:Nat} {ty:Ty} {l:List Ty} (h:TyOk P k ty) (r:aQ P (k+1) l):aQ P k (ty::l)
theorem aQ.get {P:Program}:∀ {l:List Ty} {k:Nat},aQ P k l→∀ i,TyOk P (k+i) (l.getD i unkTy)
 | _,_,.nil _,i=>by simp[unkTy,TyOk]
 | _,_,.cons h r,0=>h
 | _,_,.cons (k:=k) h r,i+1=>by
  have:=r.get i
  rw[show k+1+i=k+(i+1) by omega]at this
  simpa using this
theorem ag (P:Program)(t:Nat):TyOk P t unkTy:=by simp[unkTy,TyOk]
theorem aG {P:Program}{t:Nat}{ty:Ty}{i:TypeInfo}{z:Value}(hs:t<P.types.size)(h1:P.types[t]?=some i)(h2:i.zero=some z)(h:i.size=ty.size∧i.bytes=ty.bytes∧z.cells.toList=ty.zero∧ty.zero.length=ty.size)(h3:ty.zero.all (fun v=>v.oneCell')=true)(h4:bM P t ty.kind)(h5:∀ fs,ty.eqs=some fs→∃ fields:Array Field,P.underlying t=some (.struct fields)∧fields.toList.map (fun f=>(f.offset,f.type))=fs∧(∀ f,f∈fields.toList→f.name ≠ "_")∧P.stoodInHeld t=false∧P.eqGuardType P.depth t=false):TyOk P t ty:=by
 unfold TyOk
 split
 ·trivial
 exact⟨⟨i,z,(by unfold Tables.info?;rw[if_pos hs];exact h1),h.1,h.2.1,h2,h.2.2.1,h.2.2.2⟩,fun v hv=>List.all_eq_true.1 h3 v hv,h4,h5⟩
theorem Hb:TyOk prog 1 ty1:=aG (i:=Tryz.t1) (by rw[types_size];decide) type1 rfl ⟨rfl,rfl,rfl,rfl⟩ rfl (by exact⟨_,underlying1,rfl⟩) (by intro fs h;cases h)
theorem Hc:TyOk prog 2 ty2:=aG (i:=Tryz.t2) (by rw[types_size];decide) type2 rfl ⟨rfl,rfl,rfl,rfl⟩ rfl (by exact underlying2) (by intro fs h;cases h)
theorem Hd:TyOk prog 3 ty3:=aG (i:=Tryz.t3) (by rw[types_size];decide) type3 rfl ⟨rfl,rfl,rfl,rfl⟩ rfl (by exact underlying3) (by intro fs h;cases h)
theorem He:TyOk prog 4 ty4:=aG (i:=Tryz.t4) (by rw[types_size];decide) type4 rfl ⟨rfl,rfl,rfl,rfl⟩ rfl (by exact underlying4) (by intro fs h;cases h)
theorem Hf:TyOk prog 5 ty5:=aG (i:=Tryz.t5) (by rw[types_size];decide) type5 rfl ⟨rfl,rfl,rfl,rfl⟩ rfl (by exact underlying5) (by intro fs h;cases h)
theorem Hg:TyOk prog 6 ty6:=aG (i:=Tryz.t6) (by rw[types_size];decide) type6 rfl ⟨rfl,rfl,rfl,rfl⟩ rfl (by exact underlying6) (by intro fs h;cases h)
theorem Hi:TyOk prog 7 ty7:=aG (i:=Tryz.t7) (by rw[types_size];decide) type7 rfl ⟨rfl,rfl,rfl,rfl⟩ rfl (by exact⟨_,underlying7,rfl⟩) (by intro fs h;cases h)
theorem Hj:TyOk prog 8 ty8:=aG (i:=Tryz.t8) (by rw[types_size];decide) type8 rfl ⟨rfl,rfl,rfl,rfl⟩ rfl (by exact⟨_,underlying8,rfl⟩) (by intro fs h;cases h)
theorem Hk:TyOk prog 9 ty9:=aG (i:=Tryz.t9) (by rw[types_size];decide) type9 rfl ⟨rfl,rfl,rfl,rfl⟩ rfl (by exact underlying9) (by intro fs h;cases h)
theorem FX:TyOk prog 10 ty10:=aG (i:=Tryz.t10) (by rw[types_size];decide) type10 rfl ⟨rfl,rfl,rfl,rfl⟩ rfl (by exact underlying10) (by intro fs h;cases h)
theorem FY:TyOk prog 20 ty20:=aG (i:=Tryz.t20) (by rw[types_size];decide) type20 rfl ⟨rfl,rfl,rfl,rfl⟩ rfl (by exact⟨_,underlying20,rfl⟩) (by intro fs h;cases h)
theorem FZ:TyOk prog 22 ty22:=aG (i:=Tryz.t22) (by rw[types_size];decide) type22 rfl ⟨rfl,rfl,rfl,rfl⟩ rfl (by exact underlying22) (by intro fs h;cases h)
theorem Ga:TyOk prog 27 ty27:=aG (i:=Tryz.t27) (by rw[types_size];decide) type27 rfl ⟨rfl,rfl,rfl,rfl⟩ rfl (by exact underlying27) (by intro fs h;cases h)
theorem Gb:TyOk prog 32 ty32:=aG (i:=Tryz.t32) (by rw[types_size];decide) type32 rfl ⟨rfl,rfl,rfl,rfl⟩ rfl (by exact underlying32) (by intro fs h;cases h)
theorem Gc:TyOk prog 33 ty33:=aG (i:=Tryz.t33) (by rw[types_size];decide) type33 rfl ⟨rfl,rfl,rfl,rfl⟩ rfl (by exact underlying33) (by intro fs h;cases h)
theorem Gd:TyOk prog 35 ty35:=aG (i:=Tryz.t35) (by rw[types_size];decide) type35 rfl ⟨rfl,rfl,rfl,rfl⟩ rfl (by exact⟨_,underlying35,rfl⟩) (by intro fs h;cases h)
theorem Ge:TyOk prog 36 ty36:=aG (i:=Tryz.t36) (by rw[types_size];decide) type36 rfl ⟨rfl,rfl,rfl,rfl⟩ rfl (by exact underlying36) (by intro fs h;cases h)
theorem Gf:TyOk prog 37 ty37:=aG (i:=Tryz.t37) (by rw[types_size];decide) type37 rfl ⟨rfl,rfl,rfl,rfl⟩ rfl (by exact underlying37) (by intro fs h;cases h)
theorem Gg:TyOk prog 39 ty39:=aG (i:=Tryz.t39) (by rw[types_size];decide) type39 rfl ⟨rfl,rfl,rfl,rfl⟩ rfl (by exact⟨_,underlying39,rfl⟩) (by intro fs h;cases h)
theorem Gh:TyOk prog 41 ty41:=aG (i:=Tryz.t41) (by rw[types_size];decide) type41 rfl ⟨rfl,rfl,rfl,rfl⟩ rfl (by exact⟨_,underlying41,rfl⟩) (by intro fs h;cases h)
theorem Gi:TyOk prog 42 ty42:=aG (i:=Tryz.t42) (by rw[types_size];decide) type42 rfl ⟨rfl,rfl,rfl,rfl⟩ rfl (by exact underlying42) (by intro fs h;cases h)
theorem Gj:TyOk prog 44 ty44:=aG (i:=Tryz.t44) (by rw[types_size];decide) type44 rfl ⟨rfl,rfl,rfl,rfl⟩ rfl (by exact⟨_,underlying44,rfl⟩) (by intro fs h;cases h)
theorem Gk:TyOk prog 45 ty45:=aG (i:=Tryz.t45) (by rw[types_size];decide) type45 rfl ⟨rfl,rfl,rfl,rfl⟩ rfl (by exact underlying45) (by intro fs h;cases h)
theorem Gm:TyOk prog 47 ty47:=aG (i:=Tryz.t47) (by rw[types_size];decide) type47 rfl ⟨rfl,rfl,rfl,rfl⟩ rfl (by exact⟨_,underlying47,rfl⟩) (by intro fs h;cases h)
theorem Gn:TyOk prog 52 ty52:=aG (i:=Tryz.t52) (by rw[types_size];decide) type52 rfl ⟨rfl,rfl,rfl,rfl⟩ rfl (by exact⟨_,underlying52,rfl⟩) (by intro fs h;cases h)
theorem Gp:TyOk prog 62 ty62:=aG (i:=Tryz.t62) (by rw[types_size];decide) type62 rfl ⟨rfl,rfl,rfl,rfl⟩ rfl (by exact⟨_,underlying62,rfl⟩) (by intro fs h;cases h;exact⟨_,underlying62,rfl,by decide,by kernel_rfl,by kernel_rfl⟩)
theorem Gq:TyOk prog 65 ty65:=aG (i:=Tryz.t65) (by rw[types_size];decide) type65 rfl ⟨rfl,rfl,rfl,rfl⟩ rfl (by exact⟨_,underlying65,rfl⟩) (by intro fs h;cases h)
theorem Gr:TyOk prog 66 ty66:=aG (i:=Tryz.t66) (by rw[types_size];decide) type66 rfl ⟨rfl,rfl,rfl,rfl⟩ rfl (by exact underlying66) (by intro fs h;cases h)
theorem Gs:TyOk prog 72 ty72:=aG (i:=Tryz.t72) (by rw[types_size];decide) type72 rfl ⟨rfl,rfl,rfl,rfl⟩ rfl (by exact⟨_,underlying72,rfl⟩) (by intro fs h;cases h;exact⟨_,underlying72,rfl,by decide,by kernel_rfl,by kernel_rfl⟩)
theorem Gt:TyOk prog 77 ty77:=aG (i:=Tryz.t77) (by rw[types_size];decide) type77 rfl ⟨rfl,rfl,rfl,rfl⟩ rfl (by exact⟨_,underlying77,rfl⟩) (by intro fs h;cases h)
theorem Gu:TyOk prog 87 ty87:=aG (i:=Tryz.t87) (by rw[types_size];decide) type87 rfl ⟨rfl,rfl,rfl,rfl⟩ rfl (by exact⟨_,underlying87,rfl⟩) (by intro fs h;cases h)
theorem Gv:TyOk prog 89 ty89:=aG (i:=Tryz.t89) (by rw[types_size];decide) type89 rfl ⟨rfl,rfl,rfl,rfl⟩ rfl (by exact⟨_,underlying89,rfl⟩) (by intro fs h;cases h)
theorem Gw:TyOk prog 92 ty92:=aG (i:=Tryz.t92) (by rw[types_size];decide) type92 rfl ⟨rfl,rfl,rfl,rfl⟩ rfl (by exact⟨_,underlying92,rfl⟩) (by intro fs h;cases h)
theorem Gx:TyOk prog 95 ty95:=aG (i:=Tryz.t95) (by rw[types_size];decide) type95 rfl ⟨rfl,rfl,rfl,rfl⟩ rfl (by exact⟨_,underlying95,rfl⟩) (by intro fs h;cases h)
theorem DB:TyOk prog 100 ty100:=aG (i:=Tryz.t100) (by rw[types_size];decide) type100 rfl ⟨rfl,rfl,rfl,rfl⟩ rfl (by exact⟨_,underlying100,rfl⟩) (by intro fs h;cases h;exact⟨_,underlying100,rfl,by decide,by kernel_rfl,by kernel_rfl⟩)
theorem DC:TyOk prog 102 ty102:=aG (i:=Tryz.t102) (by rw[types_size];decide) type102 rfl ⟨rfl,rfl,rfl,rfl⟩ rfl (by exact⟨_,underlying102,rfl⟩) (by intro fs h;cases h)
theorem DD:TyOk prog 104 ty104:=aG (i:=Tryz.t104) (by rw[types_size];decide) type104 rfl ⟨rfl,rfl,rfl,rfl⟩ rfl (by exact⟨_,underlying104,rfl⟩) (by intro fs h;cases h)
theorem DE:TyOk prog 132 ty132:=aG (i:=Tryz.t132) (by rw[types_size];decide) type132 rfl ⟨rfl,rfl,rfl,rfl⟩ rfl (by exact underlying132) (by intro fs h;cases h)
theorem DF:TyOk prog 141 ty141:=aG (i:=Tryz.t141) (by rw[types_size];decide) type141 rfl ⟨rfl,rfl,rfl,rfl⟩ rfl (by exact⟨_,underlying141,rfl⟩) (by intro fs h;cases h)
theorem DG:TyOk prog 142 ty142:=aG (i:=Tryz.t142) (by rw[types_size];decide) type142 rfl ⟨rfl,rfl,rfl,rfl⟩ rfl (by exact⟨_,underlying142,rfl⟩) (by intro fs h;cases h)
theorem DI:TyOk prog 148 ty148:=aG (i:=Tryz.t148) (by rw[types_size];decide) type148 rfl ⟨rfl,rfl,rfl,rfl⟩ rfl (by exact⟨_,underlying148,rfl⟩) (by intro fs h;cases h)
theorem DJ:TyOk prog 151 ty151:=aG (i:=Tryz.t151) (by rw[types_size];decide) type151 rfl ⟨rfl,rfl,rfl,rfl⟩ rfl (by exact underlying151) (by intro fs h;cases h)
theorem DK:TyOk prog 153 ty153:=aG (i:=Tryz.t153) (by rw[types_size];decide) type153 rfl ⟨rfl,rfl,rfl,rfl⟩ rfl (by exact⟨_,underlying153,rfl⟩) (by intro fs h;cases h)
theorem DL:TyOk prog 156 ty156:=aG (i:=Tryz.t156) (by rw[types_size];decide) type156 rfl ⟨rfl,rfl,rfl,rfl⟩ rfl (by exact underlying156) (by intro fs h;cases h)
theorem DM:TyOk prog 158 ty158:=aG (i:=Tryz.t158) (by rw[types_size];decide) type158 rfl ⟨rfl,rfl,rfl,rfl⟩ rfl (by exact⟨_,underlying158,rfl⟩) (by intro fs h;cases h)
theorem DN:TyOk prog 161 ty161:=aG (i:=Tryz.t161) (by rw[types_size];decide) type161 rfl ⟨rfl,rfl,rfl,rfl⟩ rfl (by exact⟨_,underlying161,rfl⟩) (by intro fs h;cases h)
theorem DO:TyOk prog 164 ty164:=aG (i:=Tryz.t164) (by rw[types_size];decide) type164 rfl ⟨rfl,rfl,rfl,rfl⟩ rfl (by exact⟨_,underlying164,rfl⟩) (by intro fs h;cases h)
theorem DP:TyOk prog 181 ty181:=aG (i:=Tryz.t181) (by rw[types_size];decide) type181 rfl ⟨rfl,rfl,rfl,rfl⟩ rfl (by exact⟨_,underlying181,rfl⟩) (by intro fs h;cases h;exact⟨_,underlying181,rfl,by decide,by kernel_rfl,by kernel_rfl⟩)
theorem DQ:TyOk prog 190 ty190:=aG (i:=Tryz.t190) (by rw[types_size];decide) type190 rfl ⟨rfl,rfl,rfl,rfl⟩ rfl (by exact underlying190) (by intro fs h;cases h)
theorem DR:TyOk prog 195 ty195:=aG (i:=Tryz.t195) (by rw[types_size];decide) type195 rfl ⟨rfl,rfl,rfl,rfl⟩ rfl (by exact⟨_,underlying195,rfl⟩) (by intro fs h;cases h)
theorem DS:TyOk prog 245 ty245:=aG (i:=Tryz.t245) (by rw[types_size];decide) type245 rfl ⟨rfl,rfl,rfl,rfl⟩ rfl (by exact⟨_,underlying245,rfl⟩) (by intro fs h;cases h)
theorem DU:TyOk prog 247 ty247:=aG (i:=Tryz.t247) (by rw[types_size];decide) type247 rfl ⟨rfl,rfl,rfl,rfl⟩ rfl (by exact underlying247) (by intro fs h;cases h)
theorem DV:TyOk prog 266 ty266:=aG (i:=Tryz.t266) (by rw[types_size];decide) type266 rfl ⟨rfl,rfl,rfl,rfl⟩ rfl (by exact underlying266) (by intro fs h;cases h)
theorem DW:TyOk prog 268 ty268:=aG (i:=Tryz.t268) (by rw[types_size];decide) type268 rfl ⟨rfl,rfl,rfl,rfl⟩ rfl (by exact⟨_,underlying268,rfl⟩) (by intro fs h;cases h)
theorem DX:TyOk prog 305 ty305:=aG (i:=Tryz.t305) (by rw[types_size];decide) type305 rfl ⟨rfl,rfl,rfl,rfl⟩ rfl (by exact⟨_,underlying305,rfl⟩) (by intro fs h;cases h)
theorem DY:TyOk prog 308 ty308:=aG (i:=Tryz.t308) (by rw[types_size];decide) type308 rfl ⟨rfl,rfl,rfl,rfl⟩ rfl (by exact⟨_,underlying308,rfl⟩) (by intro fs h;cases h)
theorem DZ:TyOk prog 312 ty312:=aG (i:=Tryz.t312) (by rw[types_size];decide) type312 rfl ⟨rfl,rfl,rfl,rfl⟩ rfl (by exact underlying312) (by intro fs h;cases h)
theorem Ea:TyOk prog 314 ty314:=aG (i:=Tryz.t314) (by rw[types_size];decide) type314 rfl ⟨rfl,rfl,rfl,rfl⟩ rfl (by exact⟨_,underlying314,rfl⟩) (by intro fs h;cases h)
theorem Eb:TyOk prog 327 ty327:=aG (i:=Tryz.t327) (by rw[types_size];decide) type327 rfl ⟨rfl,rfl,rfl,rfl⟩ rfl (by exact⟨_,underlying327,rfl⟩) (by intro fs h;cases h)
theorem Ec:TyOk prog 331 ty331:=aG (i:=Tryz.t331) (by rw[types_size];decide) type331 rfl ⟨rfl,rfl,rfl,rfl⟩ rfl (by exact⟨_,underlying331,rfl⟩) (by intro fs h;cases h;exact⟨_,underlying331,rfl,by decide,by kernel_rfl,by kernel_rfl⟩)
theorem Ed:TyOk prog 336 ty336:=aG (i:=Tryz.t336) (by rw[types_size];decide) type336 rfl ⟨rfl,rfl,rfl,rfl⟩ rfl (by exact⟨_,underlying336,rfl⟩) (by intro fs h;cases h)
theorem Ee:TyOk prog 341 ty341:=aG (i:=Tryz.t341) (by rw[types_size];decide) type341 rfl ⟨rfl,rfl,rfl,rfl⟩ rfl (by exact⟨_,underlying341,rfl⟩) (by intro fs h;cases h)
theorem Ef:TyOk prog 348 ty348:=aG (i:=Tryz.t348) (by rw[types_size];decide) type348 rfl ⟨rfl,rfl,rfl,rfl⟩ rfl (by exact underlying348) (by intro fs h;cases h)
theorem Gy {l:List Ty}(r:aQ prog 16 l):aQ prog 0 (unkTy::ty1::ty2::ty3::ty4::ty5::ty6::ty7::ty8::ty9::ty10::unkTy::unkTy::unkTy::unkTy::unkTy::l):=
 .cons (ag _ _) (.cons Hb (.cons Hc (.cons Hd (.cons He (.cons Hf (.cons Hg (.cons Hi (.cons Hj (.cons Hk (.cons FX (.cons (ag _ _) (.cons (ag _ _) (.cons (ag _ _) (.cons (ag _ _) (.cons (ag _ _) (r))))))))))))))))
theorem Eg {l:List Ty}(r:aQ prog 32 l):aQ prog 16 (unkTy::unkTy::unkTy::unkTy::ty20::unkTy::ty22::unkTy::unkTy::unkTy::unkTy::ty27::unkTy::unkTy::unkTy::unkTy::l):=
 .cons (ag _ _) (.cons (ag _ _) (.cons (ag _ _) (.cons (ag _ _) (.cons FY (.cons (ag _ _) (.cons FZ (.cons (ag _ _) (.cons (ag _ _) (.cons (ag _ _) (.cons (ag _ _) (.cons Ga (.cons (ag _ _) (.cons (ag _ _) (.cons (ag _ _) (.cons (ag _ _) (r))))))))))))))))
theorem Eh {l:List Ty}(r:aQ prog 48 l):aQ prog 32 (ty32::ty33::unkTy::ty35::ty36::ty37::unkTy::ty39::unkTy::ty41::ty42::unkTy::ty44::ty45::unkTy::ty47::l):=
 .cons Gb (.cons Gc (.cons (ag _ _) (.cons Gd (.cons Ge (.cons Gf (.cons (ag _ _) (.cons Gg (.cons (ag _ _) (.cons Gh (.cons Gi (.cons (ag _ _) (.cons Gj (.cons Gk (.cons (ag _ _) (.cons Gm (r))))))))))))))))
theorem Ei {l:List Ty}(r:aQ prog 64 l):aQ prog 48 (unkTy::unkTy::unkTy::unkTy::ty52::unkTy::unkTy::unkTy::unkTy::unkTy::unkTy::unkTy::unkTy::unkTy::ty62::unkTy::l):=
 .cons (ag _ _) (.cons (ag _ _) (.cons (ag _ _) (.cons (ag _ _) (.cons Gn (.cons (ag _ _) (.cons (ag _ _) (.cons (ag _ _) (.cons (ag _ _) (.cons (ag _ _) (.cons (ag _ _) (.cons (ag _ _) (.cons (ag _ _) (.cons (ag _ _) (.cons Gp (.cons (ag _ _) (r))))))))))))))))
theorem Ej {l:List Ty}(r:aQ prog 80 l):aQ prog 64 (unkTy::ty65::ty66::unkTy::unkTy::unkTy::unkTy::unkTy::ty72::unkTy::unkTy::unkTy::unkTy::ty77::unkTy::unkTy::l):=
 .cons (ag _ _) (.cons Gq (.cons Gr (.cons (ag _ _) (.cons (ag _ _) (.cons (ag _ _) (.cons (ag _ _) (.cons (ag _ _) (.cons Gs (.cons (ag _ _) (.cons (ag _ _) (.cons (ag _ _) (.cons (ag _ _) (.cons Gt (.cons (ag _ _) (.cons (ag _ _) (r))))))))))))))))
theorem Ek {l:List Ty}(r:aQ prog 96 l):aQ prog 80 (unkTy::unkTy::unkTy::unkTy::unkTy::unkTy::unkTy::ty87::unkTy::ty89::unkTy::unkTy::ty92::unkTy::unkTy::ty95::l):=
 .cons (ag _ _) (.cons (ag _ _) (.cons (ag _ _) (.cons (ag _ _) (.cons (ag _ _) (.cons (ag _ _) (.cons (ag _ _) (.cons Gu (.cons (ag _ _) (.cons Gv (.cons (ag _ _) (.cons (ag _ _) (.cons Gw (.cons (ag _ _) (.cons (ag _ _) (.cons Gx (r))))))))))))))))
theorem El {l:List Ty}(r:aQ prog 112 l):aQ prog 96 (unkTy::unkTy::unkTy::unkTy::ty100::unkTy::ty102::unkTy::ty104::unkTy::unkTy::unkTy::unkTy::unkTy::unkTy::unkTy::l):=
 .cons (ag _ _) (.cons (ag _ _) (.cons (ag _ _) (.cons (ag _ _) (.cons DB (.cons (ag _ _) (.cons DC (.cons (ag _ _) (.cons DD (.cons (ag _ _) (.cons (ag _ _) (.cons (ag _ _) (.cons (ag _ _) (.cons (ag _ _) (.cons (ag _ _) (.cons (ag _ _) (r))))))))))))))))
theorem Ch {l:List Ty}(r:aQ prog 128 l):aQ prog 112 (unkTy::unkTy::unkTy::unkTy::unkTy::unkTy::unkTy::unkTy::unkTy::unkTy::unkTy::unkTy::unkTy::unkTy::unkTy::unkTy::l):=
 .cons (ag _ _) (.cons (ag _ _) (.cons (ag _ _) (.cons (ag _ _) (.cons (ag _ _) (.cons (ag _ _) (.cons (ag _ _) (.cons (ag _ _) (.cons (ag _ _) (.cons (ag _ _) (.cons (ag _ _) (.cons (ag _ _) (.cons (ag _ _) (.cons (ag _ _) (.cons (ag _ _) (.cons (ag _ _) (r))))))))))))))))
theorem Ci {l:List Ty}(r:aQ prog 144 l):aQ prog 128 (unkTy::unkTy::unkTy::unkTy::ty132::unkTy::unkTy::unkTy::unkTy::unkTy::unkTy::unkTy::unkTy::ty141::ty142::unkTy::l):=
 .cons (ag _ _) (.cons (ag _ _) (.cons (ag _ _) (.cons (ag _ _) (.cons DE (.cons (ag _ _) (.cons (ag _ _) (.cons (ag _ _) (.cons (ag _ _) (.cons (ag _ _) (.cons (ag _ _) (.cons (ag _ _) (.cons (ag _ _) (.cons DF (.cons DG (.cons (ag _ _) (r))))))))))))))))
theorem Cj {l:List Ty}(r:aQ prog 160 l):aQ prog 144 (unkTy::unkTy::unkTy::unkTy::ty148::unkTy::unkTy::ty151::unkTy::ty153::unkTy::unkTy::ty156::unkTy::ty158::unkTy::l):=
 .cons (ag _ _) (.cons (ag _ _) (.cons (ag _ _) (.cons (ag _ _) (.cons DI (.cons (ag _ _) (.cons (ag _ _) (.cons DJ (.cons (ag _ _) (.cons DK (.cons (ag _ _) (.cons (ag _ _) (.cons DL (.cons (ag _ _) (.cons DM (.cons (ag _ _) (r))))))))))))))))
theorem Ck {l:List Ty}(r:aQ prog 176 l):aQ prog 160 (unkTy::ty161::unkTy::unkTy::ty164::unkTy::unkTy::unkTy::unkTy::unkTy::unkTy::unkTy::unkTy::unkTy::unkTy::unkTy::l):=
 .cons (ag _ _) (.cons DN (.cons (ag _ _) (.cons (ag _ _) (.cons DO (.cons (ag _ _) (.cons (ag _ _) (.cons (ag _ _) (.cons (ag _ _) (.cons (ag _ _) (.cons (ag _ _) (.cons (ag _ _) (.cons (ag _ _) (.cons (ag _ _) (.cons (ag _ _) (.cons (ag _ _) (r))))))))))))))))
theorem Cl {l:List Ty}(r:aQ prog 192 l):aQ prog 176 (unkTy::unkTy::unkTy::unkTy::unkTy::ty181::unkTy::unkTy::unkTy::unkTy::unkTy::unkTy::unkTy::unkTy::ty190::unkTy::l):=
 .cons (ag _ _) (.cons (ag _ _) (.cons (ag _ _) (.cons (ag _ _) (.cons (ag _ _) (.cons DP (.cons (ag _ _) (.cons (ag _ _) (.cons (ag _ _) (.cons (ag _ _) (.cons (ag _ _) (.cons (ag _ _) (.cons (ag _ _) (.cons (ag _ _) (.cons DQ (.cons (ag _ _) (r))))))))))))))))
theorem Cm {l:List Ty}(r:aQ prog 208 l):aQ prog 192 (unkTy::unkTy::unkTy::ty195::unkTy::unkTy::unkTy::unkTy::unkTy::unkTy::unkTy::unkTy::unkTy::unkTy::unkTy::unkTy::l):=
 .cons (ag _ _) (.cons (ag _ _) (.cons (ag _ _) (.cons DR (.cons (ag _ _) (.cons (ag _ _) (.cons (ag _ _) (.cons (ag _ _) (.cons (ag _ _) (.cons (ag _ _) (.cons (ag _ _) (.cons (ag _ _) (.cons (ag _ _) (.cons (ag _ _) (.cons (ag _ _) (.cons (ag _ _) (r))))))))))))))))
theorem Cn {l:List Ty}(r:aQ prog 224 l):aQ prog 208 (unkTy::unkTy::unkTy::unkTy::unkTy::unkTy::unkTy::unkTy::unkTy::unkTy::unkTy::unkTy::unkTy::unkTy::unkTy::unkTy::l):=
 .cons (ag _ _) (.cons (ag _ _) (.cons (ag _ _) (.cons (ag _ _) (.cons (ag _ _) (.cons (ag _ _) (.cons (ag _ _) (.cons (ag _ _) (.cons (ag _ _) (.cons (ag _ _) (.cons (ag _ _) (.cons (ag _ _) (.cons (ag _ _) (.cons (ag _ _) (.cons (ag _ _) (.cons (ag _ _) (r))))))))))))))))
theorem Co {l:List Ty}(r:aQ prog 240 l):aQ prog 224 (unkTy::unkTy::unkTy::unkTy::unkTy::unkTy::unkTy::unkTy::unkTy::unkTy::unkTy::unkTy::unkTy::unkTy::unkTy::unkTy::l):=
 .cons (ag _ _) (.cons (ag _ _) (.cons (ag _ _) (.cons (ag _ _) (.cons (ag _ _) (.cons (ag _ _) (.cons (ag _ _) (.cons (ag _ _) (.cons (ag _ _) (.cons (ag _ _) (.cons (ag _ _) (.cons (ag _ _) (.cons (ag _ _) (.cons (ag _ _) (.cons (ag _ _) (.cons (ag _ _) (r))))))))))))))))
theorem Cp {l:List Ty}(r:aQ prog 256 l):aQ prog 240 (unkTy::unkTy::unkTy::unkTy::unkTy::ty245::unkTy::ty247::unkTy::unkTy::unkTy::unkTy::unkTy::unkTy::unkTy::unkTy::l):=
 .cons (ag _ _) (.cons (ag _ _) (.cons (ag _ _) (.cons (ag _ _) (.cons (ag _ _) (.cons DS (.cons (ag _ _) (.cons DU (.cons (ag _ _) (.cons (ag _ _) (.cons (ag _ _) (.cons (ag _ _) (.cons (ag _ _) (.cons (ag _ _) (.cons (ag _ _) (.cons (ag _ _) (r))))))))))))))))
theorem Cq {l:List Ty}(r:aQ prog 272 l):aQ prog 256 (unkTy::unkTy::unkTy::unkTy::unkTy::unkTy::unkTy::unkTy::unkTy::unkTy::ty266::unkTy::ty268::unkTy::unkTy::unkTy::l):=
 .cons (ag _ _) (.cons (ag _ _) (.cons (ag _ _) (.cons (ag _ _) (.cons (ag _ _) (.cons (ag _ _) (.cons (ag _ _) (.cons (ag _ _) (.cons (ag _ _) (.cons (ag _ _) (.cons DV (.cons (ag _ _) (.cons DW (.cons (ag _ _) (.cons (ag _ _) (.cons (ag _ _) (r))))))))))))))))
theorem Cr {l:List Ty}(r:aQ prog 288 l):aQ prog 272 (unkTy::unkTy::unkTy::unkTy::unkTy::unkTy::unkTy::unkTy::unkTy::unkTy::unkTy::unkTy::unkTy::unkTy::unkTy::unkTy::l):=
 .cons (ag _ _) (.cons (ag _ _) (.cons (ag _ _) (.cons (ag _ _) (.cons (ag _ _) (.cons (ag _ _) (.cons (ag _ _) (.cons (ag _ _) (.cons (ag _ _) (.cons (ag _ _) (.cons (ag _ _) (.cons (ag _ _) (.cons (ag _ _) (.cons (ag _ _) (.cons (ag _ _) (.cons (ag _ _) (r))))))))))))))))
theorem Cs {l:List Ty}(r:aQ prog 304 l):aQ prog 288 (unkTy::unkTy::unkTy::unkTy::unkTy::unkTy::unkTy::unkTy::unkTy::unkTy::unkTy::unkTy::unkTy::unkTy::unkTy::unkTy::l):=
 .cons (ag _ _) (.cons (ag _ _) (.cons (ag _ _) (.cons (ag _ _) (.cons (ag _ _) (.cons (ag _ _) (.cons (ag _ _) (.cons (ag _ _) (.cons (ag _ _) (.cons (ag _ _) (.cons (ag _ _) (.cons (ag _ _) (.cons (ag _ _) (.cons (ag _ _) (.cons (ag _ _) (.cons (ag _ _) (r))))))))))))))))
theorem Ct {l:List Ty}(r:aQ prog 320 l):aQ prog 304 (unkTy::ty305::unkTy::unkTy::ty308::unkTy::unkTy::unkTy::ty312::unkTy::ty314::unkTy::unkTy::unkTy::unkTy::unkTy::l):=
 .cons (ag _ _) (.cons DX (.cons (ag _ _) (.cons (ag _ _) (.cons DY (.cons (ag _ _) (.cons (ag _ _) (.cons (ag _ _) (.cons DZ (.cons (ag _ _) (.cons Ea (.cons (ag _ _) (.cons (ag _ _) (.cons (ag _ _) (.cons (ag _ _) (.cons (ag _ _) (r))))))))))))))))
theorem Cu {l:List Ty}(r:aQ prog 336 l):aQ prog 320 (unkTy::unkTy::unkTy::unkTy::unkTy::unkTy::unkTy::ty327::unkTy::unkTy::unkTy::ty331::unkTy::unkTy::unkTy::unkTy::l):=
 .cons (ag _ _) (.cons (ag _ _) (.cons (ag _ _) (.cons (ag _ _) (.cons (ag _ _) (.cons (ag _ _) (.cons (ag _ _) (.cons Eb (.cons (ag _ _) (.cons (ag _ _) (.cons (ag _ _) (.cons Ec (.cons (ag _ _) (.cons (ag _ _) (.cons (ag _ _) (.cons (ag _ _) (r))))))))))))))))
theorem Cv {l:List Ty}(r:aQ prog 349 l):aQ prog 336 (ty336::unkTy::unkTy::unkTy::unkTy::ty341::unkTy::unkTy::unkTy::unkTy::unkTy::unkTy::ty348::l):=
 .cons Ed (.cons (ag _ _) (.cons (ag _ _) (.cons (ag _ _) (.cons (ag _ _) (.cons Ee (.cons (ag _ _) (.cons (ag _ _) (.cons (ag _ _) (.cons (ag _ _) (.cons (ag _ _) (.cons (ag _ _) (.cons Ef (r)))))))))))))
theorem hT (t:Nat):TyOk prog t (T t):=by
 have h:aQ prog 0 tys:=Gy (Eg (Eh (Ei (Ej (Ek (El (Ch (Ci (Cj (Ck (Cl (Cm (Cn (Co (Cp (Cq (Cr (Cs (Ct (Cu (Cv (.nil _))))))))))))))))))))))
 have:=h.get t
 rw[Nat.zero_add]at this
 exact this
section
open TK
@[simp,go_sem] theorem Tk1:(T 1).kind=.other:=rfl
@[simp,go_sem] theorem Ts1:(T 1).size=1:=rfl
@[simp,go_sem] theorem Tb1:(T 1).bytes=8:=rfl
@[simp,go_sem] theorem Tz1:(T 1).zero=[Go.Value.nilFunc]:=rfl
@[simp,go_sem] theorem Tk2:(T 2).kind=.int .i64:=rfl
@[simp,go_sem] theorem Ts2:(T 2).size=1:=rfl
@[simp,go_sem] theorem Tb2:(T 2).bytes=8:=rfl
@[simp,go_sem] theorem Tz2:(T 2).zero=[Go.Value.int Go.IntKind.i64 0]:=rfl
@[simp,go_sem] theorem Tk3:(T 3).kind=.int .i64:=rfl
@[simp,go_sem] theorem Ts3:(T 3).size=1:=rfl
@[simp,go_sem] theorem Tb3:(T 3).bytes=8:=rfl
@[simp,go_sem] theorem Tz3:(T 3).zero=[Go.Value.int Go.IntKind.i64 0]:=rfl
@[simp,go_sem] theorem Tk4:(T 4).kind=.bool:=rfl
@[simp,go_sem] theorem Ts4:(T 4).size=1:=rfl
@[simp,go_sem] theorem Tb4:(T 4).bytes=1:=rfl
@[simp,go_sem] theorem Tz4:(T 4).zero=[Go.Value.bool false]:=rfl
@[simp,go_sem] theorem Tk5:(T 5).kind=.int .u8:=rfl
@[simp,go_sem] theorem Ts5:(T 5).size=1:=rfl
@[simp,go_sem] theorem Tb5:(T 5).bytes=1:=rfl
@[simp,go_sem] theorem Tz5:(T 5).zero=[Go.Value.int Go.IntKind.u8 0]:=rfl
@[simp,go_sem] theorem Tk6:(T 6).kind=.int .u8:=rfl
@[simp,go_sem] theorem Ts6:(T 6).size=1:=rfl
@[simp,go_sem] theorem Tb6:(T 6).bytes=1:=rfl
@[simp,go_sem] theorem Tz6:(T 6).zero=[Go.Value.int Go.IntKind.u8 0]:=rfl
@[simp,go_sem] theorem Tk7:(T 7).kind=.struct [(0,2),(1,3),(2,4),(3,6)]:=rfl
@[simp,go_sem] theorem Ts7:(T 7).size=4:=rfl
@[simp,go_sem] theorem Tb7:(T 7).bytes=24:=rfl
@[simp,go_sem] theorem Tz7:(T 7).zero=[Go.Value.int Go.IntKind.i64 0,Go.Value.int Go.IntKind.i64 0,Go.Value.bool false,Go.Value.int Go.IntKind.u8 0]:=rfl
@[simp,go_sem] theorem Tk8:(T 8).kind=.struct [(0,2),(1,3),(2,4),(3,6)]:=rfl
@[simp,go_sem] theorem Ts8:(T 8).size=4:=rfl
@[simp,go_sem] theorem Tb8:(T 8).bytes=24:=rfl
@[simp,go_sem] theorem Tz8:(T 8).zero=[Go.Value.int Go.IntKind.i64 0,Go.Value.int Go.IntKind.i64 0,Go.Value.bool false,Go.Value.int Go.IntKind.u8 0]:=rfl
@[simp,go_sem] theorem Tk9:(T 9).kind=.str:=rfl
@[simp,go_sem] theorem Ts9:(T 9).size=1:=rfl
@[simp,go_sem] theorem Tb9:(T 9).bytes=16:=rfl
@[simp,go_sem] theorem Tz9:(T 9).zero=[Go.Value.string { data:=#[] }]:=rfl
@[simp,go_sem] theorem Tk10:(T 10).kind=.str:=rfl
@[simp,go_sem] theorem Ts10:(T 10).size=1:=rfl
@[simp,go_sem] theorem Tb10:(T 10).bytes=16:=rfl
@[simp,go_sem] theorem Tz10:(T 10).zero=[Go.Value.string { data:=#[] }]:=rfl
@[simp,go_sem] theorem Tk20:(T 20).kind=.other:=rfl
@[simp,go_sem] theorem Ts20:(T 20).size=1:=rfl
@[simp,go_sem] theorem Tb20:(T 20).bytes=16:=rfl
@[simp,go_sem] theorem Tz20:(T 20).zero=[Go.Value.nilIface]:=rfl
@[simp,go_sem] theorem Tk22:(T 22).kind=.slice 5:=rfl
@[simp,go_sem] theorem Ts22:(T 22).size=1:=rfl
@[simp,go_sem] theorem Tb22:(T 22).bytes=24:=rfl
@[simp,go_sem] theorem Tz22:(T 22).zero=[Go.Value.slice none 0 0]:=rfl
@[simp,go_sem] theorem Tk27:(T 27).kind=.slice 9:=rfl
@[simp,go_sem] theorem Ts27:(T 27).size=1:=rfl
@[simp,go_sem] theorem Tb27:(T 27).bytes=24:=rfl
@[simp,go_sem] theorem Tz27:(T 27).zero=[Go.Value.slice none 0 0]:=rfl
@[simp,go_sem] theorem Tk32:(T 32).kind=.slice 72:=rfl
@[simp,go_sem] theorem Ts32:(T 32).size=1:=rfl
@[simp,go_sem] theorem Tb32:(T 32).bytes=24:=rfl
@[simp,go_sem] theorem Tz32:(T 32).zero=[Go.Value.slice none 0 0]:=rfl
@[simp,go_sem] theorem Tk33:(T 33).kind=.slice 3:=rfl
@[simp,go_sem] theorem Ts33:(T 33).size=1:=rfl
@[simp,go_sem] theorem Tb33:(T 33).bytes=24:=rfl
@[simp,go_sem] theorem Tz33:(T 33).zero=[Go.Value.slice none 0 0]:=rfl
@[simp,go_sem] theorem Tk35:(T 35).kind=.struct [(0,32),(1,33),(2,3)]:=rfl
@[simp,go_sem] theorem Ts35:(T 35).size=3:=rfl
@[simp,go_sem] theorem Tb35:(T 35).bytes=56:=rfl
@[simp,go_sem] theorem Tz35:(T 35).zero=[Go.Value.slice none 0 0,Go.Value.slice none 0 0,Go.Value.int Go.IntKind.i64 0]:=rfl
@[simp,go_sem] theorem Tk36:(T 36).kind=.slice 102:=rfl
@[simp,go_sem] theorem Ts36:(T 36).size=1:=rfl
@[simp,go_sem] theorem Tb36:(T 36).bytes=24:=rfl
@[simp,go_sem] theorem Tz36:(T 36).zero=[Go.Value.slice none 0 0]:=rfl
@[simp,go_sem] theorem Tk37:(T 37).kind=.slice 100:=rfl
@[simp,go_sem] theorem Ts37:(T 37).size=1:=rfl
@[simp,go_sem] theorem Tb37:(T 37).bytes=24:=rfl
@[simp,go_sem] theorem Tz37:(T 37).zero=[Go.Value.slice none 0 0]:=rfl
@[simp,go_sem] theorem Tk39:(T 39).kind=.struct [(0,36),(1,37),(2,3)]:=rfl
@[simp,go_sem] theorem Ts39:(T 39).size=3:=rfl
@[simp,go_sem] theorem Tb39:(T 39).bytes=56:=rfl
@[simp,go_sem] theorem Tz39:(T 39).zero=[Go.Value.slice none 0 0,Go.Value.slice none 0 0,Go.Value.int Go.IntKind.i64 0]:=rfl
@[simp,go_sem] theorem Tk41:(T 41).kind=.struct [(0,3),(1,33),(2,33)]:=rfl
@[simp,go_sem] theorem Ts41:(T 41).size=3:=rfl
@[simp,go_sem] theorem Tb41:(T 41).bytes=56:=rfl
@[simp,go_sem] theorem Tz41:(T 41).zero=[Go.Value.int Go.IntKind.i64 0,Go.Value.slice none 0 0,Go.Value.slice none 0 0]:=rfl
@[simp,go_sem] theorem Tk42:(T 42).kind=.slice 104:=rfl
@[simp,go_sem] theorem Ts42:(T 42).size=1:=rfl
@[simp,go_sem] theorem Tb42:(T 42).bytes=24:=rfl
@[simp,go_sem] theorem Tz42:(T 42).zero=[Go.Value.slice none 0 0]:=rfl
@[simp,go_sem] theorem Tk44:(T 44).kind=.struct [(0,39),(3,41),(6,4),(7,42)]:=rfl
@[simp,go_sem] theorem Ts44:(T 44).size=8:=rfl
@[simp,go_sem] theorem Tb44:(T 44).bytes=144:=rfl
@[simp,go_sem] theorem Tz44:(T 44).zero=[Go.Value.slice none 0 0,Go.Value.slice none 0 0,Go.Value.int Go.IntKind.i64 0,Go.Value.int Go.IntKind.i64 0,Go.Value.slice none 0 0,Go.Value.slice none 0 0,Go.Value.bool false,Go.Value.slice none 0 0]:=rfl
@[simp,go_sem] theorem Tk45:(T 45).kind=.slice 62:=rfl
@[simp,go_sem] theorem Ts45:(T 45).size=1:=rfl
@[simp,go_sem] theorem Tb45:(T 45).bytes=24:=rfl
@[simp,go_sem] theorem Tz45:(T 45).zero=[Go.Value.slice none 0 0]:=rfl
@[simp,go_sem] theorem Tk47:(T 47).kind=.struct [(0,35),(3,44),(11,45)]:=rfl
@[simp,go_sem] theorem Ts47:(T 47).size=12:=rfl
@[simp,go_sem] theorem Tb47:(T 47).bytes=224:=rfl
@[simp,go_sem] theorem Tz47:(T 47).zero=[Go.Value.slice none 0 0,Go.Value.slice none 0 0,Go.Value.int Go.IntKind.i64 0,Go.Value.slice none 0 0,Go.Value.slice none 0 0,Go.Value.int Go.IntKind.i64 0,Go.Value.int Go.IntKind.i64 0,Go.Value.slice none 0 0,Go.Value.slice none 0 0,Go.Value.bool false,Go.Value.slice none 0 0,Go.Value.slice none 0 0]:=rfl
@[simp,go_sem] theorem Tk52:(T 52).kind=.other:=rfl
@[simp,go_sem] theorem Ts52:(T 52).size=1:=rfl
@[simp,go_sem] theorem Tb52:(T 52).bytes=8:=rfl
@[simp,go_sem] theorem Tz52:(T 52).zero=[Go.Value.pointer none]:=rfl
@[simp,go_sem] theorem Tk62:(T 62).kind=.struct [(0,3),(1,3)]:=rfl
@[simp,go_sem] theorem Ts62:(T 62).size=2:=rfl
@[simp,go_sem] theorem Tb62:(T 62).bytes=16:=rfl
@[simp,go_sem] theorem Tz62:(T 62).zero=[Go.Value.int Go.IntKind.i64 0,Go.Value.int Go.IntKind.i64 0]:=rfl
@[simp,go_sem] theorem Te62:(T 62).eqs=some [(0,3),(1,3)]:=rfl
@[simp,go_sem] theorem Tk65:(T 65).kind=.struct [(0,22),(1,3),(2,3)]:=rfl
@[simp,go_sem] theorem Ts65:(T 65).size=3:=rfl
@[simp,go_sem] theorem Tb65:(T 65).bytes=40:=rfl
@[simp,go_sem] theorem Tz65:(T 65).zero=[Go.Value.slice none 0 0,Go.Value.int Go.IntKind.i64 0,Go.Value.int Go.IntKind.i64 0]:=rfl
@[simp,go_sem] theorem Tk66:(T 66).kind=.int .u64:=rfl
@[simp,go_sem] theorem Ts66:(T 66).size=1:=rfl
@[simp,go_sem] theorem Tb66:(T 66).bytes=8:=rfl
@[simp,go_sem] theorem Tz66:(T 66).zero=[Go.Value.int Go.IntKind.u64 0]:=rfl
@[simp,go_sem] theorem Tk72:(T 72).kind=.struct [(0,9),(1,3),(2,4),(3,3),(4,3),(5,3),(6,3),(7,4),(8,3),(9,3),(10,3)]:=rfl
@[simp,go_sem] theorem Ts72:(T 72).size=11:=rfl
@[simp,go_sem] theorem Tb72:(T 72).bytes=96:=rfl
@[simp,go_sem] theorem Tz72:(T 72).zero=[Go.Value.string { data:=#[] },Go.Value.int Go.IntKind.i64 0,Go.Value.bool false,Go.Value.int Go.IntKind.i64 0,Go.Value.int Go.IntKind.i64 0,Go.Value.int Go.IntKind.i64 0,Go.Value.int Go.IntKind.i64 0,Go.Value.bool false,Go.Value.int Go.IntKind.i64 0,Go.Value.int Go.IntKind.i64 0,Go.Value.int Go.IntKind.i64 0]:=rfl
@[simp,go_sem] theorem Te72:(T 72).eqs=some [(0,9),(1,3),(2,4),(3,3),(4,3),(5,3),(6,3),(7,4),(8,3),(9,3),(10,3)]:=rfl
@[simp,go_sem] theorem Tk77:(T 77).kind=.other:=rfl
@[simp,go_sem] theorem Ts77:(T 77).size=1:=rfl
@[simp,go_sem] theorem Tb77:(T 77).bytes=8:=rfl
@[simp,go_sem] theorem Tz77:(T 77).zero=[Go.Value.pointer none]:=rfl
@[simp,go_sem] theorem Tk87:(T 87).kind=.other:=rfl
@[simp,go_sem] theorem Ts87:(T 87).size=1:=rfl
@[simp,go_sem] theorem Tb87:(T 87).bytes=8:=rfl
@[simp,go_sem] theorem Tz87:(T 87).zero=[Go.Value.pointer none]:=rfl
@[simp,go_sem] theorem Tk89:(T 89).kind=.struct [(0,87),(1,22)]:=rfl
@[simp,go_sem] theorem Ts89:(T 89).size=2:=rfl
@[simp,go_sem] theorem Tb89:(T 89).bytes=32:=rfl
@[simp,go_sem] theorem Tz89:(T 89).zero=[Go.Value.pointer none,Go.Value.slice none 0 0]:=rfl
@[simp,go_sem] theorem Tk92:(T 92).kind=.other:=rfl
@[simp,go_sem] theorem Ts92:(T 92).size=1:=rfl
@[simp,go_sem] theorem Tb92:(T 92).bytes=16:=rfl
@[simp,go_sem] theorem Tz92:(T 92).zero=[Go.Value.nilIface]:=rfl
@[simp,go_sem] theorem Tk95:(T 95).kind=.other:=rfl
@[simp,go_sem] theorem Ts95:(T 95).size=1:=rfl
@[simp,go_sem] theorem Tb95:(T 95).bytes=8:=rfl
@[simp,go_sem] theorem Tz95:(T 95).zero=[Go.Value.nilFunc]:=rfl
@[simp,go_sem] theorem Mj:(T 100).kind=.struct [(0,3),(1,3),(2,3),(3,3),(4,4)]:=rfl
@[simp,go_sem] theorem Ml:(T 100).size=5:=rfl
@[simp,go_sem] theorem Mm:(T 100).bytes=40:=rfl
@[simp,go_sem] theorem Mn:(T 100).zero=[Go.Value.int Go.IntKind.i64 0,Go.Value.int Go.IntKind.i64 0,Go.Value.int Go.IntKind.i64 0,Go.Value.int Go.IntKind.i64 0,Go.Value.bool false]:=rfl
@[simp,go_sem] theorem Mo:(T 100).eqs=some [(0,3),(1,3),(2,3),(3,3),(4,4)]:=rfl
@[simp,go_sem] theorem Mp:(T 102).kind=.struct [(0,9),(1,33),(2,3)]:=rfl
@[simp,go_sem] theorem Mq:(T 102).size=3:=rfl
@[simp,go_sem] theorem Mr:(T 102).bytes=48:=rfl
@[simp,go_sem] theorem Ms:(T 102).zero=[Go.Value.string { data:=#[] },Go.Value.slice none 0 0,Go.Value.int Go.IntKind.i64 0]:=rfl
@[simp,go_sem] theorem Mt:(T 104).kind=.struct [(0,3),(1,33),(2,33),(3,33)]:=rfl
@[simp,go_sem] theorem Mu:(T 104).size=4:=rfl
@[simp,go_sem] theorem Mv:(T 104).bytes=80:=rfl
@[simp,go_sem] theorem Mw:(T 104).zero=[Go.Value.int Go.IntKind.i64 0,Go.Value.slice none 0 0,Go.Value.slice none 0 0,Go.Value.slice none 0 0]:=rfl
@[simp,go_sem] theorem Mx:(T 132).kind=.int .u64:=rfl
@[simp,go_sem] theorem My:(T 132).size=1:=rfl
@[simp,go_sem] theorem Mz:(T 132).bytes=8:=rfl
@[simp,go_sem] theorem MA:(T 132).zero=[Go.Value.int Go.IntKind.u64 0]:=rfl
@[simp,go_sem] theorem MB:(T 141).kind=.other:=rfl
@[simp,go_sem] theorem MD:(T 141).size=1:=rfl
@[simp,go_sem] theorem ME:(T 141).bytes=8:=rfl
@[simp,go_sem] theorem MF:(T 141).zero=[Go.Value.nilFunc]:=rfl
@[simp,go_sem] theorem MG:(T 142).kind=.other:=rfl
@[simp,go_sem] theorem MH:(T 142).size=1:=rfl
@[simp,go_sem] theorem MI:(T 142).bytes=8:=rfl
@[simp,go_sem] theorem MJ:(T 142).zero=[Go.Value.nilFunc]:=rfl
@[simp,go_sem] theorem MK:(T 148).kind=.other:=rfl
@[simp,go_sem] theorem ML:(T 148).size=1:=rfl
@[simp,go_sem] theorem MM:(T 148).bytes=8:=rfl
@[simp,go_sem] theorem MN:(T 148).zero=[Go.Value.pointer none]:=rfl
@[simp,go_sem] theorem MO:(T 151).kind=.slice 33:=rfl
@[simp,go_sem] theorem MP:(T 151).size=1:=rfl
@[simp,go_sem] theorem MQ:(T 151).bytes=24:=rfl
@[simp,go_sem] theorem MR:(T 151).zero=[Go.Value.slice none 0 0]:=rfl
@[simp,go_sem] theorem MS:(T 153).kind=.other:=rfl
@[simp,go_sem] theorem MT:(T 153).size=1:=rfl
@[simp,go_sem] theorem MU:(T 153).bytes=8:=rfl
@[simp,go_sem] theorem MV:(T 153).zero=[Go.Value.nilFunc]:=rfl
@[simp,go_sem] theorem MW:(T 156).kind=.map 9 4:=rfl
@[simp,go_sem] theorem MX:(T 156).size=1:=rfl
@[simp,go_sem] theorem MY:(T 156).bytes=8:=rfl
@[simp,go_sem] theorem MZ:(T 156).zero=[Go.Value.map none]:=rfl
@[simp,go_sem] theorem Na:(T 158).kind=.struct [(0,39),(3,156)]:=rfl
@[simp,go_sem] theorem Nb:(T 158).size=4:=rfl
@[simp,go_sem] theorem Nc:(T 158).bytes=64:=rfl
@[simp,go_sem] theorem Nd:(T 158).zero=[Go.Value.slice none 0 0,Go.Value.slice none 0 0,Go.Value.int Go.IntKind.i64 0,Go.Value.map none]:=rfl
@[simp,go_sem] theorem Nf:(T 161).kind=.other:=rfl
@[simp,go_sem] theorem Ng:(T 161).size=1:=rfl
@[simp,go_sem] theorem Nh:(T 161).bytes=8:=rfl
@[simp,go_sem] theorem Ni:(T 161).zero=[Go.Value.nilFunc]:=rfl
@[simp,go_sem] theorem Nj:(T 164).kind=.other:=rfl
@[simp,go_sem] theorem Nk:(T 164).size=1:=rfl
@[simp,go_sem] theorem Nl:(T 164).bytes=8:=rfl
@[simp,go_sem] theorem Nm:(T 164).zero=[Go.Value.nilFunc]:=rfl
@[simp,go_sem] theorem Nn:(T 181).kind=.struct [(0,3),(1,3)]:=rfl
@[simp,go_sem] theorem No:(T 181).size=2:=rfl
@[simp,go_sem] theorem Np:(T 181).bytes=16:=rfl
@[simp,go_sem] theorem Nq:(T 181).zero=[Go.Value.int Go.IntKind.i64 0,Go.Value.int Go.IntKind.i64 0]:=rfl
@[simp,go_sem] theorem Nr:(T 181).eqs=some [(0,3),(1,3)]:=rfl
@[simp,go_sem] theorem Ns:(T 190).kind=.int .u32:=rfl
@[simp,go_sem] theorem Nt:(T 190).size=1:=rfl
@[simp,go_sem] theorem Nu:(T 190).bytes=4:=rfl
@[simp,go_sem] theorem Nv:(T 190).zero=[Go.Value.int Go.IntKind.u32 0]:=rfl
@[simp,go_sem] theorem Nw:(T 195).kind=.other:=rfl
@[simp,go_sem] theorem Nx:(T 195).size=1:=rfl
@[simp,go_sem] theorem Ny:(T 195).bytes=8:=rfl
@[simp,go_sem] theorem Nz:(T 195).zero=[Go.Value.nilFunc]:=rfl
@[simp,go_sem] theorem NA:(T 245).kind=.other:=rfl
@[simp,go_sem] theorem NB:(T 245).size=1:=rfl
@[simp,go_sem] theorem NC:(T 245).bytes=8:=rfl
@[simp,go_sem] theorem ND:(T 245).zero=[Go.Value.nilFunc]:=rfl
@[simp,go_sem] theorem NE:(T 247).kind=.int .i64:=rfl
@[simp,go_sem] theorem NF:(T 247).size=1:=rfl
@[simp,go_sem] theorem NG:(T 247).bytes=8:=rfl
@[simp,go_sem] theorem NH:(T 247).zero=[Go.Value.int Go.IntKind.i64 0]:=rfl
@[simp,go_sem] theorem NI:(T 266).kind=.slice 305:=rfl
@[simp,go_sem] theorem NJ:(T 266).size=1:=rfl
@[simp,go_sem] theorem NK:(T 266).bytes=24:=rfl
@[simp,go_sem] theorem NL:(T 266).zero=[Go.Value.slice none 0 0]:=rfl
@[simp,go_sem] theorem NM:(T 268).kind=.struct [(0,3),(1,266)]:=rfl
@[simp,go_sem] theorem NN:(T 268).size=2:=rfl
@[simp,go_sem] theorem NO:(T 268).bytes=32:=rfl
@[simp,go_sem] theorem NP:(T 268).zero=[Go.Value.int Go.IntKind.i64 0,Go.Value.slice none 0 0]:=rfl
@[simp,go_sem] theorem NQ:(T 305).kind=.struct [(0,3),(1,3),(2,181)]:=rfl
@[simp,go_sem] theorem NR:(T 305).size=4:=rfl
@[simp,go_sem] theorem NS:(T 305).bytes=32:=rfl
@[simp,go_sem] theorem NT:(T 305).zero=[Go.Value.int Go.IntKind.i64 0,Go.Value.int Go.IntKind.i64 0,Go.Value.int Go.IntKind.i64 0,Go.Value.int Go.IntKind.i64 0]:=rfl
@[simp,go_sem] theorem NU:(T 308).kind=.other:=rfl
@[simp,go_sem] theorem NV:(T 308).size=1:=rfl
@[simp,go_sem] theorem NW:(T 308).bytes=8:=rfl
@[simp,go_sem] theorem NX:(T 308).zero=[Go.Value.nilFunc]:=rfl
@[simp,go_sem] theorem NY:(T 312).kind=.slice 331:=rfl
@[simp,go_sem] theorem NZ:(T 312).size=1:=rfl
@[simp,go_sem] theorem Oa:(T 312).bytes=24:=rfl
@[simp,go_sem] theorem Ob:(T 312).zero=[Go.Value.slice none 0 0]:=rfl
@[simp,go_sem] theorem Oc:(T 314).kind=.struct [(0,3),(1,312)]:=rfl
@[simp,go_sem] theorem Od:(T 314).size=2:=rfl
@[simp,go_sem] theorem Oe:(T 314).bytes=32:=rfl
@[simp,go_sem] theorem Of:(T 314).zero=[Go.Value.int Go.IntKind.i64 0,Go.Value.slice none 0 0]:=rfl
@[simp,go_sem] theorem Og:(T 327).kind=.other:=rfl
@[simp,go_sem] theorem Oh:(T 327).size=1:=rfl
@[simp,go_sem] theorem Oi:(T 327).bytes=8:=rfl
@[simp,go_sem] theorem Oj:(T 327).zero=[Go.Value.nilFunc]:=rfl
@[simp,go_sem] theorem Ok:(T 331).kind=.struct [(0,3),(1,3),(2,3)]:=rfl
@[simp,go_sem] theorem Ol:(T 331).size=3:=rfl
@[simp,go_sem] theorem Om:(T 331).bytes=24:=rfl
@[simp,go_sem] theorem On:(T 331).zero=[Go.Value.int Go.IntKind.i64 0,Go.Value.int Go.IntKind.i64 0,Go.Value.int Go.IntKind.i64 0]:=rfl
@[simp,go_sem] theorem Oo:(T 331).eqs=some [(0,3),(1,3),(2,3)]:=rfl
@[simp,go_sem] theorem Oq:(T 336).kind=.struct [(0,3),(1,33)]:=rfl
@[simp,go_sem] theorem Ot:(T 336).size=2:=rfl
@[simp,go_sem] theorem Ou:(T 336).bytes=32:=rfl
@[simp,go_sem] theorem Ov:(T 336).zero=[Go.Value.int Go.IntKind.i64 0,Go.Value.slice none 0 0]:=rfl
@[simp,go_sem] theorem Ow:(T 341).kind=.other:=rfl
@[simp,go_sem] theorem Ox:(T 341).size=1:=rfl
@[simp,go_sem] theorem Oy:(T 341).bytes=8:=rfl
@[simp,go_sem] theorem Oz:(T 341).zero=[Go.Value.nilFunc]:=rfl
@[simp,go_sem] theorem OA:(T 348).kind=.slice 4:=rfl
@[simp,go_sem] theorem OB:(T 348).size=1:=rfl
@[simp,go_sem] theorem OC:(T 348).bytes=24:=rfl
@[simp,go_sem] theorem OD:(T 348).zero=[Go.Value.slice none 0 0]:=rfl
end
end Go.Proofs.Qq
