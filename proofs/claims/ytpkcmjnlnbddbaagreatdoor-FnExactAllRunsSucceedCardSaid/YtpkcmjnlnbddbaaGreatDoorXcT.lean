/- The types of the seat,and that they fit. Made by gentypes.py. -/
import Derived.Test.YtpkcmjnlnbddbaaGreatDoorXc31
import Derived.KernelRfl
import Derived.Test.YtpkcmjnlnbddbaaGreatDoorProg
set_option linter.all false
namespace Go.Proofs.Qc
open Go Tryz
def unkTy:Ty:=⟨.unknown,0,0,[],none⟩
def ty1:Ty:=⟨.other,1,8,[Go.Value.nilFunc],none⟩
def ty2:Ty:=⟨.int .i64,1,8,[Go.Value.int Go.IntKind.i64 0],none⟩
def ty3:Ty:=⟨.int .i64,1,8,[Go.Value.int Go.IntKind.i64 0],none⟩
def ty4:Ty:=⟨.bool,1,1,[Go.Value.bool false],none⟩
def ty5:Ty:=⟨.int .u8,1,1,[Go.Value.int Go.IntKind.u8 0],none⟩
def ty6:Ty:=⟨.int .u8,1,1,[Go.Value.int Go.IntKind.u8 0],none⟩
def ty7:Ty:=⟨.struct [(0,2),(1,3),(2,4),(3,6)],4,24,[Go.Value.int Go.IntKind.i64 0,Go.Value.int Go.IntKind.i64 0,Go.Value.bool false,Go.Value.int Go.IntKind.u8 0],none⟩
def ty8:Ty:=⟨.struct [(0,2),(1,3),(2,4),(3,6)],4,24,[Go.Value.int Go.IntKind.i64 0,Go.Value.int Go.IntKind.i64 0,Go.Value.bool false,Go.Value.int Go.IntKind.u8 0],none⟩
def ty9:Ty:=⟨.str,1,16,[Go.Value.string { data:=#[] }],none⟩
def ty10:Ty:=⟨.str,1,16,[Go.Value.string { data:=#[] }],none⟩
def ty20:Ty:=⟨.other,1,16,[Go.Value.nilIface],none⟩
def ty22:Ty:=⟨.slice 171,1,24,[Go.Value.slice none 0 0],none⟩
def ty23:Ty:=⟨.slice 184,1,24,[Go.Value.slice none 0 0],none⟩
def ty25:Ty:=⟨.struct [(0,22),(1,23),(2,3)],3,56,[Go.Value.slice none 0 0,Go.Value.slice none 0 0,Go.Value.int Go.IntKind.i64 0],none⟩
def ty26:Ty:=⟨.slice 3,1,24,[Go.Value.slice none 0 0],none⟩
def ty28:Ty:=⟨.struct [(0,26),(1,26)],2,48,[Go.Value.slice none 0 0,Go.Value.slice none 0 0],none⟩
def ty32:Ty:=⟨.slice 156,1,24,[Go.Value.slice none 0 0],none⟩
def ty33:Ty:=⟨.slice 86,1,24,[Go.Value.slice none 0 0],none⟩
def ty35:Ty:=⟨.struct [(0,32),(1,33),(2,3)],3,56,[Go.Value.slice none 0 0,Go.Value.slice none 0 0,Go.Value.int Go.IntKind.i64 0],none⟩
def ty37:Ty:=⟨.struct [(0,26),(1,26)],2,48,[Go.Value.slice none 0 0,Go.Value.slice none 0 0],none⟩
def ty46:Ty:=⟨.slice 5,1,24,[Go.Value.slice none 0 0],none⟩
def ty48:Ty:=⟨.struct [(0,3),(1,26),(2,26)],3,56,[Go.Value.int Go.IntKind.i64 0,Go.Value.slice none 0 0,Go.Value.slice none 0 0],none⟩
def ty49:Ty:=⟨.slice 125,1,24,[Go.Value.slice none 0 0],none⟩
def ty51:Ty:=⟨.struct [(0,35),(3,48),(6,4),(7,49)],8,144,[Go.Value.slice none 0 0,Go.Value.slice none 0 0,Go.Value.int Go.IntKind.i64 0,Go.Value.int Go.IntKind.i64 0,Go.Value.slice none 0 0,Go.Value.slice none 0 0,Go.Value.bool false,Go.Value.slice none 0 0],none⟩
def ty74:Ty:=⟨.slice 80,1,24,[Go.Value.slice none 0 0],none⟩
def ty80:Ty:=⟨.struct [(0,3),(1,3)],2,16,[Go.Value.int Go.IntKind.i64 0,Go.Value.int Go.IntKind.i64 0],some [(0,3),(1,3)]⟩
def ty82:Ty:=⟨.struct [(0,3),(1,3)],2,16,[Go.Value.int Go.IntKind.i64 0,Go.Value.int Go.IntKind.i64 0],some [(0,3),(1,3)]⟩
def ty86:Ty:=⟨.struct [(0,3),(1,3),(2,3),(3,3),(4,4)],5,40,[Go.Value.int Go.IntKind.i64 0,Go.Value.int Go.IntKind.i64 0,Go.Value.int Go.IntKind.i64 0,Go.Value.int Go.IntKind.i64 0,Go.Value.bool false],some [(0,3),(1,3),(2,3),(3,3),(4,4)]⟩
def ty87:Ty:=⟨.slice 9,1,24,[Go.Value.slice none 0 0],none⟩
def ty89:Ty:=⟨.slice 164,1,24,[Go.Value.slice none 0 0],none⟩
def ty91:Ty:=⟨.struct [(0,89),(1,26),(2,3)],3,56,[Go.Value.slice none 0 0,Go.Value.slice none 0 0,Go.Value.int Go.IntKind.i64 0],none⟩
def ty101:Ty:=⟨.slice 175,1,24,[Go.Value.slice none 0 0],none⟩
def ty103:Ty:=⟨.struct [(0,3),(1,101)],2,32,[Go.Value.int Go.IntKind.i64 0,Go.Value.slice none 0 0],none⟩
def ty118:Ty:=⟨.other,1,8,[Go.Value.pointer none],none⟩
def ty121:Ty:=⟨.other,1,8,[Go.Value.pointer none],none⟩
def ty123:Ty:=⟨.struct [(0,121),(1,46)],2,32,[Go.Value.pointer none,Go.Value.slice none 0 0],none⟩
def ty125:Ty:=⟨.struct [(0,3),(1,26),(2,26),(3,26)],4,80,[Go.Value.int Go.IntKind.i64 0,Go.Value.slice none 0 0,Go.Value.slice none 0 0,Go.Value.slice none 0 0],none⟩
def ty127:Ty:=⟨.other,1,16,[Go.Value.nilIface],none⟩
def ty138:Ty:=⟨.other,1,8,[Go.Value.nilFunc],none⟩
def ty147:Ty:=⟨.other,1,8,[Go.Value.pointer none],none⟩
def ty153:Ty:=⟨.other,1,8,[Go.Value.nilFunc],none⟩
def ty156:Ty:=⟨.struct [(0,9),(1,26),(2,3)],3,48,[Go.Value.string { data:=#[] },Go.Value.slice none 0 0,Go.Value.int Go.IntKind.i64 0],none⟩
def ty157:Ty:=⟨.other,1,8,[Go.Value.nilFunc],none⟩
def ty164:Ty:=⟨.struct [(0,9),(1,3),(2,4),(3,3),(4,3),(5,3),(6,3),(7,4),(8,3),(9,3),(10,3)],11,96,[Go.Value.string { data:=#[] },Go.Value.int Go.IntKind.i64 0,Go.Value.bool false,Go.Value.int Go.IntKind.i64 0,Go.Value.int Go.IntKind.i64 0,Go.Value.int Go.IntKind.i64 0,Go.Value.int Go.IntKind.i64 0,Go.Value.bool false,Go.Value.int Go.IntKind.i64 0,Go.Value.int Go.IntKind.i64 0,Go.Value.int Go.IntKind.i64 0],some [(0,9),(1,3),(2,4),(3,3),(4,3),(5,3),(6,3),(7,4),(8,3),(9,3),(10,3)]⟩
def ty171:Ty:=⟨.struct [(0,9),(1,26),(2,3)],3,48,[Go.Value.string { data:=#[] },Go.Value.slice none 0 0,Go.Value.int Go.IntKind.i64 0],none⟩
def ty172:Ty:=⟨.slice 4,1,24,[Go.Value.slice none 0 0],none⟩
def ty175:Ty:=⟨.struct [(0,3),(1,3),(2,82)],4,32,[Go.Value.int Go.IntKind.i64 0,Go.Value.int Go.IntKind.i64 0,Go.Value.int Go.IntKind.i64 0,Go.Value.int Go.IntKind.i64 0],none⟩
def ty184:Ty:=⟨.struct [(0,3),(1,3),(2,3),(3,3),(4,4)],5,40,[Go.Value.int Go.IntKind.i64 0,Go.Value.int Go.IntKind.i64 0,Go.Value.int Go.IntKind.i64 0,Go.Value.int Go.IntKind.i64 0,Go.Value.bool false],some [(0,3),(1,3),(2,3),(3,3),(4,4)]⟩
def ty192:Ty:=⟨.other,1,8,[Go.Value.nilFunc],none⟩
def ty193:Ty:=⟨.slice 26,1,24,[Go.Value.slice none 0 0],none⟩
def ty197:Ty:=⟨.struct [(0,46),(1,3),(2,3)],3,40,[Go.Value.slice none 0 0,Go.Value.int Go.IntKind.i64 0,Go.Value.int Go.IntKind.i64 0],none⟩
def ty211:Ty:=⟨.other,1,8,[Go.Value.nilFunc],none⟩
def ty215:Ty:=⟨.other,1,8,[Go.Value.nilFunc],none⟩
def ty220:Ty:=⟨.int .u64,1,8,[Go.Value.int Go.IntKind.u64 0],none⟩
def ty224:Ty:=⟨.map 9 4,1,8,[Go.Value.map none],none⟩
def ty226:Ty:=⟨.struct [(0,35),(3,224)],4,64,[Go.Value.slice none 0 0,Go.Value.slice none 0 0,Go.Value.int Go.IntKind.i64 0,Go.Value.map none],none⟩
def ty237:Ty:=⟨.other,1,8,[Go.Value.nilFunc],none⟩
def ty240:Ty:=⟨.other,1,8,[Go.Value.nilFunc],none⟩
def ty242:Ty:=⟨.other,1,8,[Go.Value.nilFunc],none⟩
def ty246:Ty:=⟨.other,1,8,[Go.Value.nilFunc],none⟩
def ty268:Ty:=⟨.int .u32,1,4,[Go.Value.int Go.IntKind.u32 0],none⟩
def ty271:Ty:=⟨.int .u64,1,8,[Go.Value.int Go.IntKind.u64 0],none⟩
def ty277:Ty:=⟨.other,1,8,[Go.Value.nilFunc],none⟩
def ty295:Ty:=⟨.int .i64,1,8,[Go.Value.int Go.IntKind.i64 0],none⟩
def tys:List Ty:=[unkTy,ty1,ty2,ty3,ty4,ty5,ty6,ty7,ty8,ty9,ty10,unkTy,unkTy,unkTy,unkTy,unkTy,unkTy,unkTy,unkTy,unkTy,ty20,unkTy,ty22,ty23,unkTy,ty25,ty26,unkTy,ty28,unkTy,unkTy,unkTy,ty32,ty33,unkTy,ty35,unkTy,ty37,unkTy,unkTy,unkTy,unkTy,unkTy,unkTy,unkTy,unkTy,ty46,unkTy,ty48,ty49,unkTy,ty51,unkTy,unkTy,unkTy,unkTy,unkTy,unkTy,unkTy,unkTy,unkTy,unkTy,unkTy,unkTy,unkTy,unkTy,unkTy,unkTy,unkTy,unkTy,unkTy,unkTy,unkTy,unkTy,ty74,unkTy,unkTy,unkTy,unkTy,unkTy,ty80,unkTy,ty82,unkTy,unkTy,unkTy,ty86,ty87,unkTy,ty89,unkTy,ty91,unkTy,unkTy,unkTy,unkTy,unkTy,unkTy,unkTy,unkTy,unkTy,ty101,unkTy,ty103,unkTy,unkTy,unkTy,unkTy,unkTy,unkTy,unkTy,unkTy,unkTy,unkTy,unkTy,unkTy,unkTy,unkTy,ty118,unkTy,unkTy,ty121,unkTy,ty123,unkTy,ty125,unkTy,ty127,unkTy,unkTy,unkTy,unkTy,unkTy,unkTy,unkTy,unkTy,unkTy,unkTy,ty138,unkTy,unkTy,unkTy,unkTy,unkTy,unkTy,unkTy,unkTy,ty147,unkTy,unkTy,unkTy,unkTy,unkTy,ty153,unkTy,unkTy,ty156,ty157,unkTy,unkTy,unkTy,unkTy,unkTy,unkTy,ty164,unkTy,unkTy,unkTy,unkTy,unkTy,unkTy,ty171,ty172,unkTy,unkTy,ty175,unkTy,unkTy,unkTy,unkTy,unkTy,unkTy,unkTy,unkTy,ty184,unkTy,unkTy,unkTy,unkTy,unkTy,unkTy,unkTy,ty192,ty193,unkTy,unkTy,unkTy,ty197,unkTy,unkTy,unkTy,unkTy,unkTy,unkTy,unkTy,unkTy,unkTy,unkTy,unkTy,unkTy,unkTy,ty211,unkTy,unkTy,unkTy,ty215,unkTy,unkTy,unkTy,unkTy,ty220,unkTy,unkTy,unkTy,ty224,unkTy,ty226,unkTy,unkTy,unkTy,unkTy,unkTy,unkTy,unkTy,unkTy,unkTy,unkTy,ty237,unkTy,unkTy,ty240,unkTy,ty242,unkTy,unkTy,unkTy,ty246,unkTy,unkTy,unkTy,unkTy,unkTy,unkTy,unkTy,unkTy,unkTy,unkTy,unkTy,unkTy,unkTy,unkTy,unkTy,unkTy,unkTy,unkTy,unkTy,unkTy,unkTy,ty268,unkTy,unkTy,ty271,unkTy,unkTy,unkTy,unkTy,unkTy,ty277,unkTy,unkTy,unkTy,unkTy,unkTy,unkTy,unkTy,unkTy,unkTy,unkTy,unkTy,unkTy,unkTy,unkTy,unkTy,unkTy,unkTy,ty295]
def T (t:Nat):Ty:=tys.getD t unkTy
inductive bE (P:Program):Nat→List Ty→Prop
 | nil (k:Nat):bE P k []
 | cons {k:Nat} {ty:Ty} {l:List Ty} (h:TyOk P k ty) (r:bE P (k+1) l):bE P k (ty::l)
theorem bE.get {P:Program}:∀ {l:List Ty} {k:Nat},bE P k l→∀ i,TyOk P (k+i) (l.getD i unkTy)
 | _,_,.nil _,i=>by simp[unkTy,TyOk]
 | _,_,.cons h r,0=>h
 | _,_,.cons (k:=k) h r,i+1=>by
  have:=r.get i
  rw[show k+1+i=k+(i+1) by omega]at this
  simpa using this
theorem af (P:Program)(t:Nat):TyOk P t unkTy:=by simp[unkTy,TyOk]
theorem aG {P:Program}{t:Nat}{ty:Ty}{i:TypeInfo}{z:Value}(hs:t<P.types.size)(h1:P.types[t]?=some i)(h2:i.zero=some z)(h:i.size=ty.size∧i.bytes=ty.bytes∧z.cells.toList=ty.zero∧ty.zero.length=ty.size)(h3:ty.zero.all (fun v=>v.oneCell')=true)(h4:ei P t ty.kind)(h5:∀ fs,ty.eqs=some fs→∃ fields:Array Field,P.underlying t=some (.struct fields)∧fields.toList.map (fun f=>(f.offset,f.type))=fs∧(∀ f,f∈fields.toList→f.name ≠ "_")∧P.stoodInHeld t=false∧P.eqGuardType P.depth t=false):TyOk P t ty:=by
 unfold TyOk
 split
 ·trivial
 ·exact⟨⟨i,z,(by unfold Tables.info?;rw[if_pos hs];exact h1),h.1,h.2.1,h2,h.2.2.1,h.2.2.2⟩,fun v hv=>List.all_eq_true.1 h3 v hv,h4,h5⟩
theorem VO:TyOk prog 1 ty1:=aG (i:=Tryz.t1) (by rw[types_size];decide) type1 rfl ⟨rfl,rfl,rfl,rfl⟩ rfl (by exact⟨_,underlying1,rfl⟩) (by intro fs h;cases h)
theorem VP:TyOk prog 2 ty2:=aG (i:=Tryz.t2) (by rw[types_size];decide) type2 rfl ⟨rfl,rfl,rfl,rfl⟩ rfl (by exact underlying2) (by intro fs h;cases h)
theorem VQ:TyOk prog 3 ty3:=aG (i:=Tryz.t3) (by rw[types_size];decide) type3 rfl ⟨rfl,rfl,rfl,rfl⟩ rfl (by exact underlying3) (by intro fs h;cases h)
theorem VR:TyOk prog 4 ty4:=aG (i:=Tryz.t4) (by rw[types_size];decide) type4 rfl ⟨rfl,rfl,rfl,rfl⟩ rfl (by exact underlying4) (by intro fs h;cases h)
theorem VS:TyOk prog 5 ty5:=aG (i:=Tryz.t5) (by rw[types_size];decide) type5 rfl ⟨rfl,rfl,rfl,rfl⟩ rfl (by exact underlying5) (by intro fs h;cases h)
theorem VT:TyOk prog 6 ty6:=aG (i:=Tryz.t6) (by rw[types_size];decide) type6 rfl ⟨rfl,rfl,rfl,rfl⟩ rfl (by exact underlying6) (by intro fs h;cases h)
theorem VU:TyOk prog 7 ty7:=aG (i:=Tryz.t7) (by rw[types_size];decide) type7 rfl ⟨rfl,rfl,rfl,rfl⟩ rfl (by exact⟨_,underlying7,rfl⟩) (by intro fs h;cases h)
theorem VV:TyOk prog 8 ty8:=aG (i:=Tryz.t8) (by rw[types_size];decide) type8 rfl ⟨rfl,rfl,rfl,rfl⟩ rfl (by exact⟨_,underlying8,rfl⟩) (by intro fs h;cases h)
theorem VW:TyOk prog 9 ty9:=aG (i:=Tryz.t9) (by rw[types_size];decide) type9 rfl ⟨rfl,rfl,rfl,rfl⟩ rfl (by exact underlying9) (by intro fs h;cases h)
theorem Um:TyOk prog 10 ty10:=aG (i:=Tryz.t10) (by rw[types_size];decide) type10 rfl ⟨rfl,rfl,rfl,rfl⟩ rfl (by exact underlying10) (by intro fs h;cases h)
theorem Un:TyOk prog 20 ty20:=aG (i:=Tryz.t20) (by rw[types_size];decide) type20 rfl ⟨rfl,rfl,rfl,rfl⟩ rfl (by exact⟨_,underlying20,rfl⟩) (by intro fs h;cases h)
theorem Uo:TyOk prog 22 ty22:=aG (i:=Tryz.t22) (by rw[types_size];decide) type22 rfl ⟨rfl,rfl,rfl,rfl⟩ rfl (by exact underlying22) (by intro fs h;cases h)
theorem Up:TyOk prog 23 ty23:=aG (i:=Tryz.t23) (by rw[types_size];decide) type23 rfl ⟨rfl,rfl,rfl,rfl⟩ rfl (by exact underlying23) (by intro fs h;cases h)
theorem Uq:TyOk prog 25 ty25:=aG (i:=Tryz.t25) (by rw[types_size];decide) type25 rfl ⟨rfl,rfl,rfl,rfl⟩ rfl (by exact⟨_,underlying25,rfl⟩) (by intro fs h;cases h)
theorem Ur:TyOk prog 26 ty26:=aG (i:=Tryz.t26) (by rw[types_size];decide) type26 rfl ⟨rfl,rfl,rfl,rfl⟩ rfl (by exact underlying26) (by intro fs h;cases h)
theorem Us:TyOk prog 28 ty28:=aG (i:=Tryz.t28) (by rw[types_size];decide) type28 rfl ⟨rfl,rfl,rfl,rfl⟩ rfl (by exact⟨_,underlying28,rfl⟩) (by intro fs h;cases h)
theorem Ut:TyOk prog 32 ty32:=aG (i:=Tryz.t32) (by rw[types_size];decide) type32 rfl ⟨rfl,rfl,rfl,rfl⟩ rfl (by exact underlying32) (by intro fs h;cases h)
theorem Uu:TyOk prog 33 ty33:=aG (i:=Tryz.t33) (by rw[types_size];decide) type33 rfl ⟨rfl,rfl,rfl,rfl⟩ rfl (by exact underlying33) (by intro fs h;cases h)
theorem Uv:TyOk prog 35 ty35:=aG (i:=Tryz.t35) (by rw[types_size];decide) type35 rfl ⟨rfl,rfl,rfl,rfl⟩ rfl (by exact⟨_,underlying35,rfl⟩) (by intro fs h;cases h)
theorem Uw:TyOk prog 37 ty37:=aG (i:=Tryz.t37) (by rw[types_size];decide) type37 rfl ⟨rfl,rfl,rfl,rfl⟩ rfl (by exact⟨_,underlying37,rfl⟩) (by intro fs h;cases h)
theorem Ux:TyOk prog 46 ty46:=aG (i:=Tryz.t46) (by rw[types_size];decide) type46 rfl ⟨rfl,rfl,rfl,rfl⟩ rfl (by exact underlying46) (by intro fs h;cases h)
theorem Uy:TyOk prog 48 ty48:=aG (i:=Tryz.t48) (by rw[types_size];decide) type48 rfl ⟨rfl,rfl,rfl,rfl⟩ rfl (by exact⟨_,underlying48,rfl⟩) (by intro fs h;cases h)
theorem Uz:TyOk prog 49 ty49:=aG (i:=Tryz.t49) (by rw[types_size];decide) type49 rfl ⟨rfl,rfl,rfl,rfl⟩ rfl (by exact underlying49) (by intro fs h;cases h)
theorem UA:TyOk prog 51 ty51:=aG (i:=Tryz.t51) (by rw[types_size];decide) type51 rfl ⟨rfl,rfl,rfl,rfl⟩ rfl (by exact⟨_,underlying51,rfl⟩) (by intro fs h;cases h)
theorem UB:TyOk prog 74 ty74:=aG (i:=Tryz.t74) (by rw[types_size];decide) type74 rfl ⟨rfl,rfl,rfl,rfl⟩ rfl (by exact underlying74) (by intro fs h;cases h)
theorem UC:TyOk prog 80 ty80:=aG (i:=Tryz.t80) (by rw[types_size];decide) type80 rfl ⟨rfl,rfl,rfl,rfl⟩ rfl (by exact⟨_,underlying80,rfl⟩) (by intro fs h;cases h;exact⟨_,underlying80,rfl,by decide,by kernel_rfl,by kernel_rfl⟩)
theorem UD:TyOk prog 82 ty82:=aG (i:=Tryz.t82) (by rw[types_size];decide) type82 rfl ⟨rfl,rfl,rfl,rfl⟩ rfl (by exact⟨_,underlying82,rfl⟩) (by intro fs h;cases h;exact⟨_,underlying82,rfl,by decide,by kernel_rfl,by kernel_rfl⟩)
theorem UE:TyOk prog 86 ty86:=aG (i:=Tryz.t86) (by rw[types_size];decide) type86 rfl ⟨rfl,rfl,rfl,rfl⟩ rfl (by exact⟨_,underlying86,rfl⟩) (by intro fs h;cases h;exact⟨_,underlying86,rfl,by decide,by kernel_rfl,by kernel_rfl⟩)
theorem UF:TyOk prog 87 ty87:=aG (i:=Tryz.t87) (by rw[types_size];decide) type87 rfl ⟨rfl,rfl,rfl,rfl⟩ rfl (by exact underlying87) (by intro fs h;cases h)
theorem UG:TyOk prog 89 ty89:=aG (i:=Tryz.t89) (by rw[types_size];decide) type89 rfl ⟨rfl,rfl,rfl,rfl⟩ rfl (by exact underlying89) (by intro fs h;cases h)
theorem UH:TyOk prog 91 ty91:=aG (i:=Tryz.t91) (by rw[types_size];decide) type91 rfl ⟨rfl,rfl,rfl,rfl⟩ rfl (by exact⟨_,underlying91,rfl⟩) (by intro fs h;cases h)
theorem QF:TyOk prog 101 ty101:=aG (i:=Tryz.t101) (by rw[types_size];decide) type101 rfl ⟨rfl,rfl,rfl,rfl⟩ rfl (by exact underlying101) (by intro fs h;cases h)
theorem QG:TyOk prog 103 ty103:=aG (i:=Tryz.t103) (by rw[types_size];decide) type103 rfl ⟨rfl,rfl,rfl,rfl⟩ rfl (by exact⟨_,underlying103,rfl⟩) (by intro fs h;cases h)
theorem QH:TyOk prog 118 ty118:=aG (i:=Tryz.t118) (by rw[types_size];decide) type118 rfl ⟨rfl,rfl,rfl,rfl⟩ rfl (by exact⟨_,underlying118,rfl⟩) (by intro fs h;cases h)
theorem QI:TyOk prog 121 ty121:=aG (i:=Tryz.t121) (by rw[types_size];decide) type121 rfl ⟨rfl,rfl,rfl,rfl⟩ rfl (by exact⟨_,underlying121,rfl⟩) (by intro fs h;cases h)
theorem QJ:TyOk prog 123 ty123:=aG (i:=Tryz.t123) (by rw[types_size];decide) type123 rfl ⟨rfl,rfl,rfl,rfl⟩ rfl (by exact⟨_,underlying123,rfl⟩) (by intro fs h;cases h)
theorem QK:TyOk prog 125 ty125:=aG (i:=Tryz.t125) (by rw[types_size];decide) type125 rfl ⟨rfl,rfl,rfl,rfl⟩ rfl (by exact⟨_,underlying125,rfl⟩) (by intro fs h;cases h)
theorem QL:TyOk prog 127 ty127:=aG (i:=Tryz.t127) (by rw[types_size];decide) type127 rfl ⟨rfl,rfl,rfl,rfl⟩ rfl (by exact⟨_,underlying127,rfl⟩) (by intro fs h;cases h)
theorem QM:TyOk prog 138 ty138:=aG (i:=Tryz.t138) (by rw[types_size];decide) type138 rfl ⟨rfl,rfl,rfl,rfl⟩ rfl (by exact⟨_,underlying138,rfl⟩) (by intro fs h;cases h)
theorem QN:TyOk prog 147 ty147:=aG (i:=Tryz.t147) (by rw[types_size];decide) type147 rfl ⟨rfl,rfl,rfl,rfl⟩ rfl (by exact⟨_,underlying147,rfl⟩) (by intro fs h;cases h)
theorem QO:TyOk prog 153 ty153:=aG (i:=Tryz.t153) (by rw[types_size];decide) type153 rfl ⟨rfl,rfl,rfl,rfl⟩ rfl (by exact⟨_,underlying153,rfl⟩) (by intro fs h;cases h)
theorem QP:TyOk prog 156 ty156:=aG (i:=Tryz.t156) (by rw[types_size];decide) type156 rfl ⟨rfl,rfl,rfl,rfl⟩ rfl (by exact⟨_,underlying156,rfl⟩) (by intro fs h;cases h)
theorem QQ:TyOk prog 157 ty157:=aG (i:=Tryz.t157) (by rw[types_size];decide) type157 rfl ⟨rfl,rfl,rfl,rfl⟩ rfl (by exact⟨_,underlying157,rfl⟩) (by intro fs h;cases h)
theorem QR:TyOk prog 164 ty164:=aG (i:=Tryz.t164) (by rw[types_size];decide) type164 rfl ⟨rfl,rfl,rfl,rfl⟩ rfl (by exact⟨_,underlying164,rfl⟩) (by intro fs h;cases h;exact⟨_,underlying164,rfl,by decide,by kernel_rfl,by kernel_rfl⟩)
theorem QS:TyOk prog 171 ty171:=aG (i:=Tryz.t171) (by rw[types_size];decide) type171 rfl ⟨rfl,rfl,rfl,rfl⟩ rfl (by exact⟨_,underlying171,rfl⟩) (by intro fs h;cases h)
theorem QT:TyOk prog 172 ty172:=aG (i:=Tryz.t172) (by rw[types_size];decide) type172 rfl ⟨rfl,rfl,rfl,rfl⟩ rfl (by exact underlying172) (by intro fs h;cases h)
theorem QU:TyOk prog 175 ty175:=aG (i:=Tryz.t175) (by rw[types_size];decide) type175 rfl ⟨rfl,rfl,rfl,rfl⟩ rfl (by exact⟨_,underlying175,rfl⟩) (by intro fs h;cases h)
theorem QV:TyOk prog 184 ty184:=aG (i:=Tryz.t184) (by rw[types_size];decide) type184 rfl ⟨rfl,rfl,rfl,rfl⟩ rfl (by exact⟨_,underlying184,rfl⟩) (by intro fs h;cases h;exact⟨_,underlying184,rfl,by decide,by kernel_rfl,by kernel_rfl⟩)
theorem QW:TyOk prog 192 ty192:=aG (i:=Tryz.t192) (by rw[types_size];decide) type192 rfl ⟨rfl,rfl,rfl,rfl⟩ rfl (by exact⟨_,underlying192,rfl⟩) (by intro fs h;cases h)
theorem QX:TyOk prog 193 ty193:=aG (i:=Tryz.t193) (by rw[types_size];decide) type193 rfl ⟨rfl,rfl,rfl,rfl⟩ rfl (by exact underlying193) (by intro fs h;cases h)
theorem QY:TyOk prog 197 ty197:=aG (i:=Tryz.t197) (by rw[types_size];decide) type197 rfl ⟨rfl,rfl,rfl,rfl⟩ rfl (by exact⟨_,underlying197,rfl⟩) (by intro fs h;cases h)
theorem QZ:TyOk prog 211 ty211:=aG (i:=Tryz.t211) (by rw[types_size];decide) type211 rfl ⟨rfl,rfl,rfl,rfl⟩ rfl (by exact⟨_,underlying211,rfl⟩) (by intro fs h;cases h)
theorem Ra:TyOk prog 215 ty215:=aG (i:=Tryz.t215) (by rw[types_size];decide) type215 rfl ⟨rfl,rfl,rfl,rfl⟩ rfl (by exact⟨_,underlying215,rfl⟩) (by intro fs h;cases h)
theorem Rb:TyOk prog 220 ty220:=aG (i:=Tryz.t220) (by rw[types_size];decide) type220 rfl ⟨rfl,rfl,rfl,rfl⟩ rfl (by exact underlying220) (by intro fs h;cases h)
theorem Rc:TyOk prog 224 ty224:=aG (i:=Tryz.t224) (by rw[types_size];decide) type224 rfl ⟨rfl,rfl,rfl,rfl⟩ rfl (by exact underlying224) (by intro fs h;cases h)
theorem Rd:TyOk prog 226 ty226:=aG (i:=Tryz.t226) (by rw[types_size];decide) type226 rfl ⟨rfl,rfl,rfl,rfl⟩ rfl (by exact⟨_,underlying226,rfl⟩) (by intro fs h;cases h)
theorem Re:TyOk prog 237 ty237:=aG (i:=Tryz.t237) (by rw[types_size];decide) type237 rfl ⟨rfl,rfl,rfl,rfl⟩ rfl (by exact⟨_,underlying237,rfl⟩) (by intro fs h;cases h)
theorem Rf:TyOk prog 240 ty240:=aG (i:=Tryz.t240) (by rw[types_size];decide) type240 rfl ⟨rfl,rfl,rfl,rfl⟩ rfl (by exact⟨_,underlying240,rfl⟩) (by intro fs h;cases h)
theorem Rg:TyOk prog 242 ty242:=aG (i:=Tryz.t242) (by rw[types_size];decide) type242 rfl ⟨rfl,rfl,rfl,rfl⟩ rfl (by exact⟨_,underlying242,rfl⟩) (by intro fs h;cases h)
theorem Rh:TyOk prog 246 ty246:=aG (i:=Tryz.t246) (by rw[types_size];decide) type246 rfl ⟨rfl,rfl,rfl,rfl⟩ rfl (by exact⟨_,underlying246,rfl⟩) (by intro fs h;cases h)
theorem Ri:TyOk prog 268 ty268:=aG (i:=Tryz.t268) (by rw[types_size];decide) type268 rfl ⟨rfl,rfl,rfl,rfl⟩ rfl (by exact underlying268) (by intro fs h;cases h)
theorem Rj:TyOk prog 271 ty271:=aG (i:=Tryz.t271) (by rw[types_size];decide) type271 rfl ⟨rfl,rfl,rfl,rfl⟩ rfl (by exact underlying271) (by intro fs h;cases h)
theorem Rk:TyOk prog 277 ty277:=aG (i:=Tryz.t277) (by rw[types_size];decide) type277 rfl ⟨rfl,rfl,rfl,rfl⟩ rfl (by exact⟨_,underlying277,rfl⟩) (by intro fs h;cases h)
theorem Rl:TyOk prog 295 ty295:=aG (i:=Tryz.t295) (by rw[types_size];decide) type295 rfl ⟨rfl,rfl,rfl,rfl⟩ rfl (by exact underlying295) (by intro fs h;cases h)
theorem UI {l:List Ty}(r:bE prog 16 l):bE prog 0 (unkTy::ty1::ty2::ty3::ty4::ty5::ty6::ty7::ty8::ty9::ty10::unkTy::unkTy::unkTy::unkTy::unkTy::l):=
 .cons (af _ _) (.cons VO (.cons VP (.cons VQ (.cons VR (.cons VS (.cons VT (.cons VU (.cons VV (.cons VW (.cons Um (.cons (af _ _) (.cons (af _ _) (.cons (af _ _) (.cons (af _ _) (.cons (af _ _) (r))))))))))))))))
theorem Rm {l:List Ty}(r:bE prog 32 l):bE prog 16 (unkTy::unkTy::unkTy::unkTy::ty20::unkTy::ty22::ty23::unkTy::ty25::ty26::unkTy::ty28::unkTy::unkTy::unkTy::l):=
 .cons (af _ _) (.cons (af _ _) (.cons (af _ _) (.cons (af _ _) (.cons Un (.cons (af _ _) (.cons Uo (.cons Up (.cons (af _ _) (.cons Uq (.cons Ur (.cons (af _ _) (.cons Us (.cons (af _ _) (.cons (af _ _) (.cons (af _ _) (r))))))))))))))))
theorem Rn {l:List Ty}(r:bE prog 48 l):bE prog 32 (ty32::ty33::unkTy::ty35::unkTy::ty37::unkTy::unkTy::unkTy::unkTy::unkTy::unkTy::unkTy::unkTy::ty46::unkTy::l):=
 .cons Ut (.cons Uu (.cons (af _ _) (.cons Uv (.cons (af _ _) (.cons Uw (.cons (af _ _) (.cons (af _ _) (.cons (af _ _) (.cons (af _ _) (.cons (af _ _) (.cons (af _ _) (.cons (af _ _) (.cons (af _ _) (.cons Ux (.cons (af _ _) (r))))))))))))))))
theorem Ro {l:List Ty}(r:bE prog 64 l):bE prog 48 (ty48::ty49::unkTy::ty51::unkTy::unkTy::unkTy::unkTy::unkTy::unkTy::unkTy::unkTy::unkTy::unkTy::unkTy::unkTy::l):=
 .cons Uy (.cons Uz (.cons (af _ _) (.cons UA (.cons (af _ _) (.cons (af _ _) (.cons (af _ _) (.cons (af _ _) (.cons (af _ _) (.cons (af _ _) (.cons (af _ _) (.cons (af _ _) (.cons (af _ _) (.cons (af _ _) (.cons (af _ _) (.cons (af _ _) (r))))))))))))))))
theorem Rp {l:List Ty}(r:bE prog 80 l):bE prog 64 (unkTy::unkTy::unkTy::unkTy::unkTy::unkTy::unkTy::unkTy::unkTy::unkTy::ty74::unkTy::unkTy::unkTy::unkTy::unkTy::l):=
 .cons (af _ _) (.cons (af _ _) (.cons (af _ _) (.cons (af _ _) (.cons (af _ _) (.cons (af _ _) (.cons (af _ _) (.cons (af _ _) (.cons (af _ _) (.cons (af _ _) (.cons UB (.cons (af _ _) (.cons (af _ _) (.cons (af _ _) (.cons (af _ _) (.cons (af _ _) (r))))))))))))))))
theorem Rq {l:List Ty}(r:bE prog 96 l):bE prog 80 (ty80::unkTy::ty82::unkTy::unkTy::unkTy::ty86::ty87::unkTy::ty89::unkTy::ty91::unkTy::unkTy::unkTy::unkTy::l):=
 .cons UC (.cons (af _ _) (.cons UD (.cons (af _ _) (.cons (af _ _) (.cons (af _ _) (.cons UE (.cons UF (.cons (af _ _) (.cons UG (.cons (af _ _) (.cons UH (.cons (af _ _) (.cons (af _ _) (.cons (af _ _) (.cons (af _ _) (r))))))))))))))))
theorem Rr {l:List Ty}(r:bE prog 112 l):bE prog 96 (unkTy::unkTy::unkTy::unkTy::unkTy::ty101::unkTy::ty103::unkTy::unkTy::unkTy::unkTy::unkTy::unkTy::unkTy::unkTy::l):=
 .cons (af _ _) (.cons (af _ _) (.cons (af _ _) (.cons (af _ _) (.cons (af _ _) (.cons QF (.cons (af _ _) (.cons QG (.cons (af _ _) (.cons (af _ _) (.cons (af _ _) (.cons (af _ _) (.cons (af _ _) (.cons (af _ _) (.cons (af _ _) (.cons (af _ _) (r))))))))))))))))
theorem OV {l:List Ty}(r:bE prog 128 l):bE prog 112 (unkTy::unkTy::unkTy::unkTy::unkTy::unkTy::ty118::unkTy::unkTy::ty121::unkTy::ty123::unkTy::ty125::unkTy::ty127::l):=
 .cons (af _ _) (.cons (af _ _) (.cons (af _ _) (.cons (af _ _) (.cons (af _ _) (.cons (af _ _) (.cons QH (.cons (af _ _) (.cons (af _ _) (.cons QI (.cons (af _ _) (.cons QJ (.cons (af _ _) (.cons QK (.cons (af _ _) (.cons QL (r))))))))))))))))
theorem OW {l:List Ty}(r:bE prog 144 l):bE prog 128 (unkTy::unkTy::unkTy::unkTy::unkTy::unkTy::unkTy::unkTy::unkTy::unkTy::ty138::unkTy::unkTy::unkTy::unkTy::unkTy::l):=
 .cons (af _ _) (.cons (af _ _) (.cons (af _ _) (.cons (af _ _) (.cons (af _ _) (.cons (af _ _) (.cons (af _ _) (.cons (af _ _) (.cons (af _ _) (.cons (af _ _) (.cons QM (.cons (af _ _) (.cons (af _ _) (.cons (af _ _) (.cons (af _ _) (.cons (af _ _) (r))))))))))))))))
theorem OX {l:List Ty}(r:bE prog 160 l):bE prog 144 (unkTy::unkTy::unkTy::ty147::unkTy::unkTy::unkTy::unkTy::unkTy::ty153::unkTy::unkTy::ty156::ty157::unkTy::unkTy::l):=
 .cons (af _ _) (.cons (af _ _) (.cons (af _ _) (.cons QN (.cons (af _ _) (.cons (af _ _) (.cons (af _ _) (.cons (af _ _) (.cons (af _ _) (.cons QO (.cons (af _ _) (.cons (af _ _) (.cons QP (.cons QQ (.cons (af _ _) (.cons (af _ _) (r))))))))))))))))
theorem OY {l:List Ty}(r:bE prog 176 l):bE prog 160 (unkTy::unkTy::unkTy::unkTy::ty164::unkTy::unkTy::unkTy::unkTy::unkTy::unkTy::ty171::ty172::unkTy::unkTy::ty175::l):=
 .cons (af _ _) (.cons (af _ _) (.cons (af _ _) (.cons (af _ _) (.cons QR (.cons (af _ _) (.cons (af _ _) (.cons (af _ _) (.cons (af _ _) (.cons (af _ _) (.cons (af _ _) (.cons QS (.cons QT (.cons (af _ _) (.cons (af _ _) (.cons QU (r))))))))))))))))
theorem OZ {l:List Ty}(r:bE prog 192 l):bE prog 176 (unkTy::unkTy::unkTy::unkTy::unkTy::unkTy::unkTy::unkTy::ty184::unkTy::unkTy::unkTy::unkTy::unkTy::unkTy::unkTy::l):=
 .cons (af _ _) (.cons (af _ _) (.cons (af _ _) (.cons (af _ _) (.cons (af _ _) (.cons (af _ _) (.cons (af _ _) (.cons (af _ _) (.cons QV (.cons (af _ _) (.cons (af _ _) (.cons (af _ _) (.cons (af _ _) (.cons (af _ _) (.cons (af _ _) (.cons (af _ _) (r))))))))))))))))
theorem Pa {l:List Ty}(r:bE prog 208 l):bE prog 192 (ty192::ty193::unkTy::unkTy::unkTy::ty197::unkTy::unkTy::unkTy::unkTy::unkTy::unkTy::unkTy::unkTy::unkTy::unkTy::l):=
 .cons QW (.cons QX (.cons (af _ _) (.cons (af _ _) (.cons (af _ _) (.cons QY (.cons (af _ _) (.cons (af _ _) (.cons (af _ _) (.cons (af _ _) (.cons (af _ _) (.cons (af _ _) (.cons (af _ _) (.cons (af _ _) (.cons (af _ _) (.cons (af _ _) (r))))))))))))))))
theorem Pb {l:List Ty}(r:bE prog 224 l):bE prog 208 (unkTy::unkTy::unkTy::ty211::unkTy::unkTy::unkTy::ty215::unkTy::unkTy::unkTy::unkTy::ty220::unkTy::unkTy::unkTy::l):=
 .cons (af _ _) (.cons (af _ _) (.cons (af _ _) (.cons QZ (.cons (af _ _) (.cons (af _ _) (.cons (af _ _) (.cons Ra (.cons (af _ _) (.cons (af _ _) (.cons (af _ _) (.cons (af _ _) (.cons Rb (.cons (af _ _) (.cons (af _ _) (.cons (af _ _) (r))))))))))))))))
theorem Pc {l:List Ty}(r:bE prog 240 l):bE prog 224 (ty224::unkTy::ty226::unkTy::unkTy::unkTy::unkTy::unkTy::unkTy::unkTy::unkTy::unkTy::unkTy::ty237::unkTy::unkTy::l):=
 .cons Rc (.cons (af _ _) (.cons Rd (.cons (af _ _) (.cons (af _ _) (.cons (af _ _) (.cons (af _ _) (.cons (af _ _) (.cons (af _ _) (.cons (af _ _) (.cons (af _ _) (.cons (af _ _) (.cons (af _ _) (.cons Re (.cons (af _ _) (.cons (af _ _) (r))))))))))))))))
theorem Pd {l:List Ty}(r:bE prog 256 l):bE prog 240 (ty240::unkTy::ty242::unkTy::unkTy::unkTy::ty246::unkTy::unkTy::unkTy::unkTy::unkTy::unkTy::unkTy::unkTy::unkTy::l):=
 .cons Rf (.cons (af _ _) (.cons Rg (.cons (af _ _) (.cons (af _ _) (.cons (af _ _) (.cons Rh (.cons (af _ _) (.cons (af _ _) (.cons (af _ _) (.cons (af _ _) (.cons (af _ _) (.cons (af _ _) (.cons (af _ _) (.cons (af _ _) (.cons (af _ _) (r))))))))))))))))
theorem Pe {l:List Ty}(r:bE prog 272 l):bE prog 256 (unkTy::unkTy::unkTy::unkTy::unkTy::unkTy::unkTy::unkTy::unkTy::unkTy::unkTy::unkTy::ty268::unkTy::unkTy::ty271::l):=
 .cons (af _ _) (.cons (af _ _) (.cons (af _ _) (.cons (af _ _) (.cons (af _ _) (.cons (af _ _) (.cons (af _ _) (.cons (af _ _) (.cons (af _ _) (.cons (af _ _) (.cons (af _ _) (.cons (af _ _) (.cons Ri (.cons (af _ _) (.cons (af _ _) (.cons Rj (r))))))))))))))))
theorem Pf {l:List Ty}(r:bE prog 288 l):bE prog 272 (unkTy::unkTy::unkTy::unkTy::unkTy::ty277::unkTy::unkTy::unkTy::unkTy::unkTy::unkTy::unkTy::unkTy::unkTy::unkTy::l):=
 .cons (af _ _) (.cons (af _ _) (.cons (af _ _) (.cons (af _ _) (.cons (af _ _) (.cons Rk (.cons (af _ _) (.cons (af _ _) (.cons (af _ _) (.cons (af _ _) (.cons (af _ _) (.cons (af _ _) (.cons (af _ _) (.cons (af _ _) (.cons (af _ _) (.cons (af _ _) (r))))))))))))))))
theorem Pg {l:List Ty}(r:bE prog 296 l):bE prog 288 (unkTy::unkTy::unkTy::unkTy::unkTy::unkTy::unkTy::ty295::l):=
 .cons (af _ _) (.cons (af _ _) (.cons (af _ _) (.cons (af _ _) (.cons (af _ _) (.cons (af _ _) (.cons (af _ _) (.cons Rl (r))))))))
theorem hT (t:Nat):TyOk prog t (T t):=by
 have h:bE prog 0 tys:=UI (Rm (Rn (Ro (Rp (Rq (Rr (OV (OW (OX (OY (OZ (Pa (Pb (Pc (Pd (Pe (Pf (Pg (.nil _)))))))))))))))))))
 have:=h.get t
 rw[Nat.zero_add]at this
 exact this
section
open TK
@[simp,go_sem] theorem Tk1:(T 1).kind=.other:=rfl
@[simp,go_sem] theorem Ts1:(T 1).size=1:=rfl
@[simp,go_sem] theorem Tb1:(T 1).bytes=8:=rfl
@[simp,go_sem] theorem Tz1:(T 1).zero=[Go.Value.nilFunc]:=rfl
@[simp,go_sem] theorem Tk2:(T 2).kind=.int .i64:=rfl
@[simp,go_sem] theorem Ts2:(T 2).size=1:=rfl
@[simp,go_sem] theorem Tb2:(T 2).bytes=8:=rfl
@[simp,go_sem] theorem Tz2:(T 2).zero=[Go.Value.int Go.IntKind.i64 0]:=rfl
@[simp,go_sem] theorem Tk3:(T 3).kind=.int .i64:=rfl
@[simp,go_sem] theorem Ts3:(T 3).size=1:=rfl
@[simp,go_sem] theorem Tb3:(T 3).bytes=8:=rfl
@[simp,go_sem] theorem Tz3:(T 3).zero=[Go.Value.int Go.IntKind.i64 0]:=rfl
@[simp,go_sem] theorem Tk4:(T 4).kind=.bool:=rfl
@[simp,go_sem] theorem Ts4:(T 4).size=1:=rfl
@[simp,go_sem] theorem Tb4:(T 4).bytes=1:=rfl
@[simp,go_sem] theorem Tz4:(T 4).zero=[Go.Value.bool false]:=rfl
@[simp,go_sem] theorem Tk5:(T 5).kind=.int .u8:=rfl
@[simp,go_sem] theorem Ts5:(T 5).size=1:=rfl
@[simp,go_sem] theorem Tb5:(T 5).bytes=1:=rfl
@[simp,go_sem] theorem Tz5:(T 5).zero=[Go.Value.int Go.IntKind.u8 0]:=rfl
@[simp,go_sem] theorem Tk6:(T 6).kind=.int .u8:=rfl
@[simp,go_sem] theorem Ts6:(T 6).size=1:=rfl
@[simp,go_sem] theorem Tb6:(T 6).bytes=1:=rfl
@[simp,go_sem] theorem Tz6:(T 6).zero=[Go.Value.int Go.IntKind.u8 0]:=rfl
@[simp,go_sem] theorem Tk7:(T 7).kind=.struct [(0,2),(1,3),(2,4),(3,6)]:=rfl
@[simp,go_sem] theorem Ts7:(T 7).size=4:=rfl
@[simp,go_sem] theorem Tb7:(T 7).bytes=24:=rfl
@[simp,go_sem] theorem Tz7:(T 7).zero=[Go.Value.int Go.IntKind.i64 0,Go.Value.int Go.IntKind.i64 0,Go.Value.bool false,Go.Value.int Go.IntKind.u8 0]:=rfl
@[simp,go_sem] theorem Tk8:(T 8).kind=.struct [(0,2),(1,3),(2,4),(3,6)]:=rfl
@[simp,go_sem] theorem Ts8:(T 8).size=4:=rfl
@[simp,go_sem] theorem Tb8:(T 8).bytes=24:=rfl
@[simp,go_sem] theorem Tz8:(T 8).zero=[Go.Value.int Go.IntKind.i64 0,Go.Value.int Go.IntKind.i64 0,Go.Value.bool false,Go.Value.int Go.IntKind.u8 0]:=rfl
@[simp,go_sem] theorem Tk9:(T 9).kind=.str:=rfl
@[simp,go_sem] theorem Ts9:(T 9).size=1:=rfl
@[simp,go_sem] theorem Tb9:(T 9).bytes=16:=rfl
@[simp,go_sem] theorem Tz9:(T 9).zero=[Go.Value.string { data:=#[] }]:=rfl
@[simp,go_sem] theorem Tk10:(T 10).kind=.str:=rfl
@[simp,go_sem] theorem Ts10:(T 10).size=1:=rfl
@[simp,go_sem] theorem Tb10:(T 10).bytes=16:=rfl
@[simp,go_sem] theorem Tz10:(T 10).zero=[Go.Value.string { data:=#[] }]:=rfl
@[simp,go_sem] theorem Tk20:(T 20).kind=.other:=rfl
@[simp,go_sem] theorem Ts20:(T 20).size=1:=rfl
@[simp,go_sem] theorem Tb20:(T 20).bytes=16:=rfl
@[simp,go_sem] theorem Tz20:(T 20).zero=[Go.Value.nilIface]:=rfl
@[simp,go_sem] theorem Tk22:(T 22).kind=.slice 171:=rfl
@[simp,go_sem] theorem Ts22:(T 22).size=1:=rfl
@[simp,go_sem] theorem Tb22:(T 22).bytes=24:=rfl
@[simp,go_sem] theorem Tz22:(T 22).zero=[Go.Value.slice none 0 0]:=rfl
@[simp,go_sem] theorem Tk23:(T 23).kind=.slice 184:=rfl
@[simp,go_sem] theorem Ts23:(T 23).size=1:=rfl
@[simp,go_sem] theorem Tb23:(T 23).bytes=24:=rfl
@[simp,go_sem] theorem Tz23:(T 23).zero=[Go.Value.slice none 0 0]:=rfl
@[simp,go_sem] theorem Tk25:(T 25).kind=.struct [(0,22),(1,23),(2,3)]:=rfl
@[simp,go_sem] theorem Ts25:(T 25).size=3:=rfl
@[simp,go_sem] theorem Tb25:(T 25).bytes=56:=rfl
@[simp,go_sem] theorem Tz25:(T 25).zero=[Go.Value.slice none 0 0,Go.Value.slice none 0 0,Go.Value.int Go.IntKind.i64 0]:=rfl
@[simp,go_sem] theorem Tk26:(T 26).kind=.slice 3:=rfl
@[simp,go_sem] theorem Ts26:(T 26).size=1:=rfl
@[simp,go_sem] theorem Tb26:(T 26).bytes=24:=rfl
@[simp,go_sem] theorem Tz26:(T 26).zero=[Go.Value.slice none 0 0]:=rfl
@[simp,go_sem] theorem Tk28:(T 28).kind=.struct [(0,26),(1,26)]:=rfl
@[simp,go_sem] theorem Ts28:(T 28).size=2:=rfl
@[simp,go_sem] theorem Tb28:(T 28).bytes=48:=rfl
@[simp,go_sem] theorem Tz28:(T 28).zero=[Go.Value.slice none 0 0,Go.Value.slice none 0 0]:=rfl
@[simp,go_sem] theorem Tk32:(T 32).kind=.slice 156:=rfl
@[simp,go_sem] theorem Ts32:(T 32).size=1:=rfl
@[simp,go_sem] theorem Tb32:(T 32).bytes=24:=rfl
@[simp,go_sem] theorem Tz32:(T 32).zero=[Go.Value.slice none 0 0]:=rfl
@[simp,go_sem] theorem Tk33:(T 33).kind=.slice 86:=rfl
@[simp,go_sem] theorem Ts33:(T 33).size=1:=rfl
@[simp,go_sem] theorem Tb33:(T 33).bytes=24:=rfl
@[simp,go_sem] theorem Tz33:(T 33).zero=[Go.Value.slice none 0 0]:=rfl
@[simp,go_sem] theorem Tk35:(T 35).kind=.struct [(0,32),(1,33),(2,3)]:=rfl
@[simp,go_sem] theorem Ts35:(T 35).size=3:=rfl
@[simp,go_sem] theorem Tb35:(T 35).bytes=56:=rfl
@[simp,go_sem] theorem Tz35:(T 35).zero=[Go.Value.slice none 0 0,Go.Value.slice none 0 0,Go.Value.int Go.IntKind.i64 0]:=rfl
@[simp,go_sem] theorem Tk37:(T 37).kind=.struct [(0,26),(1,26)]:=rfl
@[simp,go_sem] theorem Ts37:(T 37).size=2:=rfl
@[simp,go_sem] theorem Tb37:(T 37).bytes=48:=rfl
@[simp,go_sem] theorem Tz37:(T 37).zero=[Go.Value.slice none 0 0,Go.Value.slice none 0 0]:=rfl
@[simp,go_sem] theorem Tk46:(T 46).kind=.slice 5:=rfl
@[simp,go_sem] theorem Ts46:(T 46).size=1:=rfl
@[simp,go_sem] theorem Tb46:(T 46).bytes=24:=rfl
@[simp,go_sem] theorem Tz46:(T 46).zero=[Go.Value.slice none 0 0]:=rfl
@[simp,go_sem] theorem Tk48:(T 48).kind=.struct [(0,3),(1,26),(2,26)]:=rfl
@[simp,go_sem] theorem Ts48:(T 48).size=3:=rfl
@[simp,go_sem] theorem Tb48:(T 48).bytes=56:=rfl
@[simp,go_sem] theorem Tz48:(T 48).zero=[Go.Value.int Go.IntKind.i64 0,Go.Value.slice none 0 0,Go.Value.slice none 0 0]:=rfl
@[simp,go_sem] theorem Tk49:(T 49).kind=.slice 125:=rfl
@[simp,go_sem] theorem Ts49:(T 49).size=1:=rfl
@[simp,go_sem] theorem Tb49:(T 49).bytes=24:=rfl
@[simp,go_sem] theorem Tz49:(T 49).zero=[Go.Value.slice none 0 0]:=rfl
@[simp,go_sem] theorem Tk51:(T 51).kind=.struct [(0,35),(3,48),(6,4),(7,49)]:=rfl
@[simp,go_sem] theorem Ts51:(T 51).size=8:=rfl
@[simp,go_sem] theorem Tb51:(T 51).bytes=144:=rfl
@[simp,go_sem] theorem Tz51:(T 51).zero=[Go.Value.slice none 0 0,Go.Value.slice none 0 0,Go.Value.int Go.IntKind.i64 0,Go.Value.int Go.IntKind.i64 0,Go.Value.slice none 0 0,Go.Value.slice none 0 0,Go.Value.bool false,Go.Value.slice none 0 0]:=rfl
@[simp,go_sem] theorem Tk74:(T 74).kind=.slice 80:=rfl
@[simp,go_sem] theorem Ts74:(T 74).size=1:=rfl
@[simp,go_sem] theorem Tb74:(T 74).bytes=24:=rfl
@[simp,go_sem] theorem Tz74:(T 74).zero=[Go.Value.slice none 0 0]:=rfl
@[simp,go_sem] theorem Tk80:(T 80).kind=.struct [(0,3),(1,3)]:=rfl
@[simp,go_sem] theorem Ts80:(T 80).size=2:=rfl
@[simp,go_sem] theorem Tb80:(T 80).bytes=16:=rfl
@[simp,go_sem] theorem Tz80:(T 80).zero=[Go.Value.int Go.IntKind.i64 0,Go.Value.int Go.IntKind.i64 0]:=rfl
@[simp,go_sem] theorem Te80:(T 80).eqs=some [(0,3),(1,3)]:=rfl
@[simp,go_sem] theorem Tk82:(T 82).kind=.struct [(0,3),(1,3)]:=rfl
@[simp,go_sem] theorem Ts82:(T 82).size=2:=rfl
@[simp,go_sem] theorem Tb82:(T 82).bytes=16:=rfl
@[simp,go_sem] theorem Tz82:(T 82).zero=[Go.Value.int Go.IntKind.i64 0,Go.Value.int Go.IntKind.i64 0]:=rfl
@[simp,go_sem] theorem Te82:(T 82).eqs=some [(0,3),(1,3)]:=rfl
@[simp,go_sem] theorem Tk86:(T 86).kind=.struct [(0,3),(1,3),(2,3),(3,3),(4,4)]:=rfl
@[simp,go_sem] theorem Ts86:(T 86).size=5:=rfl
@[simp,go_sem] theorem Tb86:(T 86).bytes=40:=rfl
@[simp,go_sem] theorem Tz86:(T 86).zero=[Go.Value.int Go.IntKind.i64 0,Go.Value.int Go.IntKind.i64 0,Go.Value.int Go.IntKind.i64 0,Go.Value.int Go.IntKind.i64 0,Go.Value.bool false]:=rfl
@[simp,go_sem] theorem Te86:(T 86).eqs=some [(0,3),(1,3),(2,3),(3,3),(4,4)]:=rfl
@[simp,go_sem] theorem Tk87:(T 87).kind=.slice 9:=rfl
@[simp,go_sem] theorem Ts87:(T 87).size=1:=rfl
@[simp,go_sem] theorem Tb87:(T 87).bytes=24:=rfl
@[simp,go_sem] theorem Tz87:(T 87).zero=[Go.Value.slice none 0 0]:=rfl
@[simp,go_sem] theorem Tk89:(T 89).kind=.slice 164:=rfl
@[simp,go_sem] theorem Ts89:(T 89).size=1:=rfl
@[simp,go_sem] theorem Tb89:(T 89).bytes=24:=rfl
@[simp,go_sem] theorem Tz89:(T 89).zero=[Go.Value.slice none 0 0]:=rfl
@[simp,go_sem] theorem Tk91:(T 91).kind=.struct [(0,89),(1,26),(2,3)]:=rfl
@[simp,go_sem] theorem Ts91:(T 91).size=3:=rfl
@[simp,go_sem] theorem Tb91:(T 91).bytes=56:=rfl
@[simp,go_sem] theorem Tz91:(T 91).zero=[Go.Value.slice none 0 0,Go.Value.slice none 0 0,Go.Value.int Go.IntKind.i64 0]:=rfl
@[simp,go_sem] theorem acI:(T 101).kind=.slice 175:=rfl
@[simp,go_sem] theorem acJ:(T 101).size=1:=rfl
@[simp,go_sem] theorem acK:(T 101).bytes=24:=rfl
@[simp,go_sem] theorem acL:(T 101).zero=[Go.Value.slice none 0 0]:=rfl
@[simp,go_sem] theorem acM:(T 103).kind=.struct [(0,3),(1,101)]:=rfl
@[simp,go_sem] theorem acN:(T 103).size=2:=rfl
@[simp,go_sem] theorem acO:(T 103).bytes=32:=rfl
@[simp,go_sem] theorem acP:(T 103).zero=[Go.Value.int Go.IntKind.i64 0,Go.Value.slice none 0 0]:=rfl
@[simp,go_sem] theorem acQ:(T 118).kind=.other:=rfl
@[simp,go_sem] theorem acR:(T 118).size=1:=rfl
@[simp,go_sem] theorem acS:(T 118).bytes=8:=rfl
@[simp,go_sem] theorem acT:(T 118).zero=[Go.Value.pointer none]:=rfl
@[simp,go_sem] theorem acU:(T 121).kind=.other:=rfl
@[simp,go_sem] theorem acV:(T 121).size=1:=rfl
@[simp,go_sem] theorem acW:(T 121).bytes=8:=rfl
@[simp,go_sem] theorem acX:(T 121).zero=[Go.Value.pointer none]:=rfl
@[simp,go_sem] theorem acY:(T 123).kind=.struct [(0,121),(1,46)]:=rfl
@[simp,go_sem] theorem acZ:(T 123).size=2:=rfl
@[simp,go_sem] theorem ada:(T 123).bytes=32:=rfl
@[simp,go_sem] theorem adb:(T 123).zero=[Go.Value.pointer none,Go.Value.slice none 0 0]:=rfl
@[simp,go_sem] theorem adc:(T 125).kind=.struct [(0,3),(1,26),(2,26),(3,26)]:=rfl
@[simp,go_sem] theorem ade:(T 125).size=4:=rfl
@[simp,go_sem] theorem adf:(T 125).bytes=80:=rfl
@[simp,go_sem] theorem adg:(T 125).zero=[Go.Value.int Go.IntKind.i64 0,Go.Value.slice none 0 0,Go.Value.slice none 0 0,Go.Value.slice none 0 0]:=rfl
@[simp,go_sem] theorem adh:(T 127).kind=.other:=rfl
@[simp,go_sem] theorem adi:(T 127).size=1:=rfl
@[simp,go_sem] theorem adj:(T 127).bytes=16:=rfl
@[simp,go_sem] theorem adk:(T 127).zero=[Go.Value.nilIface]:=rfl
@[simp,go_sem] theorem adl:(T 138).kind=.other:=rfl
@[simp,go_sem] theorem adm:(T 138).size=1:=rfl
@[simp,go_sem] theorem adn:(T 138).bytes=8:=rfl
@[simp,go_sem] theorem ado:(T 138).zero=[Go.Value.nilFunc]:=rfl
@[simp,go_sem] theorem adp:(T 147).kind=.other:=rfl
@[simp,go_sem] theorem adq:(T 147).size=1:=rfl
@[simp,go_sem] theorem adr:(T 147).bytes=8:=rfl
@[simp,go_sem] theorem ads:(T 147).zero=[Go.Value.pointer none]:=rfl
@[simp,go_sem] theorem adt:(T 153).kind=.other:=rfl
@[simp,go_sem] theorem adu:(T 153).size=1:=rfl
@[simp,go_sem] theorem adv:(T 153).bytes=8:=rfl
@[simp,go_sem] theorem adw:(T 153).zero=[Go.Value.nilFunc]:=rfl
@[simp,go_sem] theorem adx:(T 156).kind=.struct [(0,9),(1,26),(2,3)]:=rfl
@[simp,go_sem] theorem ady:(T 156).size=3:=rfl
@[simp,go_sem] theorem adz:(T 156).bytes=48:=rfl
@[simp,go_sem] theorem adA:(T 156).zero=[Go.Value.string { data:=#[] },Go.Value.slice none 0 0,Go.Value.int Go.IntKind.i64 0]:=rfl
@[simp,go_sem] theorem adB:(T 157).kind=.other:=rfl
@[simp,go_sem] theorem adC:(T 157).size=1:=rfl
@[simp,go_sem] theorem adD:(T 157).bytes=8:=rfl
@[simp,go_sem] theorem adE:(T 157).zero=[Go.Value.nilFunc]:=rfl
@[simp,go_sem] theorem adF:(T 164).kind=.struct [(0,9),(1,3),(2,4),(3,3),(4,3),(5,3),(6,3),(7,4),(8,3),(9,3),(10,3)]:=rfl
@[simp,go_sem] theorem adG:(T 164).size=11:=rfl
@[simp,go_sem] theorem adH:(T 164).bytes=96:=rfl
@[simp,go_sem] theorem adI:(T 164).zero=[Go.Value.string { data:=#[] },Go.Value.int Go.IntKind.i64 0,Go.Value.bool false,Go.Value.int Go.IntKind.i64 0,Go.Value.int Go.IntKind.i64 0,Go.Value.int Go.IntKind.i64 0,Go.Value.int Go.IntKind.i64 0,Go.Value.bool false,Go.Value.int Go.IntKind.i64 0,Go.Value.int Go.IntKind.i64 0,Go.Value.int Go.IntKind.i64 0]:=rfl
@[simp,go_sem] theorem adJ:(T 164).eqs=some [(0,9),(1,3),(2,4),(3,3),(4,3),(5,3),(6,3),(7,4),(8,3),(9,3),(10,3)]:=rfl
@[simp,go_sem] theorem adK:(T 171).kind=.struct [(0,9),(1,26),(2,3)]:=rfl
@[simp,go_sem] theorem adL:(T 171).size=3:=rfl
@[simp,go_sem] theorem adM:(T 171).bytes=48:=rfl
@[simp,go_sem] theorem adN:(T 171).zero=[Go.Value.string { data:=#[] },Go.Value.slice none 0 0,Go.Value.int Go.IntKind.i64 0]:=rfl
@[simp,go_sem] theorem adO:(T 172).kind=.slice 4:=rfl
@[simp,go_sem] theorem adP:(T 172).size=1:=rfl
@[simp,go_sem] theorem adQ:(T 172).bytes=24:=rfl
@[simp,go_sem] theorem adR:(T 172).zero=[Go.Value.slice none 0 0]:=rfl
@[simp,go_sem] theorem adS:(T 175).kind=.struct [(0,3),(1,3),(2,82)]:=rfl
@[simp,go_sem] theorem adT:(T 175).size=4:=rfl
@[simp,go_sem] theorem adU:(T 175).bytes=32:=rfl
@[simp,go_sem] theorem adV:(T 175).zero=[Go.Value.int Go.IntKind.i64 0,Go.Value.int Go.IntKind.i64 0,Go.Value.int Go.IntKind.i64 0,Go.Value.int Go.IntKind.i64 0]:=rfl
@[simp,go_sem] theorem adW:(T 184).kind=.struct [(0,3),(1,3),(2,3),(3,3),(4,4)]:=rfl
@[simp,go_sem] theorem adX:(T 184).size=5:=rfl
@[simp,go_sem] theorem adY:(T 184).bytes=40:=rfl
@[simp,go_sem] theorem adZ:(T 184).zero=[Go.Value.int Go.IntKind.i64 0,Go.Value.int Go.IntKind.i64 0,Go.Value.int Go.IntKind.i64 0,Go.Value.int Go.IntKind.i64 0,Go.Value.bool false]:=rfl
@[simp,go_sem] theorem aea:(T 184).eqs=some [(0,3),(1,3),(2,3),(3,3),(4,4)]:=rfl
@[simp,go_sem] theorem aeb:(T 192).kind=.other:=rfl
@[simp,go_sem] theorem aec:(T 192).size=1:=rfl
@[simp,go_sem] theorem aed:(T 192).bytes=8:=rfl
@[simp,go_sem] theorem aee:(T 192).zero=[Go.Value.nilFunc]:=rfl
@[simp,go_sem] theorem aef:(T 193).kind=.slice 26:=rfl
@[simp,go_sem] theorem aeg:(T 193).size=1:=rfl
@[simp,go_sem] theorem aeh:(T 193).bytes=24:=rfl
@[simp,go_sem] theorem aei:(T 193).zero=[Go.Value.slice none 0 0]:=rfl
@[simp,go_sem] theorem aej:(T 197).kind=.struct [(0,46),(1,3),(2,3)]:=rfl
@[simp,go_sem] theorem aek:(T 197).size=3:=rfl
@[simp,go_sem] theorem ael:(T 197).bytes=40:=rfl
@[simp,go_sem] theorem aem:(T 197).zero=[Go.Value.slice none 0 0,Go.Value.int Go.IntKind.i64 0,Go.Value.int Go.IntKind.i64 0]:=rfl
@[simp,go_sem] theorem aen:(T 211).kind=.other:=rfl
@[simp,go_sem] theorem aeo:(T 211).size=1:=rfl
@[simp,go_sem] theorem aep:(T 211).bytes=8:=rfl
@[simp,go_sem] theorem aeq:(T 211).zero=[Go.Value.nilFunc]:=rfl
@[simp,go_sem] theorem aer:(T 215).kind=.other:=rfl
@[simp,go_sem] theorem aes:(T 215).size=1:=rfl
@[simp,go_sem] theorem aet:(T 215).bytes=8:=rfl
@[simp,go_sem] theorem aeu:(T 215).zero=[Go.Value.nilFunc]:=rfl
@[simp,go_sem] theorem aev:(T 220).kind=.int .u64:=rfl
@[simp,go_sem] theorem aew:(T 220).size=1:=rfl
@[simp,go_sem] theorem aex:(T 220).bytes=8:=rfl
@[simp,go_sem] theorem aey:(T 220).zero=[Go.Value.int Go.IntKind.u64 0]:=rfl
@[simp,go_sem] theorem aez:(T 224).kind=.map 9 4:=rfl
@[simp,go_sem] theorem aeA:(T 224).size=1:=rfl
@[simp,go_sem] theorem aeB:(T 224).bytes=8:=rfl
@[simp,go_sem] theorem aeC:(T 224).zero=[Go.Value.map none]:=rfl
@[simp,go_sem] theorem aeD:(T 226).kind=.struct [(0,35),(3,224)]:=rfl
@[simp,go_sem] theorem aeE:(T 226).size=4:=rfl
@[simp,go_sem] theorem aeF:(T 226).bytes=64:=rfl
@[simp,go_sem] theorem aeG:(T 226).zero=[Go.Value.slice none 0 0,Go.Value.slice none 0 0,Go.Value.int Go.IntKind.i64 0,Go.Value.map none]:=rfl
@[simp,go_sem] theorem aeH:(T 237).kind=.other:=rfl
@[simp,go_sem] theorem aeI:(T 237).size=1:=rfl
@[simp,go_sem] theorem aeJ:(T 237).bytes=8:=rfl
@[simp,go_sem] theorem aeK:(T 237).zero=[Go.Value.nilFunc]:=rfl
@[simp,go_sem] theorem aeL:(T 240).kind=.other:=rfl
@[simp,go_sem] theorem aeM:(T 240).size=1:=rfl
@[simp,go_sem] theorem aeN:(T 240).bytes=8:=rfl
@[simp,go_sem] theorem aeO:(T 240).zero=[Go.Value.nilFunc]:=rfl
@[simp,go_sem] theorem aeP:(T 242).kind=.other:=rfl
@[simp,go_sem] theorem aeQ:(T 242).size=1:=rfl
@[simp,go_sem] theorem aeR:(T 242).bytes=8:=rfl
@[simp,go_sem] theorem aeS:(T 242).zero=[Go.Value.nilFunc]:=rfl
@[simp,go_sem] theorem aeT:(T 246).kind=.other:=rfl
@[simp,go_sem] theorem aeU:(T 246).size=1:=rfl
@[simp,go_sem] theorem aeV:(T 246).bytes=8:=rfl
@[simp,go_sem] theorem aeW:(T 246).zero=[Go.Value.nilFunc]:=rfl
@[simp,go_sem] theorem aeX:(T 268).kind=.int .u32:=rfl
@[simp,go_sem] theorem aeY:(T 268).size=1:=rfl
@[simp,go_sem] theorem aeZ:(T 268).bytes=4:=rfl
@[simp,go_sem] theorem afa:(T 268).zero=[Go.Value.int Go.IntKind.u32 0]:=rfl
@[simp,go_sem] theorem afb:(T 271).kind=.int .u64:=rfl
@[simp,go_sem] theorem afc:(T 271).size=1:=rfl
@[simp,go_sem] theorem afd:(T 271).bytes=8:=rfl
@[simp,go_sem] theorem afe:(T 271).zero=[Go.Value.int Go.IntKind.u64 0]:=rfl
@[simp,go_sem] theorem aff:(T 277).kind=.other:=rfl
@[simp,go_sem] theorem afg:(T 277).size=1:=rfl
@[simp,go_sem] theorem afh:(T 277).bytes=8:=rfl
@[simp,go_sem] theorem afi:(T 277).zero=[Go.Value.nilFunc]:=rfl
@[simp,go_sem] theorem afj:(T 295).kind=.int .i64:=rfl
@[simp,go_sem] theorem afk:(T 295).size=1:=rfl
@[simp,go_sem] theorem afl:(T 295).bytes=8:=rfl
@[simp,go_sem] theorem afm:(T 295).zero=[Go.Value.int Go.IntKind.i64 0]:=rfl
end
end Go.Proofs.Qc
