/- The types of the seat,and that they fit. Made by gentypes.py. -/
import Derived.Test.YtpodkllkinpfmaaGreatDoorXi31
import Derived.KernelRfl
import Derived.Test.YtpodkllkinpfmaaGreatDoorProg
set_option linter.all false
namespace Go.Proofs.Qi
open Go Tryz
def unkTy:Ty:=⟨.unknown,0,0,[],none⟩
def ty1:Ty:=⟨.other,1,8,[Go.Value.nilFunc],none⟩
def ty2:Ty:=⟨.int .i64,1,8,[Go.Value.int Go.IntKind.i64 0],none⟩
def ty3:Ty:=⟨.int .i64,1,8,[Go.Value.int Go.IntKind.i64 0],none⟩
def ty4:Ty:=⟨.bool,1,1,[Go.Value.bool false],none⟩
def ty5:Ty:=⟨.int .u8,1,1,[Go.Value.int Go.IntKind.u8 0],none⟩
def ty6:Ty:=⟨.int .u8,1,1,[Go.Value.int Go.IntKind.u8 0],none⟩
def ty7:Ty:=⟨.struct [(0,2),(1,3),(2,4),(3,6)],4,24,[Go.Value.int Go.IntKind.i64 0,Go.Value.int Go.IntKind.i64 0,Go.Value.bool false,Go.Value.int Go.IntKind.u8 0],none⟩
def ty8:Ty:=⟨.struct [(0,2),(1,3),(2,4),(3,6)],4,24,[Go.Value.int Go.IntKind.i64 0,Go.Value.int Go.IntKind.i64 0,Go.Value.bool false,Go.Value.int Go.IntKind.u8 0],none⟩
def ty9:Ty:=⟨.str,1,16,[Go.Value.string { data:=#[] }],none⟩
def ty10:Ty:=⟨.str,1,16,[Go.Value.string { data:=#[] }],none⟩
def ty20:Ty:=⟨.other,1,16,[Go.Value.nilIface],none⟩
def ty22:Ty:=⟨.slice 185,1,24,[Go.Value.slice none 0 0],none⟩
def ty23:Ty:=⟨.slice 205,1,24,[Go.Value.slice none 0 0],none⟩
def ty25:Ty:=⟨.struct [(0,22),(1,23),(2,3)],3,56,[Go.Value.slice none 0 0,Go.Value.slice none 0 0,Go.Value.int Go.IntKind.i64 0],none⟩
def ty26:Ty:=⟨.slice 3,1,24,[Go.Value.slice none 0 0],none⟩
def ty28:Ty:=⟨.struct [(0,26),(1,26)],2,48,[Go.Value.slice none 0 0,Go.Value.slice none 0 0],none⟩
def ty31:Ty:=⟨.slice 9,1,24,[Go.Value.slice none 0 0],none⟩
def ty33:Ty:=⟨.slice 109,1,24,[Go.Value.slice none 0 0],none⟩
def ty34:Ty:=⟨.slice 133,1,24,[Go.Value.slice none 0 0],none⟩
def ty36:Ty:=⟨.struct [(0,33),(1,34),(2,3)],3,56,[Go.Value.slice none 0 0,Go.Value.slice none 0 0,Go.Value.int Go.IntKind.i64 0],none⟩
def ty38:Ty:=⟨.struct [(0,26),(1,26)],2,48,[Go.Value.slice none 0 0,Go.Value.slice none 0 0],none⟩
def ty47:Ty:=⟨.slice 5,1,24,[Go.Value.slice none 0 0],none⟩
def ty60:Ty:=⟨.struct [(0,3),(1,26),(2,26)],3,56,[Go.Value.int Go.IntKind.i64 0,Go.Value.slice none 0 0,Go.Value.slice none 0 0],none⟩
def ty61:Ty:=⟨.slice 147,1,24,[Go.Value.slice none 0 0],none⟩
def ty63:Ty:=⟨.struct [(0,36),(3,60),(6,4),(7,61)],8,144,[Go.Value.slice none 0 0,Go.Value.slice none 0 0,Go.Value.int Go.IntKind.i64 0,Go.Value.int Go.IntKind.i64 0,Go.Value.slice none 0 0,Go.Value.slice none 0 0,Go.Value.bool false,Go.Value.slice none 0 0],none⟩
def ty77:Ty:=⟨.slice 156,1,24,[Go.Value.slice none 0 0],none⟩
def ty79:Ty:=⟨.struct [(0,77),(1,26),(2,3)],3,56,[Go.Value.slice none 0 0,Go.Value.slice none 0 0,Go.Value.int Go.IntKind.i64 0],none⟩
def ty92:Ty:=⟨.slice 253,1,24,[Go.Value.slice none 0 0],none⟩
def ty94:Ty:=⟨.struct [(0,92),(1,26),(2,3)],3,56,[Go.Value.slice none 0 0,Go.Value.slice none 0 0,Go.Value.int Go.IntKind.i64 0],none⟩
def ty102:Ty:=⟨.slice 188,1,24,[Go.Value.slice none 0 0],none⟩
def ty104:Ty:=⟨.struct [(0,3),(1,102)],2,32,[Go.Value.int Go.IntKind.i64 0,Go.Value.slice none 0 0],none⟩
def ty109:Ty:=⟨.struct [(0,9),(1,26),(2,3)],3,48,[Go.Value.string { data:=#[] },Go.Value.slice none 0 0,Go.Value.int Go.IntKind.i64 0],none⟩
def ty111:Ty:=⟨.struct [(0,3),(1,3)],2,16,[Go.Value.int Go.IntKind.i64 0,Go.Value.int Go.IntKind.i64 0],some [(0,3),(1,3)]⟩
def ty125:Ty:=⟨.other,1,8,[Go.Value.pointer none],none⟩
def ty133:Ty:=⟨.struct [(0,3),(1,3),(2,3),(3,3),(4,4)],5,40,[Go.Value.int Go.IntKind.i64 0,Go.Value.int Go.IntKind.i64 0,Go.Value.int Go.IntKind.i64 0,Go.Value.int Go.IntKind.i64 0,Go.Value.bool false],some [(0,3),(1,3),(2,3),(3,3),(4,4)]⟩
def ty147:Ty:=⟨.struct [(0,3),(1,26),(2,26),(3,26)],4,80,[Go.Value.int Go.IntKind.i64 0,Go.Value.slice none 0 0,Go.Value.slice none 0 0,Go.Value.slice none 0 0],none⟩
def ty156:Ty:=⟨.struct [(0,9),(1,3),(2,4),(3,3),(4,3),(5,3),(6,3),(7,4),(8,3),(9,3),(10,3)],11,96,[Go.Value.string { data:=#[] },Go.Value.int Go.IntKind.i64 0,Go.Value.bool false,Go.Value.int Go.IntKind.i64 0,Go.Value.int Go.IntKind.i64 0,Go.Value.int Go.IntKind.i64 0,Go.Value.int Go.IntKind.i64 0,Go.Value.bool false,Go.Value.int Go.IntKind.i64 0,Go.Value.int Go.IntKind.i64 0,Go.Value.int Go.IntKind.i64 0],some [(0,9),(1,3),(2,4),(3,3),(4,3),(5,3),(6,3),(7,4),(8,3),(9,3),(10,3)]⟩
def ty163:Ty:=⟨.other,1,8,[Go.Value.nilFunc],none⟩
def ty164:Ty:=⟨.other,1,8,[Go.Value.pointer none],none⟩
def ty167:Ty:=⟨.slice 26,1,24,[Go.Value.slice none 0 0],none⟩
def ty185:Ty:=⟨.struct [(0,9),(1,26),(2,3)],3,48,[Go.Value.string { data:=#[] },Go.Value.slice none 0 0,Go.Value.int Go.IntKind.i64 0],none⟩
def ty186:Ty:=⟨.slice 4,1,24,[Go.Value.slice none 0 0],none⟩
def ty188:Ty:=⟨.struct [(0,3),(1,3),(2,111)],4,32,[Go.Value.int Go.IntKind.i64 0,Go.Value.int Go.IntKind.i64 0,Go.Value.int Go.IntKind.i64 0,Go.Value.int Go.IntKind.i64 0],none⟩
def ty192:Ty:=⟨.slice 260,1,24,[Go.Value.slice none 0 0],none⟩
def ty194:Ty:=⟨.struct [(0,3),(1,192)],2,32,[Go.Value.int Go.IntKind.i64 0,Go.Value.slice none 0 0],none⟩
def ty198:Ty:=⟨.struct [(0,3),(1,26)],2,32,[Go.Value.int Go.IntKind.i64 0,Go.Value.slice none 0 0],none⟩
def ty205:Ty:=⟨.struct [(0,3),(1,3),(2,3),(3,3),(4,4)],5,40,[Go.Value.int Go.IntKind.i64 0,Go.Value.int Go.IntKind.i64 0,Go.Value.int Go.IntKind.i64 0,Go.Value.int Go.IntKind.i64 0,Go.Value.bool false],some [(0,3),(1,3),(2,3),(3,3),(4,4)]⟩
def ty213:Ty:=⟨.struct [(0,47),(1,3),(2,3)],3,40,[Go.Value.slice none 0 0,Go.Value.int Go.IntKind.i64 0,Go.Value.int Go.IntKind.i64 0],none⟩
def ty217:Ty:=⟨.other,1,8,[Go.Value.nilFunc],none⟩
def ty219:Ty:=⟨.other,1,8,[Go.Value.nilFunc],none⟩
def ty222:Ty:=⟨.other,1,8,[Go.Value.nilFunc],none⟩
def ty233:Ty:=⟨.other,1,8,[Go.Value.nilFunc],none⟩
def ty235:Ty:=⟨.other,1,8,[Go.Value.nilFunc],none⟩
def ty239:Ty:=⟨.other,1,8,[Go.Value.nilFunc],none⟩
def ty241:Ty:=⟨.map 9 4,1,8,[Go.Value.map none],none⟩
def ty243:Ty:=⟨.struct [(0,36),(3,241)],4,64,[Go.Value.slice none 0 0,Go.Value.slice none 0 0,Go.Value.int Go.IntKind.i64 0,Go.Value.map none],none⟩
def ty250:Ty:=⟨.int .u64,1,8,[Go.Value.int Go.IntKind.u64 0],none⟩
def ty253:Ty:=⟨.struct [(0,9),(1,3),(2,4),(3,3),(4,3),(5,3),(6,3),(7,4),(8,3),(9,3),(10,3)],11,96,[Go.Value.string { data:=#[] },Go.Value.int Go.IntKind.i64 0,Go.Value.bool false,Go.Value.int Go.IntKind.i64 0,Go.Value.int Go.IntKind.i64 0,Go.Value.int Go.IntKind.i64 0,Go.Value.int Go.IntKind.i64 0,Go.Value.bool false,Go.Value.int Go.IntKind.i64 0,Go.Value.int Go.IntKind.i64 0,Go.Value.int Go.IntKind.i64 0],some [(0,9),(1,3),(2,4),(3,3),(4,3),(5,3),(6,3),(7,4),(8,3),(9,3),(10,3)]⟩
def ty260:Ty:=⟨.struct [(0,3),(1,3),(2,3)],3,24,[Go.Value.int Go.IntKind.i64 0,Go.Value.int Go.IntKind.i64 0,Go.Value.int Go.IntKind.i64 0],some [(0,3),(1,3),(2,3)]⟩
def ty266:Ty:=⟨.other,1,8,[Go.Value.nilFunc],none⟩
def ty269:Ty:=⟨.other,1,8,[Go.Value.nilFunc],none⟩
def ty282:Ty:=⟨.other,1,8,[Go.Value.pointer none],none⟩
def ty284:Ty:=⟨.struct [(0,282),(1,47)],2,32,[Go.Value.pointer none,Go.Value.slice none 0 0],none⟩
def ty298:Ty:=⟨.other,1,8,[Go.Value.nilFunc],none⟩
def ty299:Ty:=⟨.int .u32,1,4,[Go.Value.int Go.IntKind.u32 0],none⟩
def ty302:Ty:=⟨.int .u64,1,8,[Go.Value.int Go.IntKind.u64 0],none⟩
def ty310:Ty:=⟨.int .i64,1,8,[Go.Value.int Go.IntKind.i64 0],none⟩
def tys:List Ty:=[unkTy,ty1,ty2,ty3,ty4,ty5,ty6,ty7,ty8,ty9,ty10,unkTy,unkTy,unkTy,unkTy,unkTy,unkTy,unkTy,unkTy,unkTy,ty20,unkTy,ty22,ty23,unkTy,ty25,ty26,unkTy,ty28,unkTy,unkTy,ty31,unkTy,ty33,ty34,unkTy,ty36,unkTy,ty38,unkTy,unkTy,unkTy,unkTy,unkTy,unkTy,unkTy,unkTy,ty47,unkTy,unkTy,unkTy,unkTy,unkTy,unkTy,unkTy,unkTy,unkTy,unkTy,unkTy,unkTy,ty60,ty61,unkTy,ty63,unkTy,unkTy,unkTy,unkTy,unkTy,unkTy,unkTy,unkTy,unkTy,unkTy,unkTy,unkTy,unkTy,ty77,unkTy,ty79,unkTy,unkTy,unkTy,unkTy,unkTy,unkTy,unkTy,unkTy,unkTy,unkTy,unkTy,unkTy,ty92,unkTy,ty94,unkTy,unkTy,unkTy,unkTy,unkTy,unkTy,unkTy,ty102,unkTy,ty104,unkTy,unkTy,unkTy,unkTy,ty109,unkTy,ty111,unkTy,unkTy,unkTy,unkTy,unkTy,unkTy,unkTy,unkTy,unkTy,unkTy,unkTy,unkTy,unkTy,ty125,unkTy,unkTy,unkTy,unkTy,unkTy,unkTy,unkTy,ty133,unkTy,unkTy,unkTy,unkTy,unkTy,unkTy,unkTy,unkTy,unkTy,unkTy,unkTy,unkTy,unkTy,ty147,unkTy,unkTy,unkTy,unkTy,unkTy,unkTy,unkTy,unkTy,ty156,unkTy,unkTy,unkTy,unkTy,unkTy,unkTy,ty163,ty164,unkTy,unkTy,ty167,unkTy,unkTy,unkTy,unkTy,unkTy,unkTy,unkTy,unkTy,unkTy,unkTy,unkTy,unkTy,unkTy,unkTy,unkTy,unkTy,unkTy,ty185,ty186,unkTy,ty188,unkTy,unkTy,unkTy,ty192,unkTy,ty194,unkTy,unkTy,unkTy,ty198,unkTy,unkTy,unkTy,unkTy,unkTy,unkTy,ty205,unkTy,unkTy,unkTy,unkTy,unkTy,unkTy,unkTy,ty213,unkTy,unkTy,unkTy,ty217,unkTy,ty219,unkTy,unkTy,ty222,unkTy,unkTy,unkTy,unkTy,unkTy,unkTy,unkTy,unkTy,unkTy,unkTy,ty233,unkTy,ty235,unkTy,unkTy,unkTy,ty239,unkTy,ty241,unkTy,ty243,unkTy,unkTy,unkTy,unkTy,unkTy,unkTy,ty250,unkTy,unkTy,ty253,unkTy,unkTy,unkTy,unkTy,unkTy,unkTy,ty260,unkTy,unkTy,unkTy,unkTy,unkTy,ty266,unkTy,unkTy,ty269,unkTy,unkTy,unkTy,unkTy,unkTy,unkTy,unkTy,unkTy,unkTy,unkTy,unkTy,unkTy,ty282,unkTy,ty284,unkTy,unkTy,unkTy,unkTy,unkTy,unkTy,unkTy,unkTy,unkTy,unkTy,unkTy,unkTy,unkTy,ty298,ty299,unkTy,unkTy,ty302,unkTy,unkTy,unkTy,unkTy,unkTy,unkTy,unkTy,ty310]
def T (t:Nat):Ty:=tys.getD t unkTy
inductive bu (P:Program):Nat→List Ty→Prop
 | nil (k:Nat):bu P k []
 | cons {k:Nat} {ty:Ty} {l:List Ty} (h:TyOk P k ty) (r:bu P (k+1) l):bu P k (ty::l)
theorem bu.get {P:Program}:∀ {l:List Ty} {k:Nat},bu P k l→∀ i,TyOk P (k+i) (l.getD i unkTy)
 | _,_,.nil _,i=>by simp[unkTy,TyOk]
 | _,_,.cons h r,0=>h
 | _,_,.cons (k:=k) h r,i+1=>by
  have:=r.get i
  rw[show k+1+i=k+(i+1) by omega]at this
  simpa using this
theorem af (P:Program)(t:Nat):TyOk P t unkTy:=by simp[unkTy,TyOk]
theorem aF {P:Program}{t:Nat}{ty:Ty}{i:TypeInfo}{z:Value}(hs:t<P.types.size)(h1:P.types[t]?=some i)(h2:i.zero=some z)(h:i.size=ty.size∧i.bytes=ty.bytes∧z.cells.toList=ty.zero∧ty.zero.length=ty.size)(h3:ty.zero.all (fun v=>v.oneCell')=true)(h4:dW P t ty.kind)(h5:∀ fs,ty.eqs=some fs→∃ fields:Array Field,P.underlying t=some (.struct fields)∧fields.toList.map (fun f=>(f.offset,f.type))=fs∧(∀ f,f∈fields.toList→f.name ≠ "_")∧P.stoodInHeld t=false∧P.eqGuardType P.depth t=false):TyOk P t ty:=by
 unfold TyOk
 split
 ·trivial
 exact⟨⟨i,z,(by unfold Tables.info?;rw[if_pos hs];exact h1),h.1,h.2.1,h2,h.2.2.1,h.2.2.2⟩,fun v hv=>List.all_eq_true.1 h3 v hv,h4,h5⟩
theorem Xc:TyOk prog 1 ty1:=aF (i:=Tryz.t1) (by rw[types_size];decide) type1 rfl ⟨rfl,rfl,rfl,rfl⟩ rfl (by exact⟨_,underlying1,rfl⟩) (by intro fs h;cases h)
theorem Xd:TyOk prog 2 ty2:=aF (i:=Tryz.t2) (by rw[types_size];decide) type2 rfl ⟨rfl,rfl,rfl,rfl⟩ rfl (by exact underlying2) (by intro fs h;cases h)
theorem Xe:TyOk prog 3 ty3:=aF (i:=Tryz.t3) (by rw[types_size];decide) type3 rfl ⟨rfl,rfl,rfl,rfl⟩ rfl (by exact underlying3) (by intro fs h;cases h)
theorem Xf:TyOk prog 4 ty4:=aF (i:=Tryz.t4) (by rw[types_size];decide) type4 rfl ⟨rfl,rfl,rfl,rfl⟩ rfl (by exact underlying4) (by intro fs h;cases h)
theorem Xg:TyOk prog 5 ty5:=aF (i:=Tryz.t5) (by rw[types_size];decide) type5 rfl ⟨rfl,rfl,rfl,rfl⟩ rfl (by exact underlying5) (by intro fs h;cases h)
theorem Xh:TyOk prog 6 ty6:=aF (i:=Tryz.t6) (by rw[types_size];decide) type6 rfl ⟨rfl,rfl,rfl,rfl⟩ rfl (by exact underlying6) (by intro fs h;cases h)
theorem Xi:TyOk prog 7 ty7:=aF (i:=Tryz.t7) (by rw[types_size];decide) type7 rfl ⟨rfl,rfl,rfl,rfl⟩ rfl (by exact⟨_,underlying7,rfl⟩) (by intro fs h;cases h)
theorem Xj:TyOk prog 8 ty8:=aF (i:=Tryz.t8) (by rw[types_size];decide) type8 rfl ⟨rfl,rfl,rfl,rfl⟩ rfl (by exact⟨_,underlying8,rfl⟩) (by intro fs h;cases h)
theorem Xk:TyOk prog 9 ty9:=aF (i:=Tryz.t9) (by rw[types_size];decide) type9 rfl ⟨rfl,rfl,rfl,rfl⟩ rfl (by exact underlying9) (by intro fs h;cases h)
theorem VA:TyOk prog 10 ty10:=aF (i:=Tryz.t10) (by rw[types_size];decide) type10 rfl ⟨rfl,rfl,rfl,rfl⟩ rfl (by exact underlying10) (by intro fs h;cases h)
theorem VB:TyOk prog 20 ty20:=aF (i:=Tryz.t20) (by rw[types_size];decide) type20 rfl ⟨rfl,rfl,rfl,rfl⟩ rfl (by exact⟨_,underlying20,rfl⟩) (by intro fs h;cases h)
theorem VC:TyOk prog 22 ty22:=aF (i:=Tryz.t22) (by rw[types_size];decide) type22 rfl ⟨rfl,rfl,rfl,rfl⟩ rfl (by exact underlying22) (by intro fs h;cases h)
theorem VD:TyOk prog 23 ty23:=aF (i:=Tryz.t23) (by rw[types_size];decide) type23 rfl ⟨rfl,rfl,rfl,rfl⟩ rfl (by exact underlying23) (by intro fs h;cases h)
theorem VE:TyOk prog 25 ty25:=aF (i:=Tryz.t25) (by rw[types_size];decide) type25 rfl ⟨rfl,rfl,rfl,rfl⟩ rfl (by exact⟨_,underlying25,rfl⟩) (by intro fs h;cases h)
theorem VG:TyOk prog 26 ty26:=aF (i:=Tryz.t26) (by rw[types_size];decide) type26 rfl ⟨rfl,rfl,rfl,rfl⟩ rfl (by exact underlying26) (by intro fs h;cases h)
theorem VH:TyOk prog 28 ty28:=aF (i:=Tryz.t28) (by rw[types_size];decide) type28 rfl ⟨rfl,rfl,rfl,rfl⟩ rfl (by exact⟨_,underlying28,rfl⟩) (by intro fs h;cases h)
theorem VI:TyOk prog 31 ty31:=aF (i:=Tryz.t31) (by rw[types_size];decide) type31 rfl ⟨rfl,rfl,rfl,rfl⟩ rfl (by exact underlying31) (by intro fs h;cases h)
theorem VJ:TyOk prog 33 ty33:=aF (i:=Tryz.t33) (by rw[types_size];decide) type33 rfl ⟨rfl,rfl,rfl,rfl⟩ rfl (by exact underlying33) (by intro fs h;cases h)
theorem VK:TyOk prog 34 ty34:=aF (i:=Tryz.t34) (by rw[types_size];decide) type34 rfl ⟨rfl,rfl,rfl,rfl⟩ rfl (by exact underlying34) (by intro fs h;cases h)
theorem VL:TyOk prog 36 ty36:=aF (i:=Tryz.t36) (by rw[types_size];decide) type36 rfl ⟨rfl,rfl,rfl,rfl⟩ rfl (by exact⟨_,underlying36,rfl⟩) (by intro fs h;cases h)
theorem VM:TyOk prog 38 ty38:=aF (i:=Tryz.t38) (by rw[types_size];decide) type38 rfl ⟨rfl,rfl,rfl,rfl⟩ rfl (by exact⟨_,underlying38,rfl⟩) (by intro fs h;cases h)
theorem VN:TyOk prog 47 ty47:=aF (i:=Tryz.t47) (by rw[types_size];decide) type47 rfl ⟨rfl,rfl,rfl,rfl⟩ rfl (by exact underlying47) (by intro fs h;cases h)
theorem VO:TyOk prog 60 ty60:=aF (i:=Tryz.t60) (by rw[types_size];decide) type60 rfl ⟨rfl,rfl,rfl,rfl⟩ rfl (by exact⟨_,underlying60,rfl⟩) (by intro fs h;cases h)
theorem VP:TyOk prog 61 ty61:=aF (i:=Tryz.t61) (by rw[types_size];decide) type61 rfl ⟨rfl,rfl,rfl,rfl⟩ rfl (by exact underlying61) (by intro fs h;cases h)
theorem VQ:TyOk prog 63 ty63:=aF (i:=Tryz.t63) (by rw[types_size];decide) type63 rfl ⟨rfl,rfl,rfl,rfl⟩ rfl (by exact⟨_,underlying63,rfl⟩) (by intro fs h;cases h)
theorem VR:TyOk prog 77 ty77:=aF (i:=Tryz.t77) (by rw[types_size];decide) type77 rfl ⟨rfl,rfl,rfl,rfl⟩ rfl (by exact underlying77) (by intro fs h;cases h)
theorem VS:TyOk prog 79 ty79:=aF (i:=Tryz.t79) (by rw[types_size];decide) type79 rfl ⟨rfl,rfl,rfl,rfl⟩ rfl (by exact⟨_,underlying79,rfl⟩) (by intro fs h;cases h)
theorem VT:TyOk prog 92 ty92:=aF (i:=Tryz.t92) (by rw[types_size];decide) type92 rfl ⟨rfl,rfl,rfl,rfl⟩ rfl (by exact underlying92) (by intro fs h;cases h)
theorem VU:TyOk prog 94 ty94:=aF (i:=Tryz.t94) (by rw[types_size];decide) type94 rfl ⟨rfl,rfl,rfl,rfl⟩ rfl (by exact⟨_,underlying94,rfl⟩) (by intro fs h;cases h)
theorem RB:TyOk prog 102 ty102:=aF (i:=Tryz.t102) (by rw[types_size];decide) type102 rfl ⟨rfl,rfl,rfl,rfl⟩ rfl (by exact underlying102) (by intro fs h;cases h)
theorem RC:TyOk prog 104 ty104:=aF (i:=Tryz.t104) (by rw[types_size];decide) type104 rfl ⟨rfl,rfl,rfl,rfl⟩ rfl (by exact⟨_,underlying104,rfl⟩) (by intro fs h;cases h)
theorem RD:TyOk prog 109 ty109:=aF (i:=Tryz.t109) (by rw[types_size];decide) type109 rfl ⟨rfl,rfl,rfl,rfl⟩ rfl (by exact⟨_,underlying109,rfl⟩) (by intro fs h;cases h)
theorem RE:TyOk prog 111 ty111:=aF (i:=Tryz.t111) (by rw[types_size];decide) type111 rfl ⟨rfl,rfl,rfl,rfl⟩ rfl (by exact⟨_,underlying111,rfl⟩) (by intro fs h;cases h;exact⟨_,underlying111,rfl,by decide,by kernel_rfl,by kernel_rfl⟩)
theorem RF:TyOk prog 125 ty125:=aF (i:=Tryz.t125) (by rw[types_size];decide) type125 rfl ⟨rfl,rfl,rfl,rfl⟩ rfl (by exact⟨_,underlying125,rfl⟩) (by intro fs h;cases h)
theorem RG:TyOk prog 133 ty133:=aF (i:=Tryz.t133) (by rw[types_size];decide) type133 rfl ⟨rfl,rfl,rfl,rfl⟩ rfl (by exact⟨_,underlying133,rfl⟩) (by intro fs h;cases h;exact⟨_,underlying133,rfl,by decide,by kernel_rfl,by kernel_rfl⟩)
theorem RH:TyOk prog 147 ty147:=aF (i:=Tryz.t147) (by rw[types_size];decide) type147 rfl ⟨rfl,rfl,rfl,rfl⟩ rfl (by exact⟨_,underlying147,rfl⟩) (by intro fs h;cases h)
theorem RI:TyOk prog 156 ty156:=aF (i:=Tryz.t156) (by rw[types_size];decide) type156 rfl ⟨rfl,rfl,rfl,rfl⟩ rfl (by exact⟨_,underlying156,rfl⟩) (by intro fs h;cases h;exact⟨_,underlying156,rfl,by decide,by kernel_rfl,by kernel_rfl⟩)
theorem RJ:TyOk prog 163 ty163:=aF (i:=Tryz.t163) (by rw[types_size];decide) type163 rfl ⟨rfl,rfl,rfl,rfl⟩ rfl (by exact⟨_,underlying163,rfl⟩) (by intro fs h;cases h)
theorem RK:TyOk prog 164 ty164:=aF (i:=Tryz.t164) (by rw[types_size];decide) type164 rfl ⟨rfl,rfl,rfl,rfl⟩ rfl (by exact⟨_,underlying164,rfl⟩) (by intro fs h;cases h)
theorem RL:TyOk prog 167 ty167:=aF (i:=Tryz.t167) (by rw[types_size];decide) type167 rfl ⟨rfl,rfl,rfl,rfl⟩ rfl (by exact underlying167) (by intro fs h;cases h)
theorem RM:TyOk prog 185 ty185:=aF (i:=Tryz.t185) (by rw[types_size];decide) type185 rfl ⟨rfl,rfl,rfl,rfl⟩ rfl (by exact⟨_,underlying185,rfl⟩) (by intro fs h;cases h)
theorem RN:TyOk prog 186 ty186:=aF (i:=Tryz.t186) (by rw[types_size];decide) type186 rfl ⟨rfl,rfl,rfl,rfl⟩ rfl (by exact underlying186) (by intro fs h;cases h)
theorem RP:TyOk prog 188 ty188:=aF (i:=Tryz.t188) (by rw[types_size];decide) type188 rfl ⟨rfl,rfl,rfl,rfl⟩ rfl (by exact⟨_,underlying188,rfl⟩) (by intro fs h;cases h)
theorem RQ:TyOk prog 192 ty192:=aF (i:=Tryz.t192) (by rw[types_size];decide) type192 rfl ⟨rfl,rfl,rfl,rfl⟩ rfl (by exact underlying192) (by intro fs h;cases h)
theorem RR:TyOk prog 194 ty194:=aF (i:=Tryz.t194) (by rw[types_size];decide) type194 rfl ⟨rfl,rfl,rfl,rfl⟩ rfl (by exact⟨_,underlying194,rfl⟩) (by intro fs h;cases h)
theorem RT:TyOk prog 198 ty198:=aF (i:=Tryz.t198) (by rw[types_size];decide) type198 rfl ⟨rfl,rfl,rfl,rfl⟩ rfl (by exact⟨_,underlying198,rfl⟩) (by intro fs h;cases h)
theorem RU:TyOk prog 205 ty205:=aF (i:=Tryz.t205) (by rw[types_size];decide) type205 rfl ⟨rfl,rfl,rfl,rfl⟩ rfl (by exact⟨_,underlying205,rfl⟩) (by intro fs h;cases h;exact⟨_,underlying205,rfl,by decide,by kernel_rfl,by kernel_rfl⟩)
theorem RV:TyOk prog 213 ty213:=aF (i:=Tryz.t213) (by rw[types_size];decide) type213 rfl ⟨rfl,rfl,rfl,rfl⟩ rfl (by exact⟨_,underlying213,rfl⟩) (by intro fs h;cases h)
theorem RW:TyOk prog 217 ty217:=aF (i:=Tryz.t217) (by rw[types_size];decide) type217 rfl ⟨rfl,rfl,rfl,rfl⟩ rfl (by exact⟨_,underlying217,rfl⟩) (by intro fs h;cases h)
theorem RX:TyOk prog 219 ty219:=aF (i:=Tryz.t219) (by rw[types_size];decide) type219 rfl ⟨rfl,rfl,rfl,rfl⟩ rfl (by exact⟨_,underlying219,rfl⟩) (by intro fs h;cases h)
theorem RY:TyOk prog 222 ty222:=aF (i:=Tryz.t222) (by rw[types_size];decide) type222 rfl ⟨rfl,rfl,rfl,rfl⟩ rfl (by exact⟨_,underlying222,rfl⟩) (by intro fs h;cases h)
theorem RZ:TyOk prog 233 ty233:=aF (i:=Tryz.t233) (by rw[types_size];decide) type233 rfl ⟨rfl,rfl,rfl,rfl⟩ rfl (by exact⟨_,underlying233,rfl⟩) (by intro fs h;cases h)
theorem Sa:TyOk prog 235 ty235:=aF (i:=Tryz.t235) (by rw[types_size];decide) type235 rfl ⟨rfl,rfl,rfl,rfl⟩ rfl (by exact⟨_,underlying235,rfl⟩) (by intro fs h;cases h)
theorem Sb:TyOk prog 239 ty239:=aF (i:=Tryz.t239) (by rw[types_size];decide) type239 rfl ⟨rfl,rfl,rfl,rfl⟩ rfl (by exact⟨_,underlying239,rfl⟩) (by intro fs h;cases h)
theorem Sc:TyOk prog 241 ty241:=aF (i:=Tryz.t241) (by rw[types_size];decide) type241 rfl ⟨rfl,rfl,rfl,rfl⟩ rfl (by exact underlying241) (by intro fs h;cases h)
theorem Sd:TyOk prog 243 ty243:=aF (i:=Tryz.t243) (by rw[types_size];decide) type243 rfl ⟨rfl,rfl,rfl,rfl⟩ rfl (by exact⟨_,underlying243,rfl⟩) (by intro fs h;cases h)
theorem Se:TyOk prog 250 ty250:=aF (i:=Tryz.t250) (by rw[types_size];decide) type250 rfl ⟨rfl,rfl,rfl,rfl⟩ rfl (by exact underlying250) (by intro fs h;cases h)
theorem Sf:TyOk prog 253 ty253:=aF (i:=Tryz.t253) (by rw[types_size];decide) type253 rfl ⟨rfl,rfl,rfl,rfl⟩ rfl (by exact⟨_,underlying253,rfl⟩) (by intro fs h;cases h;exact⟨_,underlying253,rfl,by decide,by kernel_rfl,by kernel_rfl⟩)
theorem Sg:TyOk prog 260 ty260:=aF (i:=Tryz.t260) (by rw[types_size];decide) type260 rfl ⟨rfl,rfl,rfl,rfl⟩ rfl (by exact⟨_,underlying260,rfl⟩) (by intro fs h;cases h;exact⟨_,underlying260,rfl,by decide,by kernel_rfl,by kernel_rfl⟩)
theorem Si:TyOk prog 266 ty266:=aF (i:=Tryz.t266) (by rw[types_size];decide) type266 rfl ⟨rfl,rfl,rfl,rfl⟩ rfl (by exact⟨_,underlying266,rfl⟩) (by intro fs h;cases h)
theorem Sj:TyOk prog 269 ty269:=aF (i:=Tryz.t269) (by rw[types_size];decide) type269 rfl ⟨rfl,rfl,rfl,rfl⟩ rfl (by exact⟨_,underlying269,rfl⟩) (by intro fs h;cases h)
theorem Sk:TyOk prog 282 ty282:=aF (i:=Tryz.t282) (by rw[types_size];decide) type282 rfl ⟨rfl,rfl,rfl,rfl⟩ rfl (by exact⟨_,underlying282,rfl⟩) (by intro fs h;cases h)
theorem Sl:TyOk prog 284 ty284:=aF (i:=Tryz.t284) (by rw[types_size];decide) type284 rfl ⟨rfl,rfl,rfl,rfl⟩ rfl (by exact⟨_,underlying284,rfl⟩) (by intro fs h;cases h)
theorem Sm:TyOk prog 298 ty298:=aF (i:=Tryz.t298) (by rw[types_size];decide) type298 rfl ⟨rfl,rfl,rfl,rfl⟩ rfl (by exact⟨_,underlying298,rfl⟩) (by intro fs h;cases h)
theorem Sn:TyOk prog 299 ty299:=aF (i:=Tryz.t299) (by rw[types_size];decide) type299 rfl ⟨rfl,rfl,rfl,rfl⟩ rfl (by exact underlying299) (by intro fs h;cases h)
theorem So:TyOk prog 302 ty302:=aF (i:=Tryz.t302) (by rw[types_size];decide) type302 rfl ⟨rfl,rfl,rfl,rfl⟩ rfl (by exact underlying302) (by intro fs h;cases h)
theorem Sp:TyOk prog 310 ty310:=aF (i:=Tryz.t310) (by rw[types_size];decide) type310 rfl ⟨rfl,rfl,rfl,rfl⟩ rfl (by exact underlying310) (by intro fs h;cases h)
theorem VV {l:List Ty}(r:bu prog 16 l):bu prog 0 (unkTy::ty1::ty2::ty3::ty4::ty5::ty6::ty7::ty8::ty9::ty10::unkTy::unkTy::unkTy::unkTy::unkTy::l):=
 .cons (af _ _) (.cons Xc (.cons Xd (.cons Xe (.cons Xf (.cons Xg (.cons Xh (.cons Xi (.cons Xj (.cons Xk (.cons VA (.cons (af _ _) (.cons (af _ _) (.cons (af _ _) (.cons (af _ _) (.cons (af _ _) (r))))))))))))))))
theorem Sq {l:List Ty}(r:bu prog 32 l):bu prog 16 (unkTy::unkTy::unkTy::unkTy::ty20::unkTy::ty22::ty23::unkTy::ty25::ty26::unkTy::ty28::unkTy::unkTy::ty31::l):=
 .cons (af _ _) (.cons (af _ _) (.cons (af _ _) (.cons (af _ _) (.cons VB (.cons (af _ _) (.cons VC (.cons VD (.cons (af _ _) (.cons VE (.cons VG (.cons (af _ _) (.cons VH (.cons (af _ _) (.cons (af _ _) (.cons VI (r))))))))))))))))
theorem Sr {l:List Ty}(r:bu prog 48 l):bu prog 32 (unkTy::ty33::ty34::unkTy::ty36::unkTy::ty38::unkTy::unkTy::unkTy::unkTy::unkTy::unkTy::unkTy::unkTy::ty47::l):=
 .cons (af _ _) (.cons VJ (.cons VK (.cons (af _ _) (.cons VL (.cons (af _ _) (.cons VM (.cons (af _ _) (.cons (af _ _) (.cons (af _ _) (.cons (af _ _) (.cons (af _ _) (.cons (af _ _) (.cons (af _ _) (.cons (af _ _) (.cons VN (r))))))))))))))))
theorem Ss {l:List Ty}(r:bu prog 64 l):bu prog 48 (unkTy::unkTy::unkTy::unkTy::unkTy::unkTy::unkTy::unkTy::unkTy::unkTy::unkTy::unkTy::ty60::ty61::unkTy::ty63::l):=
 .cons (af _ _) (.cons (af _ _) (.cons (af _ _) (.cons (af _ _) (.cons (af _ _) (.cons (af _ _) (.cons (af _ _) (.cons (af _ _) (.cons (af _ _) (.cons (af _ _) (.cons (af _ _) (.cons (af _ _) (.cons VO (.cons VP (.cons (af _ _) (.cons VQ (r))))))))))))))))
theorem Su {l:List Ty}(r:bu prog 80 l):bu prog 64 (unkTy::unkTy::unkTy::unkTy::unkTy::unkTy::unkTy::unkTy::unkTy::unkTy::unkTy::unkTy::unkTy::ty77::unkTy::ty79::l):=
 .cons (af _ _) (.cons (af _ _) (.cons (af _ _) (.cons (af _ _) (.cons (af _ _) (.cons (af _ _) (.cons (af _ _) (.cons (af _ _) (.cons (af _ _) (.cons (af _ _) (.cons (af _ _) (.cons (af _ _) (.cons (af _ _) (.cons VR (.cons (af _ _) (.cons VS (r))))))))))))))))
theorem Sv {l:List Ty}(r:bu prog 96 l):bu prog 80 (unkTy::unkTy::unkTy::unkTy::unkTy::unkTy::unkTy::unkTy::unkTy::unkTy::unkTy::unkTy::ty92::unkTy::ty94::unkTy::l):=
 .cons (af _ _) (.cons (af _ _) (.cons (af _ _) (.cons (af _ _) (.cons (af _ _) (.cons (af _ _) (.cons (af _ _) (.cons (af _ _) (.cons (af _ _) (.cons (af _ _) (.cons (af _ _) (.cons (af _ _) (.cons VT (.cons (af _ _) (.cons VU (.cons (af _ _) (r))))))))))))))))
theorem Sw {l:List Ty}(r:bu prog 112 l):bu prog 96 (unkTy::unkTy::unkTy::unkTy::unkTy::unkTy::ty102::unkTy::ty104::unkTy::unkTy::unkTy::unkTy::ty109::unkTy::ty111::l):=
 .cons (af _ _) (.cons (af _ _) (.cons (af _ _) (.cons (af _ _) (.cons (af _ _) (.cons (af _ _) (.cons RB (.cons (af _ _) (.cons RC (.cons (af _ _) (.cons (af _ _) (.cons (af _ _) (.cons (af _ _) (.cons RD (.cons (af _ _) (.cons RE (r))))))))))))))))
theorem PE {l:List Ty}(r:bu prog 128 l):bu prog 112 (unkTy::unkTy::unkTy::unkTy::unkTy::unkTy::unkTy::unkTy::unkTy::unkTy::unkTy::unkTy::unkTy::ty125::unkTy::unkTy::l):=
 .cons (af _ _) (.cons (af _ _) (.cons (af _ _) (.cons (af _ _) (.cons (af _ _) (.cons (af _ _) (.cons (af _ _) (.cons (af _ _) (.cons (af _ _) (.cons (af _ _) (.cons (af _ _) (.cons (af _ _) (.cons (af _ _) (.cons RF (.cons (af _ _) (.cons (af _ _) (r))))))))))))))))
theorem PF {l:List Ty}(r:bu prog 144 l):bu prog 128 (unkTy::unkTy::unkTy::unkTy::unkTy::ty133::unkTy::unkTy::unkTy::unkTy::unkTy::unkTy::unkTy::unkTy::unkTy::unkTy::l):=
 .cons (af _ _) (.cons (af _ _) (.cons (af _ _) (.cons (af _ _) (.cons (af _ _) (.cons RG (.cons (af _ _) (.cons (af _ _) (.cons (af _ _) (.cons (af _ _) (.cons (af _ _) (.cons (af _ _) (.cons (af _ _) (.cons (af _ _) (.cons (af _ _) (.cons (af _ _) (r))))))))))))))))
theorem PG {l:List Ty}(r:bu prog 160 l):bu prog 144 (unkTy::unkTy::unkTy::ty147::unkTy::unkTy::unkTy::unkTy::unkTy::unkTy::unkTy::unkTy::ty156::unkTy::unkTy::unkTy::l):=
 .cons (af _ _) (.cons (af _ _) (.cons (af _ _) (.cons RH (.cons (af _ _) (.cons (af _ _) (.cons (af _ _) (.cons (af _ _) (.cons (af _ _) (.cons (af _ _) (.cons (af _ _) (.cons (af _ _) (.cons RI (.cons (af _ _) (.cons (af _ _) (.cons (af _ _) (r))))))))))))))))
theorem PH {l:List Ty}(r:bu prog 176 l):bu prog 160 (unkTy::unkTy::unkTy::ty163::ty164::unkTy::unkTy::ty167::unkTy::unkTy::unkTy::unkTy::unkTy::unkTy::unkTy::unkTy::l):=
 .cons (af _ _) (.cons (af _ _) (.cons (af _ _) (.cons RJ (.cons RK (.cons (af _ _) (.cons (af _ _) (.cons RL (.cons (af _ _) (.cons (af _ _) (.cons (af _ _) (.cons (af _ _) (.cons (af _ _) (.cons (af _ _) (.cons (af _ _) (.cons (af _ _) (r))))))))))))))))
theorem PI {l:List Ty}(r:bu prog 192 l):bu prog 176 (unkTy::unkTy::unkTy::unkTy::unkTy::unkTy::unkTy::unkTy::unkTy::ty185::ty186::unkTy::ty188::unkTy::unkTy::unkTy::l):=
 .cons (af _ _) (.cons (af _ _) (.cons (af _ _) (.cons (af _ _) (.cons (af _ _) (.cons (af _ _) (.cons (af _ _) (.cons (af _ _) (.cons (af _ _) (.cons RM (.cons RN (.cons (af _ _) (.cons RP (.cons (af _ _) (.cons (af _ _) (.cons (af _ _) (r))))))))))))))))
theorem PJ {l:List Ty}(r:bu prog 208 l):bu prog 192 (ty192::unkTy::ty194::unkTy::unkTy::unkTy::ty198::unkTy::unkTy::unkTy::unkTy::unkTy::unkTy::ty205::unkTy::unkTy::l):=
 .cons RQ (.cons (af _ _) (.cons RR (.cons (af _ _) (.cons (af _ _) (.cons (af _ _) (.cons RT (.cons (af _ _) (.cons (af _ _) (.cons (af _ _) (.cons (af _ _) (.cons (af _ _) (.cons (af _ _) (.cons RU (.cons (af _ _) (.cons (af _ _) (r))))))))))))))))
theorem PK {l:List Ty}(r:bu prog 224 l):bu prog 208 (unkTy::unkTy::unkTy::unkTy::unkTy::ty213::unkTy::unkTy::unkTy::ty217::unkTy::ty219::unkTy::unkTy::ty222::unkTy::l):=
 .cons (af _ _) (.cons (af _ _) (.cons (af _ _) (.cons (af _ _) (.cons (af _ _) (.cons RV (.cons (af _ _) (.cons (af _ _) (.cons (af _ _) (.cons RW (.cons (af _ _) (.cons RX (.cons (af _ _) (.cons (af _ _) (.cons RY (.cons (af _ _) (r))))))))))))))))
theorem PL {l:List Ty}(r:bu prog 240 l):bu prog 224 (unkTy::unkTy::unkTy::unkTy::unkTy::unkTy::unkTy::unkTy::unkTy::ty233::unkTy::ty235::unkTy::unkTy::unkTy::ty239::l):=
 .cons (af _ _) (.cons (af _ _) (.cons (af _ _) (.cons (af _ _) (.cons (af _ _) (.cons (af _ _) (.cons (af _ _) (.cons (af _ _) (.cons (af _ _) (.cons RZ (.cons (af _ _) (.cons Sa (.cons (af _ _) (.cons (af _ _) (.cons (af _ _) (.cons Sb (r))))))))))))))))
theorem PM {l:List Ty}(r:bu prog 256 l):bu prog 240 (unkTy::ty241::unkTy::ty243::unkTy::unkTy::unkTy::unkTy::unkTy::unkTy::ty250::unkTy::unkTy::ty253::unkTy::unkTy::l):=
 .cons (af _ _) (.cons Sc (.cons (af _ _) (.cons Sd (.cons (af _ _) (.cons (af _ _) (.cons (af _ _) (.cons (af _ _) (.cons (af _ _) (.cons (af _ _) (.cons Se (.cons (af _ _) (.cons (af _ _) (.cons Sf (.cons (af _ _) (.cons (af _ _) (r))))))))))))))))
theorem PN {l:List Ty}(r:bu prog 272 l):bu prog 256 (unkTy::unkTy::unkTy::unkTy::ty260::unkTy::unkTy::unkTy::unkTy::unkTy::ty266::unkTy::unkTy::ty269::unkTy::unkTy::l):=
 .cons (af _ _) (.cons (af _ _) (.cons (af _ _) (.cons (af _ _) (.cons Sg (.cons (af _ _) (.cons (af _ _) (.cons (af _ _) (.cons (af _ _) (.cons (af _ _) (.cons Si (.cons (af _ _) (.cons (af _ _) (.cons Sj (.cons (af _ _) (.cons (af _ _) (r))))))))))))))))
theorem PO {l:List Ty}(r:bu prog 288 l):bu prog 272 (unkTy::unkTy::unkTy::unkTy::unkTy::unkTy::unkTy::unkTy::unkTy::unkTy::ty282::unkTy::ty284::unkTy::unkTy::unkTy::l):=
 .cons (af _ _) (.cons (af _ _) (.cons (af _ _) (.cons (af _ _) (.cons (af _ _) (.cons (af _ _) (.cons (af _ _) (.cons (af _ _) (.cons (af _ _) (.cons (af _ _) (.cons Sk (.cons (af _ _) (.cons Sl (.cons (af _ _) (.cons (af _ _) (.cons (af _ _) (r))))))))))))))))
theorem PP {l:List Ty}(r:bu prog 304 l):bu prog 288 (unkTy::unkTy::unkTy::unkTy::unkTy::unkTy::unkTy::unkTy::unkTy::unkTy::ty298::ty299::unkTy::unkTy::ty302::unkTy::l):=
 .cons (af _ _) (.cons (af _ _) (.cons (af _ _) (.cons (af _ _) (.cons (af _ _) (.cons (af _ _) (.cons (af _ _) (.cons (af _ _) (.cons (af _ _) (.cons (af _ _) (.cons Sm (.cons Sn (.cons (af _ _) (.cons (af _ _) (.cons So (.cons (af _ _) (r))))))))))))))))
theorem PQ {l:List Ty}(r:bu prog 311 l):bu prog 304 (unkTy::unkTy::unkTy::unkTy::unkTy::unkTy::ty310::l):=
 .cons (af _ _) (.cons (af _ _) (.cons (af _ _) (.cons (af _ _) (.cons (af _ _) (.cons (af _ _) (.cons Sp (r)))))))
theorem hT (t:Nat):TyOk prog t (T t):=by
 have h:bu prog 0 tys:=VV (Sq (Sr (Ss (Su (Sv (Sw (PE (PF (PG (PH (PI (PJ (PK (PL (PM (PN (PO (PP (PQ (.nil _))))))))))))))))))))
 have:=h.get t
 rw[Nat.zero_add]at this
 exact this
section
open TK
@[simp,go_sem] theorem Tk1:(T 1).kind=.other:=rfl
@[simp,go_sem] theorem Ts1:(T 1).size=1:=rfl
@[simp,go_sem] theorem Tb1:(T 1).bytes=8:=rfl
@[simp,go_sem] theorem Tz1:(T 1).zero=[Go.Value.nilFunc]:=rfl
@[simp,go_sem] theorem Tk2:(T 2).kind=.int .i64:=rfl
@[simp,go_sem] theorem Ts2:(T 2).size=1:=rfl
@[simp,go_sem] theorem Tb2:(T 2).bytes=8:=rfl
@[simp,go_sem] theorem Tz2:(T 2).zero=[Go.Value.int Go.IntKind.i64 0]:=rfl
@[simp,go_sem] theorem Tk3:(T 3).kind=.int .i64:=rfl
@[simp,go_sem] theorem Ts3:(T 3).size=1:=rfl
@[simp,go_sem] theorem Tb3:(T 3).bytes=8:=rfl
@[simp,go_sem] theorem Tz3:(T 3).zero=[Go.Value.int Go.IntKind.i64 0]:=rfl
@[simp,go_sem] theorem Tk4:(T 4).kind=.bool:=rfl
@[simp,go_sem] theorem Ts4:(T 4).size=1:=rfl
@[simp,go_sem] theorem Tb4:(T 4).bytes=1:=rfl
@[simp,go_sem] theorem Tz4:(T 4).zero=[Go.Value.bool false]:=rfl
@[simp,go_sem] theorem Tk5:(T 5).kind=.int .u8:=rfl
@[simp,go_sem] theorem Ts5:(T 5).size=1:=rfl
@[simp,go_sem] theorem Tb5:(T 5).bytes=1:=rfl
@[simp,go_sem] theorem Tz5:(T 5).zero=[Go.Value.int Go.IntKind.u8 0]:=rfl
@[simp,go_sem] theorem Tk6:(T 6).kind=.int .u8:=rfl
@[simp,go_sem] theorem Ts6:(T 6).size=1:=rfl
@[simp,go_sem] theorem Tb6:(T 6).bytes=1:=rfl
@[simp,go_sem] theorem Tz6:(T 6).zero=[Go.Value.int Go.IntKind.u8 0]:=rfl
@[simp,go_sem] theorem Tk7:(T 7).kind=.struct [(0,2),(1,3),(2,4),(3,6)]:=rfl
@[simp,go_sem] theorem Ts7:(T 7).size=4:=rfl
@[simp,go_sem] theorem Tb7:(T 7).bytes=24:=rfl
@[simp,go_sem] theorem Tz7:(T 7).zero=[Go.Value.int Go.IntKind.i64 0,Go.Value.int Go.IntKind.i64 0,Go.Value.bool false,Go.Value.int Go.IntKind.u8 0]:=rfl
@[simp,go_sem] theorem Tk8:(T 8).kind=.struct [(0,2),(1,3),(2,4),(3,6)]:=rfl
@[simp,go_sem] theorem Ts8:(T 8).size=4:=rfl
@[simp,go_sem] theorem Tb8:(T 8).bytes=24:=rfl
@[simp,go_sem] theorem Tz8:(T 8).zero=[Go.Value.int Go.IntKind.i64 0,Go.Value.int Go.IntKind.i64 0,Go.Value.bool false,Go.Value.int Go.IntKind.u8 0]:=rfl
@[simp,go_sem] theorem Tk9:(T 9).kind=.str:=rfl
@[simp,go_sem] theorem Ts9:(T 9).size=1:=rfl
@[simp,go_sem] theorem Tb9:(T 9).bytes=16:=rfl
@[simp,go_sem] theorem Tz9:(T 9).zero=[Go.Value.string { data:=#[] }]:=rfl
@[simp,go_sem] theorem Tk10:(T 10).kind=.str:=rfl
@[simp,go_sem] theorem Ts10:(T 10).size=1:=rfl
@[simp,go_sem] theorem Tb10:(T 10).bytes=16:=rfl
@[simp,go_sem] theorem Tz10:(T 10).zero=[Go.Value.string { data:=#[] }]:=rfl
@[simp,go_sem] theorem Tk20:(T 20).kind=.other:=rfl
@[simp,go_sem] theorem Ts20:(T 20).size=1:=rfl
@[simp,go_sem] theorem Tb20:(T 20).bytes=16:=rfl
@[simp,go_sem] theorem Tz20:(T 20).zero=[Go.Value.nilIface]:=rfl
@[simp,go_sem] theorem Tk22:(T 22).kind=.slice 185:=rfl
@[simp,go_sem] theorem Ts22:(T 22).size=1:=rfl
@[simp,go_sem] theorem Tb22:(T 22).bytes=24:=rfl
@[simp,go_sem] theorem Tz22:(T 22).zero=[Go.Value.slice none 0 0]:=rfl
@[simp,go_sem] theorem Tk23:(T 23).kind=.slice 205:=rfl
@[simp,go_sem] theorem Ts23:(T 23).size=1:=rfl
@[simp,go_sem] theorem Tb23:(T 23).bytes=24:=rfl
@[simp,go_sem] theorem Tz23:(T 23).zero=[Go.Value.slice none 0 0]:=rfl
@[simp,go_sem] theorem Tk25:(T 25).kind=.struct [(0,22),(1,23),(2,3)]:=rfl
@[simp,go_sem] theorem Ts25:(T 25).size=3:=rfl
@[simp,go_sem] theorem Tb25:(T 25).bytes=56:=rfl
@[simp,go_sem] theorem Tz25:(T 25).zero=[Go.Value.slice none 0 0,Go.Value.slice none 0 0,Go.Value.int Go.IntKind.i64 0]:=rfl
@[simp,go_sem] theorem Tk26:(T 26).kind=.slice 3:=rfl
@[simp,go_sem] theorem Ts26:(T 26).size=1:=rfl
@[simp,go_sem] theorem Tb26:(T 26).bytes=24:=rfl
@[simp,go_sem] theorem Tz26:(T 26).zero=[Go.Value.slice none 0 0]:=rfl
@[simp,go_sem] theorem Tk28:(T 28).kind=.struct [(0,26),(1,26)]:=rfl
@[simp,go_sem] theorem Ts28:(T 28).size=2:=rfl
@[simp,go_sem] theorem Tb28:(T 28).bytes=48:=rfl
@[simp,go_sem] theorem Tz28:(T 28).zero=[Go.Value.slice none 0 0,Go.Value.slice none 0 0]:=rfl
@[simp,go_sem] theorem Tk31:(T 31).kind=.slice 9:=rfl
@[simp,go_sem] theorem Ts31:(T 31).size=1:=rfl
@[simp,go_sem] theorem Tb31:(T 31).bytes=24:=rfl
@[simp,go_sem] theorem Tz31:(T 31).zero=[Go.Value.slice none 0 0]:=rfl
@[simp,go_sem] theorem Tk33:(T 33).kind=.slice 109:=rfl
@[simp,go_sem] theorem Ts33:(T 33).size=1:=rfl
@[simp,go_sem] theorem Tb33:(T 33).bytes=24:=rfl
@[simp,go_sem] theorem Tz33:(T 33).zero=[Go.Value.slice none 0 0]:=rfl
@[simp,go_sem] theorem Tk34:(T 34).kind=.slice 133:=rfl
@[simp,go_sem] theorem Ts34:(T 34).size=1:=rfl
@[simp,go_sem] theorem Tb34:(T 34).bytes=24:=rfl
@[simp,go_sem] theorem Tz34:(T 34).zero=[Go.Value.slice none 0 0]:=rfl
@[simp,go_sem] theorem Tk36:(T 36).kind=.struct [(0,33),(1,34),(2,3)]:=rfl
@[simp,go_sem] theorem Ts36:(T 36).size=3:=rfl
@[simp,go_sem] theorem Tb36:(T 36).bytes=56:=rfl
@[simp,go_sem] theorem Tz36:(T 36).zero=[Go.Value.slice none 0 0,Go.Value.slice none 0 0,Go.Value.int Go.IntKind.i64 0]:=rfl
@[simp,go_sem] theorem Tk38:(T 38).kind=.struct [(0,26),(1,26)]:=rfl
@[simp,go_sem] theorem Ts38:(T 38).size=2:=rfl
@[simp,go_sem] theorem Tb38:(T 38).bytes=48:=rfl
@[simp,go_sem] theorem Tz38:(T 38).zero=[Go.Value.slice none 0 0,Go.Value.slice none 0 0]:=rfl
@[simp,go_sem] theorem Tk47:(T 47).kind=.slice 5:=rfl
@[simp,go_sem] theorem Ts47:(T 47).size=1:=rfl
@[simp,go_sem] theorem Tb47:(T 47).bytes=24:=rfl
@[simp,go_sem] theorem Tz47:(T 47).zero=[Go.Value.slice none 0 0]:=rfl
@[simp,go_sem] theorem Tk60:(T 60).kind=.struct [(0,3),(1,26),(2,26)]:=rfl
@[simp,go_sem] theorem Ts60:(T 60).size=3:=rfl
@[simp,go_sem] theorem Tb60:(T 60).bytes=56:=rfl
@[simp,go_sem] theorem Tz60:(T 60).zero=[Go.Value.int Go.IntKind.i64 0,Go.Value.slice none 0 0,Go.Value.slice none 0 0]:=rfl
@[simp,go_sem] theorem Tk61:(T 61).kind=.slice 147:=rfl
@[simp,go_sem] theorem Ts61:(T 61).size=1:=rfl
@[simp,go_sem] theorem Tb61:(T 61).bytes=24:=rfl
@[simp,go_sem] theorem Tz61:(T 61).zero=[Go.Value.slice none 0 0]:=rfl
@[simp,go_sem] theorem Tk63:(T 63).kind=.struct [(0,36),(3,60),(6,4),(7,61)]:=rfl
@[simp,go_sem] theorem Ts63:(T 63).size=8:=rfl
@[simp,go_sem] theorem Tb63:(T 63).bytes=144:=rfl
@[simp,go_sem] theorem Tz63:(T 63).zero=[Go.Value.slice none 0 0,Go.Value.slice none 0 0,Go.Value.int Go.IntKind.i64 0,Go.Value.int Go.IntKind.i64 0,Go.Value.slice none 0 0,Go.Value.slice none 0 0,Go.Value.bool false,Go.Value.slice none 0 0]:=rfl
@[simp,go_sem] theorem Tk77:(T 77).kind=.slice 156:=rfl
@[simp,go_sem] theorem Ts77:(T 77).size=1:=rfl
@[simp,go_sem] theorem Tb77:(T 77).bytes=24:=rfl
@[simp,go_sem] theorem Tz77:(T 77).zero=[Go.Value.slice none 0 0]:=rfl
@[simp,go_sem] theorem Tk79:(T 79).kind=.struct [(0,77),(1,26),(2,3)]:=rfl
@[simp,go_sem] theorem Ts79:(T 79).size=3:=rfl
@[simp,go_sem] theorem Tb79:(T 79).bytes=56:=rfl
@[simp,go_sem] theorem Tz79:(T 79).zero=[Go.Value.slice none 0 0,Go.Value.slice none 0 0,Go.Value.int Go.IntKind.i64 0]:=rfl
@[simp,go_sem] theorem Tk92:(T 92).kind=.slice 253:=rfl
@[simp,go_sem] theorem Ts92:(T 92).size=1:=rfl
@[simp,go_sem] theorem Tb92:(T 92).bytes=24:=rfl
@[simp,go_sem] theorem Tz92:(T 92).zero=[Go.Value.slice none 0 0]:=rfl
@[simp,go_sem] theorem Tk94:(T 94).kind=.struct [(0,92),(1,26),(2,3)]:=rfl
@[simp,go_sem] theorem Ts94:(T 94).size=3:=rfl
@[simp,go_sem] theorem Tb94:(T 94).bytes=56:=rfl
@[simp,go_sem] theorem Tz94:(T 94).zero=[Go.Value.slice none 0 0,Go.Value.slice none 0 0,Go.Value.int Go.IntKind.i64 0]:=rfl
@[simp,go_sem] theorem aeN:(T 102).kind=.slice 188:=rfl
@[simp,go_sem] theorem aeO:(T 102).size=1:=rfl
@[simp,go_sem] theorem aeP:(T 102).bytes=24:=rfl
@[simp,go_sem] theorem aeQ:(T 102).zero=[Go.Value.slice none 0 0]:=rfl
@[simp,go_sem] theorem aeR:(T 104).kind=.struct [(0,3),(1,102)]:=rfl
@[simp,go_sem] theorem aeS:(T 104).size=2:=rfl
@[simp,go_sem] theorem aeT:(T 104).bytes=32:=rfl
@[simp,go_sem] theorem aeU:(T 104).zero=[Go.Value.int Go.IntKind.i64 0,Go.Value.slice none 0 0]:=rfl
@[simp,go_sem] theorem aeV:(T 109).kind=.struct [(0,9),(1,26),(2,3)]:=rfl
@[simp,go_sem] theorem aeW:(T 109).size=3:=rfl
@[simp,go_sem] theorem aeX:(T 109).bytes=48:=rfl
@[simp,go_sem] theorem aeY:(T 109).zero=[Go.Value.string { data:=#[] },Go.Value.slice none 0 0,Go.Value.int Go.IntKind.i64 0]:=rfl
@[simp,go_sem] theorem aeZ:(T 111).kind=.struct [(0,3),(1,3)]:=rfl
@[simp,go_sem] theorem afa:(T 111).size=2:=rfl
@[simp,go_sem] theorem afb:(T 111).bytes=16:=rfl
@[simp,go_sem] theorem afc:(T 111).zero=[Go.Value.int Go.IntKind.i64 0,Go.Value.int Go.IntKind.i64 0]:=rfl
@[simp,go_sem] theorem afd:(T 111).eqs=some [(0,3),(1,3)]:=rfl
@[simp,go_sem] theorem afe:(T 125).kind=.other:=rfl
@[simp,go_sem] theorem aff:(T 125).size=1:=rfl
@[simp,go_sem] theorem afg:(T 125).bytes=8:=rfl
@[simp,go_sem] theorem afh:(T 125).zero=[Go.Value.pointer none]:=rfl
@[simp,go_sem] theorem afi:(T 133).kind=.struct [(0,3),(1,3),(2,3),(3,3),(4,4)]:=rfl
@[simp,go_sem] theorem afj:(T 133).size=5:=rfl
@[simp,go_sem] theorem afk:(T 133).bytes=40:=rfl
@[simp,go_sem] theorem afl:(T 133).zero=[Go.Value.int Go.IntKind.i64 0,Go.Value.int Go.IntKind.i64 0,Go.Value.int Go.IntKind.i64 0,Go.Value.int Go.IntKind.i64 0,Go.Value.bool false]:=rfl
@[simp,go_sem] theorem afm:(T 133).eqs=some [(0,3),(1,3),(2,3),(3,3),(4,4)]:=rfl
@[simp,go_sem] theorem afn:(T 147).kind=.struct [(0,3),(1,26),(2,26),(3,26)]:=rfl
@[simp,go_sem] theorem afo:(T 147).size=4:=rfl
@[simp,go_sem] theorem afp:(T 147).bytes=80:=rfl
@[simp,go_sem] theorem afq:(T 147).zero=[Go.Value.int Go.IntKind.i64 0,Go.Value.slice none 0 0,Go.Value.slice none 0 0,Go.Value.slice none 0 0]:=rfl
@[simp,go_sem] theorem afr:(T 156).kind=.struct [(0,9),(1,3),(2,4),(3,3),(4,3),(5,3),(6,3),(7,4),(8,3),(9,3),(10,3)]:=rfl
@[simp,go_sem] theorem afs:(T 156).size=11:=rfl
@[simp,go_sem] theorem aft:(T 156).bytes=96:=rfl
@[simp,go_sem] theorem afu:(T 156).zero=[Go.Value.string { data:=#[] },Go.Value.int Go.IntKind.i64 0,Go.Value.bool false,Go.Value.int Go.IntKind.i64 0,Go.Value.int Go.IntKind.i64 0,Go.Value.int Go.IntKind.i64 0,Go.Value.int Go.IntKind.i64 0,Go.Value.bool false,Go.Value.int Go.IntKind.i64 0,Go.Value.int Go.IntKind.i64 0,Go.Value.int Go.IntKind.i64 0]:=rfl
@[simp,go_sem] theorem afv:(T 156).eqs=some [(0,9),(1,3),(2,4),(3,3),(4,3),(5,3),(6,3),(7,4),(8,3),(9,3),(10,3)]:=rfl
@[simp,go_sem] theorem afw:(T 163).kind=.other:=rfl
@[simp,go_sem] theorem afx:(T 163).size=1:=rfl
@[simp,go_sem] theorem afy:(T 163).bytes=8:=rfl
@[simp,go_sem] theorem afz:(T 163).zero=[Go.Value.nilFunc]:=rfl
@[simp,go_sem] theorem afA:(T 164).kind=.other:=rfl
@[simp,go_sem] theorem afB:(T 164).size=1:=rfl
@[simp,go_sem] theorem afC:(T 164).bytes=8:=rfl
@[simp,go_sem] theorem afD:(T 164).zero=[Go.Value.pointer none]:=rfl
@[simp,go_sem] theorem afE:(T 167).kind=.slice 26:=rfl
@[simp,go_sem] theorem afF:(T 167).size=1:=rfl
@[simp,go_sem] theorem afG:(T 167).bytes=24:=rfl
@[simp,go_sem] theorem afH:(T 167).zero=[Go.Value.slice none 0 0]:=rfl
@[simp,go_sem] theorem afI:(T 185).kind=.struct [(0,9),(1,26),(2,3)]:=rfl
@[simp,go_sem] theorem afJ:(T 185).size=3:=rfl
@[simp,go_sem] theorem afK:(T 185).bytes=48:=rfl
@[simp,go_sem] theorem afL:(T 185).zero=[Go.Value.string { data:=#[] },Go.Value.slice none 0 0,Go.Value.int Go.IntKind.i64 0]:=rfl
@[simp,go_sem] theorem afM:(T 186).kind=.slice 4:=rfl
@[simp,go_sem] theorem afN:(T 186).size=1:=rfl
@[simp,go_sem] theorem afO:(T 186).bytes=24:=rfl
@[simp,go_sem] theorem afP:(T 186).zero=[Go.Value.slice none 0 0]:=rfl
@[simp,go_sem] theorem afQ:(T 188).kind=.struct [(0,3),(1,3),(2,111)]:=rfl
@[simp,go_sem] theorem afR:(T 188).size=4:=rfl
@[simp,go_sem] theorem afS:(T 188).bytes=32:=rfl
@[simp,go_sem] theorem afT:(T 188).zero=[Go.Value.int Go.IntKind.i64 0,Go.Value.int Go.IntKind.i64 0,Go.Value.int Go.IntKind.i64 0,Go.Value.int Go.IntKind.i64 0]:=rfl
@[simp,go_sem] theorem afU:(T 192).kind=.slice 260:=rfl
@[simp,go_sem] theorem afV:(T 192).size=1:=rfl
@[simp,go_sem] theorem afW:(T 192).bytes=24:=rfl
@[simp,go_sem] theorem afX:(T 192).zero=[Go.Value.slice none 0 0]:=rfl
@[simp,go_sem] theorem afY:(T 194).kind=.struct [(0,3),(1,192)]:=rfl
@[simp,go_sem] theorem afZ:(T 194).size=2:=rfl
@[simp,go_sem] theorem aga:(T 194).bytes=32:=rfl
@[simp,go_sem] theorem agb:(T 194).zero=[Go.Value.int Go.IntKind.i64 0,Go.Value.slice none 0 0]:=rfl
@[simp,go_sem] theorem agc:(T 198).kind=.struct [(0,3),(1,26)]:=rfl
@[simp,go_sem] theorem agd:(T 198).size=2:=rfl
@[simp,go_sem] theorem age:(T 198).bytes=32:=rfl
@[simp,go_sem] theorem agf:(T 198).zero=[Go.Value.int Go.IntKind.i64 0,Go.Value.slice none 0 0]:=rfl
@[simp,go_sem] theorem agh:(T 205).kind=.struct [(0,3),(1,3),(2,3),(3,3),(4,4)]:=rfl
@[simp,go_sem] theorem agi:(T 205).size=5:=rfl
@[simp,go_sem] theorem agj:(T 205).bytes=40:=rfl
@[simp,go_sem] theorem agk:(T 205).zero=[Go.Value.int Go.IntKind.i64 0,Go.Value.int Go.IntKind.i64 0,Go.Value.int Go.IntKind.i64 0,Go.Value.int Go.IntKind.i64 0,Go.Value.bool false]:=rfl
@[simp,go_sem] theorem agl:(T 205).eqs=some [(0,3),(1,3),(2,3),(3,3),(4,4)]:=rfl
@[simp,go_sem] theorem agm:(T 213).kind=.struct [(0,47),(1,3),(2,3)]:=rfl
@[simp,go_sem] theorem agn:(T 213).size=3:=rfl
@[simp,go_sem] theorem ago:(T 213).bytes=40:=rfl
@[simp,go_sem] theorem agp:(T 213).zero=[Go.Value.slice none 0 0,Go.Value.int Go.IntKind.i64 0,Go.Value.int Go.IntKind.i64 0]:=rfl
@[simp,go_sem] theorem agq:(T 217).kind=.other:=rfl
@[simp,go_sem] theorem agr:(T 217).size=1:=rfl
@[simp,go_sem] theorem ags:(T 217).bytes=8:=rfl
@[simp,go_sem] theorem agt:(T 217).zero=[Go.Value.nilFunc]:=rfl
@[simp,go_sem] theorem agu:(T 219).kind=.other:=rfl
@[simp,go_sem] theorem agv:(T 219).size=1:=rfl
@[simp,go_sem] theorem agw:(T 219).bytes=8:=rfl
@[simp,go_sem] theorem agx:(T 219).zero=[Go.Value.nilFunc]:=rfl
@[simp,go_sem] theorem agy:(T 222).kind=.other:=rfl
@[simp,go_sem] theorem agz:(T 222).size=1:=rfl
@[simp,go_sem] theorem agA:(T 222).bytes=8:=rfl
@[simp,go_sem] theorem agB:(T 222).zero=[Go.Value.nilFunc]:=rfl
@[simp,go_sem] theorem agC:(T 233).kind=.other:=rfl
@[simp,go_sem] theorem agD:(T 233).size=1:=rfl
@[simp,go_sem] theorem agE:(T 233).bytes=8:=rfl
@[simp,go_sem] theorem agF:(T 233).zero=[Go.Value.nilFunc]:=rfl
@[simp,go_sem] theorem agG:(T 235).kind=.other:=rfl
@[simp,go_sem] theorem agH:(T 235).size=1:=rfl
@[simp,go_sem] theorem agI:(T 235).bytes=8:=rfl
@[simp,go_sem] theorem agJ:(T 235).zero=[Go.Value.nilFunc]:=rfl
@[simp,go_sem] theorem agK:(T 239).kind=.other:=rfl
@[simp,go_sem] theorem agL:(T 239).size=1:=rfl
@[simp,go_sem] theorem agM:(T 239).bytes=8:=rfl
@[simp,go_sem] theorem agN:(T 239).zero=[Go.Value.nilFunc]:=rfl
@[simp,go_sem] theorem agO:(T 241).kind=.map 9 4:=rfl
@[simp,go_sem] theorem agP:(T 241).size=1:=rfl
@[simp,go_sem] theorem agQ:(T 241).bytes=8:=rfl
@[simp,go_sem] theorem agR:(T 241).zero=[Go.Value.map none]:=rfl
@[simp,go_sem] theorem agS:(T 243).kind=.struct [(0,36),(3,241)]:=rfl
@[simp,go_sem] theorem agT:(T 243).size=4:=rfl
@[simp,go_sem] theorem agU:(T 243).bytes=64:=rfl
@[simp,go_sem] theorem agV:(T 243).zero=[Go.Value.slice none 0 0,Go.Value.slice none 0 0,Go.Value.int Go.IntKind.i64 0,Go.Value.map none]:=rfl
@[simp,go_sem] theorem agW:(T 250).kind=.int .u64:=rfl
@[simp,go_sem] theorem agX:(T 250).size=1:=rfl
@[simp,go_sem] theorem agY:(T 250).bytes=8:=rfl
@[simp,go_sem] theorem agZ:(T 250).zero=[Go.Value.int Go.IntKind.u64 0]:=rfl
@[simp,go_sem] theorem aha:(T 253).kind=.struct [(0,9),(1,3),(2,4),(3,3),(4,3),(5,3),(6,3),(7,4),(8,3),(9,3),(10,3)]:=rfl
@[simp,go_sem] theorem ahb:(T 253).size=11:=rfl
@[simp,go_sem] theorem ahc:(T 253).bytes=96:=rfl
@[simp,go_sem] theorem ahd:(T 253).zero=[Go.Value.string { data:=#[] },Go.Value.int Go.IntKind.i64 0,Go.Value.bool false,Go.Value.int Go.IntKind.i64 0,Go.Value.int Go.IntKind.i64 0,Go.Value.int Go.IntKind.i64 0,Go.Value.int Go.IntKind.i64 0,Go.Value.bool false,Go.Value.int Go.IntKind.i64 0,Go.Value.int Go.IntKind.i64 0,Go.Value.int Go.IntKind.i64 0]:=rfl
@[simp,go_sem] theorem ahe:(T 253).eqs=some [(0,9),(1,3),(2,4),(3,3),(4,3),(5,3),(6,3),(7,4),(8,3),(9,3),(10,3)]:=rfl
@[simp,go_sem] theorem ahf:(T 260).kind=.struct [(0,3),(1,3),(2,3)]:=rfl
@[simp,go_sem] theorem ahg:(T 260).size=3:=rfl
@[simp,go_sem] theorem ahh:(T 260).bytes=24:=rfl
@[simp,go_sem] theorem ahi:(T 260).zero=[Go.Value.int Go.IntKind.i64 0,Go.Value.int Go.IntKind.i64 0,Go.Value.int Go.IntKind.i64 0]:=rfl
@[simp,go_sem] theorem ahj:(T 260).eqs=some [(0,3),(1,3),(2,3)]:=rfl
@[simp,go_sem] theorem ahk:(T 266).kind=.other:=rfl
@[simp,go_sem] theorem ahl:(T 266).size=1:=rfl
@[simp,go_sem] theorem ahm:(T 266).bytes=8:=rfl
@[simp,go_sem] theorem ahn:(T 266).zero=[Go.Value.nilFunc]:=rfl
@[simp,go_sem] theorem aho:(T 269).kind=.other:=rfl
@[simp,go_sem] theorem ahp:(T 269).size=1:=rfl
@[simp,go_sem] theorem ahq:(T 269).bytes=8:=rfl
@[simp,go_sem] theorem ahr:(T 269).zero=[Go.Value.nilFunc]:=rfl
@[simp,go_sem] theorem ahs:(T 282).kind=.other:=rfl
@[simp,go_sem] theorem aht:(T 282).size=1:=rfl
@[simp,go_sem] theorem ahu:(T 282).bytes=8:=rfl
@[simp,go_sem] theorem ahv:(T 282).zero=[Go.Value.pointer none]:=rfl
@[simp,go_sem] theorem ahw:(T 284).kind=.struct [(0,282),(1,47)]:=rfl
@[simp,go_sem] theorem ahx:(T 284).size=2:=rfl
@[simp,go_sem] theorem ahy:(T 284).bytes=32:=rfl
@[simp,go_sem] theorem ahz:(T 284).zero=[Go.Value.pointer none,Go.Value.slice none 0 0]:=rfl
@[simp,go_sem] theorem ahA:(T 298).kind=.other:=rfl
@[simp,go_sem] theorem ahB:(T 298).size=1:=rfl
@[simp,go_sem] theorem ahC:(T 298).bytes=8:=rfl
@[simp,go_sem] theorem ahD:(T 298).zero=[Go.Value.nilFunc]:=rfl
@[simp,go_sem] theorem ahE:(T 299).kind=.int .u32:=rfl
@[simp,go_sem] theorem ahF:(T 299).size=1:=rfl
@[simp,go_sem] theorem ahG:(T 299).bytes=4:=rfl
@[simp,go_sem] theorem ahH:(T 299).zero=[Go.Value.int Go.IntKind.u32 0]:=rfl
@[simp,go_sem] theorem ahI:(T 302).kind=.int .u64:=rfl
@[simp,go_sem] theorem ahJ:(T 302).size=1:=rfl
@[simp,go_sem] theorem ahK:(T 302).bytes=8:=rfl
@[simp,go_sem] theorem ahL:(T 302).zero=[Go.Value.int Go.IntKind.u64 0]:=rfl
@[simp,go_sem] theorem ahM:(T 310).kind=.int .i64:=rfl
@[simp,go_sem] theorem ahN:(T 310).size=1:=rfl
@[simp,go_sem] theorem ahO:(T 310).bytes=8:=rfl
@[simp,go_sem] theorem ahP:(T 310).zero=[Go.Value.int Go.IntKind.i64 0]:=rfl
end
end Go.Proofs.Qi
