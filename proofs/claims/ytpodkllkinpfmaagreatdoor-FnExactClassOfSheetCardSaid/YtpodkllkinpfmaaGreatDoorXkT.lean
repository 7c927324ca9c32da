/- The types of the seat,and that they fit. Made by gentypes.py. -/
import Derived.Test.YtpodkllkinpfmaaGreatDoorXk31
import Derived.KernelRfl
import Derived.Test.YtpodkllkinpfmaaGreatDoorProg
set_option linter.all false
namespace Go.Proofs.Qk
open Go Tryz
def unkTy:Ty:=⟨.unknown,0,0,[],none⟩
def ty1:Ty:=⟨.other,1,8,[Go.Value.nilFunc],none⟩
def ty2:Ty:=⟨.int .i64,1,8,[Go.Value.int Go.IntKind.i64 0],none⟩
def ty3:Ty:=⟨.int .i64,1,8,[Go.Value.int Go.IntKind.i64 0],none⟩
def ty4:Ty:=⟨.bool,1,1,[Go.Value.bool false],none⟩
def ty5:Ty:=⟨.int .u8,1,1,[Go.Value.int Go.IntKind.u8 0],none⟩
def ty6:Ty:=⟨.int .u8,1,1,[Go.Value.int Go.IntKind.u8 0],none⟩
def ty7:Ty:=⟨.struct [(0,2),(1,3),(2,4),(3,6)],4,24,[Go.Value.int Go.IntKind.i64 0,Go.Value.int Go.IntKind.i64 0,Go.Value.bool false,Go.Value.int Go.IntKind.u8 0],none⟩
def ty8:Ty:=⟨.struct [(0,2),(1,3),(2,4),(3,6)],4,24,[Go.Value.int Go.IntKind.i64 0,Go.Value.int Go.IntKind.i64 0,Go.Value.bool false,Go.Value.int Go.IntKind.u8 0],none⟩
def ty9:Ty:=⟨.str,1,16,[Go.Value.string { data:=#[] }],none⟩
def ty10:Ty:=⟨.str,1,16,[Go.Value.string { data:=#[] }],none⟩
def ty20:Ty:=⟨.other,1,16,[Go.Value.nilIface],none⟩
def ty26:Ty:=⟨.slice 3,1,24,[Go.Value.slice none 0 0],none⟩
def ty31:Ty:=⟨.slice 9,1,24,[Go.Value.slice none 0 0],none⟩
def ty33:Ty:=⟨.slice 109,1,24,[Go.Value.slice none 0 0],none⟩
def ty34:Ty:=⟨.slice 133,1,24,[Go.Value.slice none 0 0],none⟩
def ty36:Ty:=⟨.struct [(0,33),(1,34),(2,3)],3,56,[Go.Value.slice none 0 0,Go.Value.slice none 0 0,Go.Value.int Go.IntKind.i64 0],none⟩
def ty38:Ty:=⟨.struct [(0,26),(1,26)],2,48,[Go.Value.slice none 0 0,Go.Value.slice none 0 0],none⟩
def ty47:Ty:=⟨.slice 5,1,24,[Go.Value.slice none 0 0],none⟩
def ty60:Ty:=⟨.struct [(0,3),(1,26),(2,26)],3,56,[Go.Value.int Go.IntKind.i64 0,Go.Value.slice none 0 0,Go.Value.slice none 0 0],none⟩
def ty77:Ty:=⟨.slice 156,1,24,[Go.Value.slice none 0 0],none⟩
def ty79:Ty:=⟨.struct [(0,77),(1,26),(2,3)],3,56,[Go.Value.slice none 0 0,Go.Value.slice none 0 0,Go.Value.int Go.IntKind.i64 0],none⟩
def ty92:Ty:=⟨.slice 253,1,24,[Go.Value.slice none 0 0],none⟩
def ty94:Ty:=⟨.struct [(0,92),(1,26),(2,3)],3,56,[Go.Value.slice none 0 0,Go.Value.slice none 0 0,Go.Value.int Go.IntKind.i64 0],none⟩
def ty102:Ty:=⟨.slice 188,1,24,[Go.Value.slice none 0 0],none⟩
def ty104:Ty:=⟨.struct [(0,3),(1,102)],2,32,[Go.Value.int Go.IntKind.i64 0,Go.Value.slice none 0 0],none⟩
def ty109:Ty:=⟨.struct [(0,9),(1,26),(2,3)],3,48,[Go.Value.string { data:=#[] },Go.Value.slice none 0 0,Go.Value.int Go.IntKind.i64 0],none⟩
def ty111:Ty:=⟨.struct [(0,3),(1,3)],2,16,[Go.Value.int Go.IntKind.i64 0,Go.Value.int Go.IntKind.i64 0],some [(0,3),(1,3)]⟩
def ty133:Ty:=⟨.struct [(0,3),(1,3),(2,3),(3,3),(4,4)],5,40,[Go.Value.int Go.IntKind.i64 0,Go.Value.int Go.IntKind.i64 0,Go.Value.int Go.IntKind.i64 0,Go.Value.int Go.IntKind.i64 0,Go.Value.bool false],some [(0,3),(1,3),(2,3),(3,3),(4,4)]⟩
def ty156:Ty:=⟨.struct [(0,9),(1,3),(2,4),(3,3),(4,3),(5,3),(6,3),(7,4),(8,3),(9,3),(10,3)],11,96,[Go.Value.string { data:=#[] },Go.Value.int Go.IntKind.i64 0,Go.Value.bool false,Go.Value.int Go.IntKind.i64 0,Go.Value.int Go.IntKind.i64 0,Go.Value.int Go.IntKind.i64 0,Go.Value.int Go.IntKind.i64 0,Go.Value.bool false,Go.Value.int Go.IntKind.i64 0,Go.Value.int Go.IntKind.i64 0,Go.Value.int Go.IntKind.i64 0],some [(0,9),(1,3),(2,4),(3,3),(4,3),(5,3),(6,3),(7,4),(8,3),(9,3),(10,3)]⟩
def ty163:Ty:=⟨.other,1,8,[Go.Value.nilFunc],none⟩
def ty164:Ty:=⟨.other,1,8,[Go.Value.pointer none],none⟩
def ty167:Ty:=⟨.slice 26,1,24,[Go.Value.slice none 0 0],none⟩
def ty186:Ty:=⟨.slice 4,1,24,[Go.Value.slice none 0 0],none⟩
def ty188:Ty:=⟨.struct [(0,3),(1,3),(2,111)],4,32,[Go.Value.int Go.IntKind.i64 0,Go.Value.int Go.IntKind.i64 0,Go.Value.int Go.IntKind.i64 0,Go.Value.int Go.IntKind.i64 0],none⟩
def ty192:Ty:=⟨.slice 260,1,24,[Go.Value.slice none 0 0],none⟩
def ty194:Ty:=⟨.struct [(0,3),(1,192)],2,32,[Go.Value.int Go.IntKind.i64 0,Go.Value.slice none 0 0],none⟩
def ty198:Ty:=⟨.struct [(0,3),(1,26)],2,32,[Go.Value.int Go.IntKind.i64 0,Go.Value.slice none 0 0],none⟩
def ty217:Ty:=⟨.other,1,8,[Go.Value.nilFunc],none⟩
def ty219:Ty:=⟨.other,1,8,[Go.Value.nilFunc],none⟩
def ty222:Ty:=⟨.other,1,8,[Go.Value.nilFunc],none⟩
def ty239:Ty:=⟨.other,1,8,[Go.Value.nilFunc],none⟩
def ty241:Ty:=⟨.map 9 4,1,8,[Go.Value.map none],none⟩
def ty243:Ty:=⟨.struct [(0,36),(3,241)],4,64,[Go.Value.slice none 0 0,Go.Value.slice none 0 0,Go.Value.int Go.IntKind.i64 0,Go.Value.map none],none⟩
def ty250:Ty:=⟨.int .u64,1,8,[Go.Value.int Go.IntKind.u64 0],none⟩
def ty253:Ty:=⟨.struct [(0,9),(1,3),(2,4),(3,3),(4,3),(5,3),(6,3),(7,4),(8,3),(9,3),(10,3)],11,96,[Go.Value.string { data:=#[] },Go.Value.int Go.IntKind.i64 0,Go.Value.bool false,Go.Value.int Go.IntKind.i64 0,Go.Value.int Go.IntKind.i64 0,Go.Value.int Go.IntKind.i64 0,Go.Value.int Go.IntKind.i64 0,Go.Value.bool false,Go.Value.int Go.IntKind.i64 0,Go.Value.int Go.IntKind.i64 0,Go.Value.int Go.IntKind.i64 0],some [(0,9),(1,3),(2,4),(3,3),(4,3),(5,3),(6,3),(7,4),(8,3),(9,3),(10,3)]⟩
def ty260:Ty:=⟨.struct [(0,3),(1,3),(2,3)],3,24,[Go.Value.int Go.IntKind.i64 0,Go.Value.int Go.IntKind.i64 0,Go.Value.int Go.IntKind.i64 0],some [(0,3),(1,3),(2,3)]⟩
def ty266:Ty:=⟨.other,1,8,[Go.Value.nilFunc],none⟩
def ty269:Ty:=⟨.other,1,8,[Go.Value.nilFunc],none⟩
def ty282:Ty:=⟨.other,1,8,[Go.Value.pointer none],none⟩
def ty284:Ty:=⟨.struct [(0,282),(1,47)],2,32,[Go.Value.pointer none,Go.Value.slice none 0 0],none⟩
def ty298:Ty:=⟨.other,1,8,[Go.Value.nilFunc],none⟩
def ty299:Ty:=⟨.int .u32,1,4,[Go.Value.int Go.IntKind.u32 0],none⟩
def ty302:Ty:=⟨.int .u64,1,8,[Go.Value.int Go.IntKind.u64 0],none⟩
def ty310:Ty:=⟨.int .i64,1,8,[Go.Value.int Go.IntKind.i64 0],none⟩
def tys:List Ty:=[unkTy,ty1,ty2,ty3,ty4,ty5,ty6,ty7,ty8,ty9,ty10,unkTy,unkTy,unkTy,unkTy,unkTy,unkTy,unkTy,unkTy,unkTy,ty20,unkTy,unkTy,unkTy,unkTy,unkTy,ty26,unkTy,unkTy,unkTy,unkTy,ty31,unkTy,ty33,ty34,unkTy,ty36,unkTy,ty38,unkTy,unkTy,unkTy,unkTy,unkTy,unkTy,unkTy,unkTy,ty47,unkTy,unkTy,unkTy,unkTy,unkTy,unkTy,unkTy,unkTy,unkTy,unkTy,unkTy,unkTy,ty60,unkTy,unkTy,unkTy,unkTy,unkTy,unkTy,unkTy,unkTy,unkTy,unkTy,unkTy,unkTy,unkTy,unkTy,unkTy,unkTy,ty77,unkTy,ty79,unkTy,unkTy,unkTy,unkTy,unkTy,unkTy,unkTy,unkTy,unkTy,unkTy,unkTy,unkTy,ty92,unkTy,ty94,unkTy,unkTy,unkTy,unkTy,unkTy,unkTy,unkTy,ty102,unkTy,ty104,unkTy,unkTy,unkTy,unkTy,ty109,unkTy,ty111,unkTy,unkTy,unkTy,unkTy,unkTy,unkTy,unkTy,unkTy,unkTy,unkTy,unkTy,unkTy,unkTy,unkTy,unkTy,unkTy,unkTy,unkTy,unkTy,unkTy,unkTy,ty133,unkTy,unkTy,unkTy,unkTy,unkTy,unkTy,unkTy,unkTy,unkTy,unkTy,unkTy,unkTy,unkTy,unkTy,unkTy,unkTy,unkTy,unkTy,unkTy,unkTy,unkTy,unkTy,ty156,unkTy,unkTy,unkTy,unkTy,unkTy,unkTy,ty163,ty164,unkTy,unkTy,ty167,unkTy,unkTy,unkTy,unkTy,unkTy,unkTy,unkTy,unkTy,unkTy,unkTy,unkTy,unkTy,unkTy,unkTy,unkTy,unkTy,unkTy,unkTy,ty186,unkTy,ty188,unkTy,unkTy,unkTy,ty192,unkTy,ty194,unkTy,unkTy,unkTy,ty198,unkTy,unkTy,unkTy,unkTy,unkTy,unkTy,unkTy,unkTy,unkTy,unkTy,unkTy,unkTy,unkTy,unkTy,unkTy,unkTy,unkTy,unkTy,ty217,unkTy,ty219,unkTy,unkTy,ty222,unkTy,unkTy,unkTy,unkTy,unkTy,unkTy,unkTy,unkTy,unkTy,unkTy,unkTy,unkTy,unkTy,unkTy,unkTy,unkTy,ty239,unkTy,ty241,unkTy,ty243,unkTy,unkTy,unkTy,unkTy,unkTy,unkTy,ty250,unkTy,unkTy,ty253,unkTy,unkTy,unkTy,unkTy,unkTy,unkTy,ty260,unkTy,unkTy,unkTy,unkTy,unkTy,ty266,unkTy,unkTy,ty269,unkTy,unkTy,unkTy,unkTy,unkTy,unkTy,unkTy,unkTy,unkTy,unkTy,unkTy,unkTy,ty282,unkTy,ty284,unkTy,unkTy,unkTy,unkTy,unkTy,unkTy,unkTy,unkTy,unkTy,unkTy,unkTy,unkTy,unkTy,ty298,ty299,unkTy,unkTy,ty302,unkTy,unkTy,unkTy,unkTy,unkTy,unkTy,unkTy,ty310]
def T (t:Nat):Ty:=tys.getD t unkTy
inductive bq (P:Program):Nat→List Ty→Prop
 | nil (k:Nat):bq P k []
 | cons {k:Nat} {ty:Ty} {l:List Ty} (h:TyOk P k ty) (r:bq P (k+1) l):bq P k (ty::l)
theorem bq.get {P:Program}:∀ {l:List Ty} {k:Nat},bq P k l→∀ i,TyOk P (k+i) (l.getD i unkTy)
 | _,_,.nil _,i=>by simp[unkTy,TyOk]
 | _,_,.cons h r,0=>h
 | _,_,.cons (k:=k) h r,i+1=>by
  have:=r.get i
  rw[show k+1+i=k+(i+1) by omega]at this
  simpa using this
theorem ag (P:Program)(t:Nat):TyOk P t unkTy:=by simp[unkTy,TyOk]
theorem aH {P:Program}{t:Nat}{ty:Ty}{i:TypeInfo}{z:Value}(hs:t<P.types.size)(h1:P.types[t]?=some i)(h2:i.zero=some z)(h:i.size=ty.size∧i.bytes=ty.bytes∧z.cells.toList=ty.zero∧ty.zero.length=ty.size)(h3:ty.zero.all (fun v=>v.oneCell')=true)(h4:ew P t ty.kind)(h5:∀ fs,ty.eqs=some fs→∃ fields:Array Field,P.underlying t=some (.struct fields)∧fields.toList.map (fun f=>(f.offset,f.type))=fs∧(∀ f,f∈fields.toList→f.name ≠ "_")∧P.stoodInHeld t=false∧P.eqGuardType P.depth t=false):TyOk P t ty:=by
 unfold TyOk
 split
 ·trivial
 exact⟨⟨i,z,(by unfold Tables.info?;rw[if_pos hs];exact h1),h.1,h.2.1,h2,h.2.2.1,h.2.2.2⟩,fun v hv=>List.all_eq_true.1 h3 v hv,h4,h5⟩
theorem XM:TyOk prog 1 ty1:=aH (i:=Tryz.t1) (by rw[types_size];decide) type1 rfl ⟨rfl,rfl,rfl,rfl⟩ rfl (by exact⟨_,underlying1,rfl⟩) (by intro fs h;cases h)
theorem XN:TyOk prog 2 ty2:=aH (i:=Tryz.t2) (by rw[types_size];decide) type2 rfl ⟨rfl,rfl,rfl,rfl⟩ rfl (by exact underlying2) (by intro fs h;cases h)
theorem XO:TyOk prog 3 ty3:=aH (i:=Tryz.t3) (by rw[types_size];decide) type3 rfl ⟨rfl,rfl,rfl,rfl⟩ rfl (by exact underlying3) (by intro fs h;cases h)
theorem XP:TyOk prog 4 ty4:=aH (i:=Tryz.t4) (by rw[types_size];decide) type4 rfl ⟨rfl,rfl,rfl,rfl⟩ rfl (by exact underlying4) (by intro fs h;cases h)
theorem XQ:TyOk prog 5 ty5:=aH (i:=Tryz.t5) (by rw[types_size];decide) type5 rfl ⟨rfl,rfl,rfl,rfl⟩ rfl (by exact underlying5) (by intro fs h;cases h)
theorem XR:TyOk prog 6 ty6:=aH (i:=Tryz.t6) (by rw[types_size];decide) type6 rfl ⟨rfl,rfl,rfl,rfl⟩ rfl (by exact underlying6) (by intro fs h;cases h)
theorem XS:TyOk prog 7 ty7:=aH (i:=Tryz.t7) (by rw[types_size];decide) type7 rfl ⟨rfl,rfl,rfl,rfl⟩ rfl (by exact⟨_,underlying7,rfl⟩) (by intro fs h;cases h)
theorem XT:TyOk prog 8 ty8:=aH (i:=Tryz.t8) (by rw[types_size];decide) type8 rfl ⟨rfl,rfl,rfl,rfl⟩ rfl (by exact⟨_,underlying8,rfl⟩) (by intro fs h;cases h)
theorem XU:TyOk prog 9 ty9:=aH (i:=Tryz.t9) (by rw[types_size];decide) type9 rfl ⟨rfl,rfl,rfl,rfl⟩ rfl (by exact underlying9) (by intro fs h;cases h)
theorem WR:TyOk prog 10 ty10:=aH (i:=Tryz.t10) (by rw[types_size];decide) type10 rfl ⟨rfl,rfl,rfl,rfl⟩ rfl (by exact underlying10) (by intro fs h;cases h)
theorem WS:TyOk prog 20 ty20:=aH (i:=Tryz.t20) (by rw[types_size];decide) type20 rfl ⟨rfl,rfl,rfl,rfl⟩ rfl (by exact⟨_,underlying20,rfl⟩) (by intro fs h;cases h)
theorem WT:TyOk prog 26 ty26:=aH (i:=Tryz.t26) (by rw[types_size];decide) type26 rfl ⟨rfl,rfl,rfl,rfl⟩ rfl (by exact underlying26) (by intro fs h;cases h)
theorem WU:TyOk prog 31 ty31:=aH (i:=Tryz.t31) (by rw[types_size];decide) type31 rfl ⟨rfl,rfl,rfl,rfl⟩ rfl (by exact underlying31) (by intro fs h;cases h)
theorem WV:TyOk prog 33 ty33:=aH (i:=Tryz.t33) (by rw[types_size];decide) type33 rfl ⟨rfl,rfl,rfl,rfl⟩ rfl (by exact underlying33) (by intro fs h;cases h)
theorem WW:TyOk prog 34 ty34:=aH (i:=Tryz.t34) (by rw[types_size];decide) type34 rfl ⟨rfl,rfl,rfl,rfl⟩ rfl (by exact underlying34) (by intro fs h;cases h)
theorem WX:TyOk prog 36 ty36:=aH (i:=Tryz.t36) (by rw[types_size];decide) type36 rfl ⟨rfl,rfl,rfl,rfl⟩ rfl (by exact⟨_,underlying36,rfl⟩) (by intro fs h;cases h)
theorem WY:TyOk prog 38 ty38:=aH (i:=Tryz.t38) (by rw[types_size];decide) type38 rfl ⟨rfl,rfl,rfl,rfl⟩ rfl (by exact⟨_,underlying38,rfl⟩) (by intro fs h;cases h)
theorem WZ:TyOk prog 47 ty47:=aH (i:=Tryz.t47) (by rw[types_size];decide) type47 rfl ⟨rfl,rfl,rfl,rfl⟩ rfl (by exact underlying47) (by intro fs h;cases h)
theorem Xa:TyOk prog 60 ty60:=aH (i:=Tryz.t60) (by rw[types_size];decide) type60 rfl ⟨rfl,rfl,rfl,rfl⟩ rfl (by exact⟨_,underlying60,rfl⟩) (by intro fs h;cases h)
theorem Xb:TyOk prog 77 ty77:=aH (i:=Tryz.t77) (by rw[types_size];decide) type77 rfl ⟨rfl,rfl,rfl,rfl⟩ rfl (by exact underlying77) (by intro fs h;cases h)
theorem Xc:TyOk prog 79 ty79:=aH (i:=Tryz.t79) (by rw[types_size];decide) type79 rfl ⟨rfl,rfl,rfl,rfl⟩ rfl (by exact⟨_,underlying79,rfl⟩) (by intro fs h;cases h)
theorem Xd:TyOk prog 92 ty92:=aH (i:=Tryz.t92) (by rw[types_size];decide) type92 rfl ⟨rfl,rfl,rfl,rfl⟩ rfl (by exact underlying92) (by intro fs h;cases h)
theorem Xe:TyOk prog 94 ty94:=aH (i:=Tryz.t94) (by rw[types_size];decide) type94 rfl ⟨rfl,rfl,rfl,rfl⟩ rfl (by exact⟨_,underlying94,rfl⟩) (by intro fs h;cases h)
theorem Td:TyOk prog 102 ty102:=aH (i:=Tryz.t102) (by rw[types_size];decide) type102 rfl ⟨rfl,rfl,rfl,rfl⟩ rfl (by exact underlying102) (by intro fs h;cases h)
theorem Te:TyOk prog 104 ty104:=aH (i:=Tryz.t104) (by rw[types_size];decide) type104 rfl ⟨rfl,rfl,rfl,rfl⟩ rfl (by exact⟨_,underlying104,rfl⟩) (by intro fs h;cases h)
theorem Tf:TyOk prog 109 ty109:=aH (i:=Tryz.t109) (by rw[types_size];decide) type109 rfl ⟨rfl,rfl,rfl,rfl⟩ rfl (by exact⟨_,underlying109,rfl⟩) (by intro fs h;cases h)
theorem Tg:TyOk prog 111 ty111:=aH (i:=Tryz.t111) (by rw[types_size];decide) type111 rfl ⟨rfl,rfl,rfl,rfl⟩ rfl (by exact⟨_,underlying111,rfl⟩) (by intro fs h;cases h;exact⟨_,underlying111,rfl,by decide,by kernel_rfl,by kernel_rfl⟩)
theorem Th:TyOk prog 133 ty133:=aH (i:=Tryz.t133) (by rw[types_size];decide) type133 rfl ⟨rfl,rfl,rfl,rfl⟩ rfl (by exact⟨_,underlying133,rfl⟩) (by intro fs h;cases h;exact⟨_,underlying133,rfl,by decide,by kernel_rfl,by kernel_rfl⟩)
theorem Ti:TyOk prog 156 ty156:=aH (i:=Tryz.t156) (by rw[types_size];decide) type156 rfl ⟨rfl,rfl,rfl,rfl⟩ rfl (by exact⟨_,underlying156,rfl⟩) (by intro fs h;cases h;exact⟨_,underlying156,rfl,by decide,by kernel_rfl,by kernel_rfl⟩)
theorem Tj:TyOk prog 163 ty163:=aH (i:=Tryz.t163) (by rw[types_size];decide) type163 rfl ⟨rfl,rfl,rfl,rfl⟩ rfl (by exact⟨_,underlying163,rfl⟩) (by intro fs h;cases h)
theorem Tk:TyOk prog 164 ty164:=aH (i:=Tryz.t164) (by rw[types_size];decide) type164 rfl ⟨rfl,rfl,rfl,rfl⟩ rfl (by exact⟨_,underlying164,rfl⟩) (by intro fs h;cases h)
theorem Tl:TyOk prog 167 ty167:=aH (i:=Tryz.t167) (by rw[types_size];decide) type167 rfl ⟨rfl,rfl,rfl,rfl⟩ rfl (by exact underlying167) (by intro fs h;cases h)
theorem Tm:TyOk prog 186 ty186:=aH (i:=Tryz.t186) (by rw[types_size];decide) type186 rfl ⟨rfl,rfl,rfl,rfl⟩ rfl (by exact underlying186) (by intro fs h;cases h)
theorem Tn:TyOk prog 188 ty188:=aH (i:=Tryz.t188) (by rw[types_size];decide) type188 rfl ⟨rfl,rfl,rfl,rfl⟩ rfl (by exact⟨_,underlying188,rfl⟩) (by intro fs h;cases h)
theorem To:TyOk prog 192 ty192:=aH (i:=Tryz.t192) (by rw[types_size];decide) type192 rfl ⟨rfl,rfl,rfl,rfl⟩ rfl (by exact underlying192) (by intro fs h;cases h)
theorem Tp:TyOk prog 194 ty194:=aH (i:=Tryz.t194) (by rw[types_size];decide) type194 rfl ⟨rfl,rfl,rfl,rfl⟩ rfl (by exact⟨_,underlying194,rfl⟩) (by intro fs h;cases h)
theorem Tq:TyOk prog 198 ty198:=aH (i:=Tryz.t198) (by rw[types_size];decide) type198 rfl ⟨rfl,rfl,rfl,rfl⟩ rfl (by exact⟨_,underlying198,rfl⟩) (by intro fs h;cases h)
theorem Tr:TyOk prog 217 ty217:=aH (i:=Tryz.t217) (by rw[types_size];decide) type217 rfl ⟨rfl,rfl,rfl,rfl⟩ rfl (by exact⟨_,underlying217,rfl⟩) (by intro fs h;cases h)
theorem Ts:TyOk prog 219 ty219:=aH (i:=Tryz.t219) (by rw[types_size];decide) type219 rfl ⟨rfl,rfl,rfl,rfl⟩ rfl (by exact⟨_,underlying219,rfl⟩) (by intro fs h;cases h)
theorem Tt:TyOk prog 222 ty222:=aH (i:=Tryz.t222) (by rw[types_size];decide) type222 rfl ⟨rfl,rfl,rfl,rfl⟩ rfl (by exact⟨_,underlying222,rfl⟩) (by intro fs h;cases h)
theorem Tu:TyOk prog 239 ty239:=aH (i:=Tryz.t239) (by rw[types_size];decide) type239 rfl ⟨rfl,rfl,rfl,rfl⟩ rfl (by exact⟨_,underlying239,rfl⟩) (by intro fs h;cases h)
theorem Tv:TyOk prog 241 ty241:=aH (i:=Tryz.t241) (by rw[types_size];decide) type241 rfl ⟨rfl,rfl,rfl,rfl⟩ rfl (by exact underlying241) (by intro fs h;cases h)
theorem Tw:TyOk prog 243 ty243:=aH (i:=Tryz.t243) (by rw[types_size];decide) type243 rfl ⟨rfl,rfl,rfl,rfl⟩ rfl (by exact⟨_,underlying243,rfl⟩) (by intro fs h;cases h)
theorem Tx:TyOk prog 250 ty250:=aH (i:=Tryz.t250) (by rw[types_size];decide) type250 rfl ⟨rfl,rfl,rfl,rfl⟩ rfl (by exact underlying250) (by intro fs h;cases h)
theorem Tz:TyOk prog 253 ty253:=aH (i:=Tryz.t253) (by rw[types_size];decide) type253 rfl ⟨rfl,rfl,rfl,rfl⟩ rfl (by exact⟨_,underlying253,rfl⟩) (by intro fs h;cases h;exact⟨_,underlying253,rfl,by decide,by kernel_rfl,by kernel_rfl⟩)
theorem TA:TyOk prog 260 ty260:=aH (i:=Tryz.t260) (by rw[types_size];decide) type260 rfl ⟨rfl,rfl,rfl,rfl⟩ rfl (by exact⟨_,underlying260,rfl⟩) (by intro fs h;cases h;exact⟨_,underlying260,rfl,by decide,by kernel_rfl,by kernel_rfl⟩)
theorem TB:TyOk prog 266 ty266:=aH (i:=Tryz.t266) (by rw[types_size];decide) type266 rfl ⟨rfl,rfl,rfl,rfl⟩ rfl (by exact⟨_,underlying266,rfl⟩) (by intro fs h;cases h)
theorem TC:TyOk prog 269 ty269:=aH (i:=Tryz.t269) (by rw[types_size];decide) type269 rfl ⟨rfl,rfl,rfl,rfl⟩ rfl (by exact⟨_,underlying269,rfl⟩) (by intro fs h;cases h)
theorem TD:TyOk prog 282 ty282:=aH (i:=Tryz.t282) (by rw[types_size];decide) type282 rfl ⟨rfl,rfl,rfl,rfl⟩ rfl (by exact⟨_,underlying282,rfl⟩) (by intro fs h;cases h)
theorem TE:TyOk prog 284 ty284:=aH (i:=Tryz.t284) (by rw[types_size];decide) type284 rfl ⟨rfl,rfl,rfl,rfl⟩ rfl (by exact⟨_,underlying284,rfl⟩) (by intro fs h;cases h)
theorem TF:TyOk prog 298 ty298:=aH (i:=Tryz.t298) (by rw[types_size];decide) type298 rfl ⟨rfl,rfl,rfl,rfl⟩ rfl (by exact⟨_,underlying298,rfl⟩) (by intro fs h;cases h)
theorem TG:TyOk prog 299 ty299:=aH (i:=Tryz.t299) (by rw[types_size];decide) type299 rfl ⟨rfl,rfl,rfl,rfl⟩ rfl (by exact underlying299) (by intro fs h;cases h)
theorem TH:TyOk prog 302 ty302:=aH (i:=Tryz.t302) (by rw[types_size];decide) type302 rfl ⟨rfl,rfl,rfl,rfl⟩ rfl (by exact underlying302) (by intro fs h;cases h)
theorem TJ:TyOk prog 310 ty310:=aH (i:=Tryz.t310) (by rw[types_size];decide) type310 rfl ⟨rfl,rfl,rfl,rfl⟩ rfl (by exact underlying310) (by intro fs h;cases h)
theorem Xf {l:List Ty}(r:bq prog 16 l):bq prog 0 (unkTy::ty1::ty2::ty3::ty4::ty5::ty6::ty7::ty8::ty9::ty10::unkTy::unkTy::unkTy::unkTy::unkTy::l):=
 .cons (ag _ _) (.cons XM (.cons XN (.cons XO (.cons XP (.cons XQ (.cons XR (.cons XS (.cons XT (.cons XU (.cons WR (.cons (ag _ _) (.cons (ag _ _) (.cons (ag _ _) (.cons (ag _ _) (.cons (ag _ _) (r))))))))))))))))
theorem TL {l:List Ty}(r:bq prog 32 l):bq prog 16 (unkTy::unkTy::unkTy::unkTy::ty20::unkTy::unkTy::unkTy::unkTy::unkTy::ty26::unkTy::unkTy::unkTy::unkTy::ty31::l):=
 .cons (ag _ _) (.cons (ag _ _) (.cons (ag _ _) (.cons (ag _ _) (.cons WS (.cons (ag _ _) (.cons (ag _ _) (.cons (ag _ _) (.cons (ag _ _) (.cons (ag _ _) (.cons WT (.cons (ag _ _) (.cons (ag _ _) (.cons (ag _ _) (.cons (ag _ _) (.cons WU (r))))))))))))))))
theorem TM {l:List Ty}(r:bq prog 48 l):bq prog 32 (unkTy::ty33::ty34::unkTy::ty36::unkTy::ty38::unkTy::unkTy::unkTy::unkTy::unkTy::unkTy::unkTy::unkTy::ty47::l):=
 .cons (ag _ _) (.cons WV (.cons WW (.cons (ag _ _) (.cons WX (.cons (ag _ _) (.cons WY (.cons (ag _ _) (.cons (ag _ _) (.cons (ag _ _) (.cons (ag _ _) (.cons (ag _ _) (.cons (ag _ _) (.cons (ag _ _) (.cons (ag _ _) (.cons WZ (r))))))))))))))))
theorem TN {l:List Ty}(r:bq prog 64 l):bq prog 48 (unkTy::unkTy::unkTy::unkTy::unkTy::unkTy::unkTy::unkTy::unkTy::unkTy::unkTy::unkTy::ty60::unkTy::unkTy::unkTy::l):=
 .cons (ag _ _) (.cons (ag _ _) (.cons (ag _ _) (.cons (ag _ _) (.cons (ag _ _) (.cons (ag _ _) (.cons (ag _ _) (.cons (ag _ _) (.cons (ag _ _) (.cons (ag _ _) (.cons (ag _ _) (.cons (ag _ _) (.cons Xa (.cons (ag _ _) (.cons (ag _ _) (.cons (ag _ _) (r))))))))))))))))
theorem TO {l:List Ty}(r:bq prog 80 l):bq prog 64 (unkTy::unkTy::unkTy::unkTy::unkTy::unkTy::unkTy::unkTy::unkTy::unkTy::unkTy::unkTy::unkTy::ty77::unkTy::ty79::l):=
 .cons (ag _ _) (.cons (ag _ _) (.cons (ag _ _) (.cons (ag _ _) (.cons (ag _ _) (.cons (ag _ _) (.cons (ag _ _) (.cons (ag _ _) (.cons (ag _ _) (.cons (ag _ _) (.cons (ag _ _) (.cons (ag _ _) (.cons (ag _ _) (.cons Xb (.cons (ag _ _) (.cons Xc (r))))))))))))))))
theorem TP {l:List Ty}(r:bq prog 96 l):bq prog 80 (unkTy::unkTy::unkTy::unkTy::unkTy::unkTy::unkTy::unkTy::unkTy::unkTy::unkTy::unkTy::ty92::unkTy::ty94::unkTy::l):=
 .cons (ag _ _) (.cons (ag _ _) (.cons (ag _ _) (.cons (ag _ _) (.cons (ag _ _) (.cons (ag _ _) (.cons (ag _ _) (.cons (ag _ _) (.cons (ag _ _) (.cons (ag _ _) (.cons (ag _ _) (.cons (ag _ _) (.cons Xd (.cons (ag _ _) (.cons Xe (.cons (ag _ _) (r))))))))))))))))
theorem TQ {l:List Ty}(r:bq prog 112 l):bq prog 96 (unkTy::unkTy::unkTy::unkTy::unkTy::unkTy::ty102::unkTy::ty104::unkTy::unkTy::unkTy::unkTy::ty109::unkTy::ty111::l):=
 .cons (ag _ _) (.cons (ag _ _) (.cons (ag _ _) (.cons (ag _ _) (.cons (ag _ _) (.cons (ag _ _) (.cons Td (.cons (ag _ _) (.cons Te (.cons (ag _ _) (.cons (ag _ _) (.cons (ag _ _) (.cons (ag _ _) (.cons Tf (.cons (ag _ _) (.cons Tg (r))))))))))))))))
theorem QX {l:List Ty}(r:bq prog 128 l):bq prog 112 (unkTy::unkTy::unkTy::unkTy::unkTy::unkTy::unkTy::unkTy::unkTy::unkTy::unkTy::unkTy::unkTy::unkTy::unkTy::unkTy::l):=
 .cons (ag _ _) (.cons (ag _ _) (.cons (ag _ _) (.cons (ag _ _) (.cons (ag _ _) (.cons (ag _ _) (.cons (ag _ _) (.cons (ag _ _) (.cons (ag _ _) (.cons (ag _ _) (.cons (ag _ _) (.cons (ag _ _) (.cons (ag _ _) (.cons (ag _ _) (.cons (ag _ _) (.cons (ag _ _) (r))))))))))))))))
theorem QY {l:List Ty}(r:bq prog 144 l):bq prog 128 (unkTy::unkTy::unkTy::unkTy::unkTy::ty133::unkTy::unkTy::unkTy::unkTy::unkTy::unkTy::unkTy::unkTy::unkTy::unkTy::l):=
 .cons (ag _ _) (.cons (ag _ _) (.cons (ag _ _) (.cons (ag _ _) (.cons (ag _ _) (.cons Th (.cons (ag _ _) (.cons (ag _ _) (.cons (ag _ _) (.cons (ag _ _) (.cons (ag _ _) (.cons (ag _ _) (.cons (ag _ _) (.cons (ag _ _) (.cons (ag _ _) (.cons (ag _ _) (r))))))))))))))))
theorem QZ {l:List Ty}(r:bq prog 160 l):bq prog 144 (unkTy::unkTy::unkTy::unkTy::unkTy::unkTy::unkTy::unkTy::unkTy::unkTy::unkTy::unkTy::ty156::unkTy::unkTy::unkTy::l):=
 .cons (ag _ _) (.cons (ag _ _) (.cons (ag _ _) (.cons (ag _ _) (.cons (ag _ _) (.cons (ag _ _) (.cons (ag _ _) (.cons (ag _ _) (.cons (ag _ _) (.cons (ag _ _) (.cons (ag _ _) (.cons (ag _ _) (.cons Ti (.cons (ag _ _) (.cons (ag _ _) (.cons (ag _ _) (r))))))))))))))))
theorem Ra {l:List Ty}(r:bq prog 176 l):bq prog 160 (unkTy::unkTy::unkTy::ty163::ty164::unkTy::unkTy::ty167::unkTy::unkTy::unkTy::unkTy::unkTy::unkTy::unkTy::unkTy::l):=
 .cons (ag _ _) (.cons (ag _ _) (.cons (ag _ _) (.cons Tj (.cons Tk (.cons (ag _ _) (.cons (ag _ _) (.cons Tl (.cons (ag _ _) (.cons (ag _ _) (.cons (ag _ _) (.cons (ag _ _) (.cons (ag _ _) (.cons (ag _ _) (.cons (ag _ _) (.cons (ag _ _) (r))))))))))))))))
theorem Rb {l:List Ty}(r:bq prog 192 l):bq prog 176 (unkTy::unkTy::unkTy::unkTy::unkTy::unkTy::unkTy::unkTy::unkTy::unkTy::ty186::unkTy::ty188::unkTy::unkTy::unkTy::l):=
 .cons (ag _ _) (.cons (ag _ _) (.cons (ag _ _) (.cons (ag _ _) (.cons (ag _ _) (.cons (ag _ _) (.cons (ag _ _) (.cons (ag _ _) (.cons (ag _ _) (.cons (ag _ _) (.cons Tm (.cons (ag _ _) (.cons Tn (.cons (ag _ _) (.cons (ag _ _) (.cons (ag _ _) (r))))))))))))))))
theorem Rc {l:List Ty}(r:bq prog 208 l):bq prog 192 (ty192::unkTy::ty194::unkTy::unkTy::unkTy::ty198::unkTy::unkTy::unkTy::unkTy::unkTy::unkTy::unkTy::unkTy::unkTy::l):=
 .cons To (.cons (ag _ _) (.cons Tp (.cons (ag _ _) (.cons (ag _ _) (.cons (ag _ _) (.cons Tq (.cons (ag _ _) (.cons (ag _ _) (.cons (ag _ _) (.cons (ag _ _) (.cons (ag _ _) (.cons (ag _ _) (.cons (ag _ _) (.cons (ag _ _) (.cons (ag _ _) (r))))))))))))))))
theorem Rd {l:List Ty}(r:bq prog 224 l):bq prog 208 (unkTy::unkTy::unkTy::unkTy::unkTy::unkTy::unkTy::unkTy::unkTy::ty217::unkTy::ty219::unkTy::unkTy::ty222::unkTy::l):=
 .cons (ag _ _) (.cons (ag _ _) (.cons (ag _ _) (.cons (ag _ _) (.cons (ag _ _) (.cons (ag _ _) (.cons (ag _ _) (.cons (ag _ _) (.cons (ag _ _) (.cons Tr (.cons (ag _ _) (.cons Ts (.cons (ag _ _) (.cons (ag _ _) (.cons Tt (.cons (ag _ _) (r))))))))))))))))
theorem Re {l:List Ty}(r:bq prog 240 l):bq prog 224 (unkTy::unkTy::unkTy::unkTy::unkTy::unkTy::unkTy::unkTy::unkTy::unkTy::unkTy::unkTy::unkTy::unkTy::unkTy::ty239::l):=
 .cons (ag _ _) (.cons (ag _ _) (.cons (ag _ _) (.cons (ag _ _) (.cons (ag _ _) (.cons (ag _ _) (.cons (ag _ _) (.cons (ag _ _) (.cons (ag _ _) (.cons (ag _ _) (.cons (ag _ _) (.cons (ag _ _) (.cons (ag _ _) (.cons (ag _ _) (.cons (ag _ _) (.cons Tu (r))))))))))))))))
theorem Rf {l:List Ty}(r:bq prog 256 l):bq prog 240 (unkTy::ty241::unkTy::ty243::unkTy::unkTy::unkTy::unkTy::unkTy::unkTy::ty250::unkTy::unkTy::ty253::unkTy::unkTy::l):=
 .cons (ag _ _) (.cons Tv (.cons (ag _ _) (.cons Tw (.cons (ag _ _) (.cons (ag _ _) (.cons (ag _ _) (.cons (ag _ _) (.cons (ag _ _) (.cons (ag _ _) (.cons Tx (.cons (ag _ _) (.cons (ag _ _) (.cons Tz (.cons (ag _ _) (.cons (ag _ _) (r))))))))))))))))
theorem Rg {l:List Ty}(r:bq prog 272 l):bq prog 256 (unkTy::unkTy::unkTy::unkTy::ty260::unkTy::unkTy::unkTy::unkTy::unkTy::ty266::unkTy::unkTy::ty269::unkTy::unkTy::l):=
 .cons (ag _ _) (.cons (ag _ _) (.cons (ag _ _) (.cons (ag _ _) (.cons TA (.cons (ag _ _) (.cons (ag _ _) (.cons (ag _ _) (.cons (ag _ _) (.cons (ag _ _) (.cons TB (.cons (ag _ _) (.cons (ag _ _) (.cons TC (.cons (ag _ _) (.cons (ag _ _) (r))))))))))))))))
theorem Rh {l:List Ty}(r:bq prog 288 l):bq prog 272 (unkTy::unkTy::unkTy::unkTy::unkTy::unkTy::unkTy::unkTy::unkTy::unkTy::ty282::unkTy::ty284::unkTy::unkTy::unkTy::l):=
 .cons (ag _ _) (.cons (ag _ _) (.cons (ag _ _) (.cons (ag _ _) (.cons (ag _ _) (.cons (ag _ _) (.cons (ag _ _) (.cons (ag _ _) (.cons (ag _ _) (.cons (ag _ _) (.cons TD (.cons (ag _ _) (.cons TE (.cons (ag _ _) (.cons (ag _ _) (.cons (ag _ _) (r))))))))))))))))
theorem Ri {l:List Ty}(r:bq prog 304 l):bq prog 288 (unkTy::unkTy::unkTy::unkTy::unkTy::unkTy::unkTy::unkTy::unkTy::unkTy::ty298::ty299::unkTy::unkTy::ty302::unkTy::l):=
 .cons (ag _ _) (.cons (ag _ _) (.cons (ag _ _) (.cons (ag _ _) (.cons (ag _ _) (.cons (ag _ _) (.cons (ag _ _) (.cons (ag _ _) (.cons (ag _ _) (.cons (ag _ _) (.cons TF (.cons TG (.cons (ag _ _) (.cons (ag _ _) (.cons TH (.cons (ag _ _) (r))))))))))))))))
theorem Rj {l:List Ty}(r:bq prog 311 l):bq prog 304 (unkTy::unkTy::unkTy::unkTy::unkTy::unkTy::ty310::l):=
 .cons (ag _ _) (.cons (ag _ _) (.cons (ag _ _) (.cons (ag _ _) (.cons (ag _ _) (.cons (ag _ _) (.cons TJ (r)))))))
theorem hT (t:Nat):TyOk prog t (T t):=by
 have h:bq prog 0 tys:=Xf (TL (TM (TN (TO (TP (TQ (QX (QY (QZ (Ra (Rb (Rc (Rd (Re (Rf (Rg (Rh (Ri (Rj (.nil _))))))))))))))))))))
 have:=h.get t
 rw[Nat.zero_add]at this
 exact this
section
open TK
@[simp,go_sem] theorem Tk3:(T 3).kind=.int .i64:=rfl
@[simp,go_sem] theorem Ts3:(T 3).size=1:=rfl
@[simp,go_sem] theorem Tb3:(T 3).bytes=8:=rfl
@[simp,go_sem] theorem Tz3:(T 3).zero=[Go.Value.int Go.IntKind.i64 0]:=rfl
@[simp,go_sem] theorem Tk4:(T 4).kind=.bool:=rfl
@[simp,go_sem] theorem Ts4:(T 4).size=1:=rfl
@[simp,go_sem] theorem Tb4:(T 4).bytes=1:=rfl
@[simp,go_sem] theorem Tz4:(T 4).zero=[Go.Value.bool false]:=rfl
@[simp,go_sem] theorem Tk5:(T 5).kind=.int .u8:=rfl
@[simp,go_sem] theorem Ts5:(T 5).size=1:=rfl
@[simp,go_sem] theorem Tb5:(T 5).bytes=1:=rfl
@[simp,go_sem] theorem Tk9:(T 9).kind=.str:=rfl
@[simp,go_sem] theorem Ts9:(T 9).size=1:=rfl
@[simp,go_sem] theorem Tb9:(T 9).bytes=16:=rfl
@[simp,go_sem] theorem Tk26:(T 26).kind=.slice 3:=rfl
@[simp,go_sem] theorem Ts26:(T 26).size=1:=rfl
@[simp,go_sem] theorem Tb26:(T 26).bytes=24:=rfl
@[simp,go_sem] theorem Tk31:(T 31).kind=.slice 9:=rfl
@[simp,go_sem] theorem Ts31:(T 31).size=1:=rfl
@[simp,go_sem] theorem Tz31:(T 31).zero=[Go.Value.slice none 0 0]:=rfl
@[simp,go_sem] theorem Tk33:(T 33).kind=.slice 109:=rfl
@[simp,go_sem] theorem Ts33:(T 33).size=1:=rfl
@[simp,go_sem] theorem Tk34:(T 34).kind=.slice 133:=rfl
@[simp,go_sem] theorem Ts34:(T 34).size=1:=rfl
@[simp,go_sem] theorem Tk36:(T 36).kind=.struct [(0,33),(1,34),(2,3)]:=rfl
@[simp,go_sem] theorem Ts36:(T 36).size=3:=rfl
@[simp,go_sem] theorem Tz36:(T 36).zero=[Go.Value.slice none 0 0,Go.Value.slice none 0 0,Go.Value.int Go.IntKind.i64 0]:=rfl
@[simp,go_sem] theorem Tk38:(T 38).kind=.struct [(0,26),(1,26)]:=rfl
@[simp,go_sem] theorem Ts38:(T 38).size=2:=rfl
@[simp,go_sem] theorem Tz38:(T 38).zero=[Go.Value.slice none 0 0,Go.Value.slice none 0 0]:=rfl
@[simp,go_sem] theorem Tk47:(T 47).kind=.slice 5:=rfl
@[simp,go_sem] theorem Tk60:(T 60).kind=.struct [(0,3),(1,26),(2,26)]:=rfl
@[simp,go_sem] theorem Ts60:(T 60).size=3:=rfl
@[simp,go_sem] theorem Tz60:(T 60).zero=[Go.Value.int Go.IntKind.i64 0,Go.Value.slice none 0 0,Go.Value.slice none 0 0]:=rfl
@[simp,go_sem] theorem Tk77:(T 77).kind=.slice 156:=rfl
@[simp,go_sem] theorem Ts77:(T 77).size=1:=rfl
@[simp,go_sem] theorem Tk79:(T 79).kind=.struct [(0,77),(1,26),(2,3)]:=rfl
@[simp,go_sem] theorem Ts79:(T 79).size=3:=rfl
@[simp,go_sem] theorem Tz79:(T 79).zero=[Go.Value.slice none 0 0,Go.Value.slice none 0 0,Go.Value.int Go.IntKind.i64 0]:=rfl
@[simp,go_sem] theorem Tk92:(T 92).kind=.slice 253:=rfl
@[simp,go_sem] theorem Ts92:(T 92).size=1:=rfl
@[simp,go_sem] theorem Tk94:(T 94).kind=.struct [(0,92),(1,26),(2,3)]:=rfl
@[simp,go_sem] theorem Ts94:(T 94).size=3:=rfl
@[simp,go_sem] theorem aeK:(T 102).kind=.slice 188:=rfl
@[simp,go_sem] theorem aeL:(T 102).size=1:=rfl
@[simp,go_sem] theorem aeO:(T 104).kind=.struct [(0,3),(1,102)]:=rfl
@[simp,go_sem] theorem aeP:(T 104).size=2:=rfl
@[simp,go_sem] theorem aeR:(T 104).zero=[Go.Value.int Go.IntKind.i64 0,Go.Value.slice none 0 0]:=rfl
@[simp,go_sem] theorem aeS:(T 109).kind=.struct [(0,9),(1,26),(2,3)]:=rfl
@[simp,go_sem] theorem aeT:(T 109).size=3:=rfl
@[simp,go_sem] theorem aeU:(T 109).bytes=48:=rfl
@[simp,go_sem] theorem aeV:(T 109).zero=[Go.Value.string { data:=#[] },Go.Value.slice none 0 0,Go.Value.int Go.IntKind.i64 0]:=rfl
@[simp,go_sem] theorem aeW:(T 111).kind=.struct [(0,3),(1,3)]:=rfl
@[simp,go_sem] theorem aeX:(T 111).size=2:=rfl
@[simp,go_sem] theorem aeZ:(T 111).zero=[Go.Value.int Go.IntKind.i64 0,Go.Value.int Go.IntKind.i64 0]:=rfl
@[simp,go_sem] theorem afb:(T 133).kind=.struct [(0,3),(1,3),(2,3),(3,3),(4,4)]:=rfl
@[simp,go_sem] theorem afc:(T 133).size=5:=rfl
@[simp,go_sem] theorem afd:(T 133).bytes=40:=rfl
@[simp,go_sem] theorem afe:(T 133).zero=[Go.Value.int Go.IntKind.i64 0,Go.Value.int Go.IntKind.i64 0,Go.Value.int Go.IntKind.i64 0,Go.Value.int Go.IntKind.i64 0,Go.Value.bool false]:=rfl
@[simp,go_sem] theorem afg:(T 156).kind=.struct [(0,9),(1,3),(2,4),(3,3),(4,3),(5,3),(6,3),(7,4),(8,3),(9,3),(10,3)]:=rfl
@[simp,go_sem] theorem afh:(T 156).size=11:=rfl
@[simp,go_sem] theorem afi:(T 156).bytes=96:=rfl
@[simp,go_sem] theorem afj:(T 156).zero=[Go.Value.string { data:=#[] },Go.Value.int Go.IntKind.i64 0,Go.Value.bool false,Go.Value.int Go.IntKind.i64 0,Go.Value.int Go.IntKind.i64 0,Go.Value.int Go.IntKind.i64 0,Go.Value.int Go.IntKind.i64 0,Go.Value.bool false,Go.Value.int Go.IntKind.i64 0,Go.Value.int Go.IntKind.i64 0,Go.Value.int Go.IntKind.i64 0]:=rfl
@[simp,go_sem] theorem aft:(T 167).kind=.slice 26:=rfl
@[simp,go_sem] theorem afx:(T 186).kind=.slice 4:=rfl
@[simp,go_sem] theorem afB:(T 188).kind=.struct [(0,3),(1,3),(2,111)]:=rfl
@[simp,go_sem] theorem afC:(T 188).size=4:=rfl
@[simp,go_sem] theorem afD:(T 188).bytes=32:=rfl
@[simp,go_sem] theorem afE:(T 188).zero=[Go.Value.int Go.IntKind.i64 0,Go.Value.int Go.IntKind.i64 0,Go.Value.int Go.IntKind.i64 0,Go.Value.int Go.IntKind.i64 0]:=rfl
@[simp,go_sem] theorem afF:(T 192).kind=.slice 260:=rfl
@[simp,go_sem] theorem afG:(T 192).size=1:=rfl
@[simp,go_sem] theorem afJ:(T 194).kind=.struct [(0,3),(1,192)]:=rfl
@[simp,go_sem] theorem afK:(T 194).size=2:=rfl
@[simp,go_sem] theorem afM:(T 194).zero=[Go.Value.int Go.IntKind.i64 0,Go.Value.slice none 0 0]:=rfl
@[simp,go_sem] theorem afN:(T 198).kind=.struct [(0,3),(1,26)]:=rfl
@[simp,go_sem] theorem afO:(T 198).size=2:=rfl
@[simp,go_sem] theorem afQ:(T 198).zero=[Go.Value.int Go.IntKind.i64 0,Go.Value.slice none 0 0]:=rfl
@[simp,go_sem] theorem agi:(T 241).kind=.map 9 4:=rfl
@[simp,go_sem] theorem agj:(T 241).size=1:=rfl
@[simp,go_sem] theorem agm:(T 243).kind=.struct [(0,36),(3,241)]:=rfl
@[simp,go_sem] theorem agp:(T 243).zero=[Go.Value.slice none 0 0,Go.Value.slice none 0 0,Go.Value.int Go.IntKind.i64 0,Go.Value.map none]:=rfl
@[simp,go_sem] theorem agq:(T 250).kind=.int .u64:=rfl
@[simp,go_sem] theorem agu:(T 253).kind=.struct [(0,9),(1,3),(2,4),(3,3),(4,3),(5,3),(6,3),(7,4),(8,3),(9,3),(10,3)]:=rfl
@[simp,go_sem] theorem agv:(T 253).size=11:=rfl
@[simp,go_sem] theorem agz:(T 260).kind=.struct [(0,3),(1,3),(2,3)]:=rfl
@[simp,go_sem] theorem agA:(T 260).size=3:=rfl
@[simp,go_sem] theorem agB:(T 260).bytes=24:=rfl
@[simp,go_sem] theorem agC:(T 260).zero=[Go.Value.int Go.IntKind.i64 0,Go.Value.int Go.IntKind.i64 0,Go.Value.int Go.IntKind.i64 0]:=rfl
@[simp,go_sem] theorem ahc:(T 302).kind=.int .u64:=rfl
end
end Go.Proofs.Qk
