/- The types of the seat,and that they fit. Made by gentypes.py. -/
import Derived.Test.YtpkcmjnlnbddbaaGreatDoorXf31
import Derived.KernelRfl
import Derived.Test.YtpkcmjnlnbddbaaGreatDoorProg
set_option linter.all false
namespace Go.Proofs.Qf
open Go
def unkTy:Ty:=⟨.unknown,0,0,[],none⟩
def ty1:Ty:=⟨.other,1,8,[Go.Value.nilFunc],none⟩
def ty2:Ty:=⟨.int .i64,1,8,[Go.Value.int Go.IntKind.i64 0],none⟩
def ty3:Ty:=⟨.int .i64,1,8,[Go.Value.int Go.IntKind.i64 0],none⟩
def ty4:Ty:=⟨.bool,1,1,[Go.Value.bool false],none⟩
def ty5:Ty:=⟨.int .u8,1,1,[Go.Value.int Go.IntKind.u8 0],none⟩
def ty6:Ty:=⟨.int .u8,1,1,[Go.Value.int Go.IntKind.u8 0],none⟩
def ty7:Ty:=⟨.struct [(0,2),(1,3),(2,4),(3,6)],4,24,[Go.Value.int Go.IntKind.i64 0,Go.Value.int Go.IntKind.i64 0,Go.Value.bool false,Go.Value.int Go.IntKind.u8 0],none⟩
def ty8:Ty:=⟨.struct [(0,2),(1,3),(2,4),(3,6)],4,24,[Go.Value.int Go.IntKind.i64 0,Go.Value.int Go.IntKind.i64 0,Go.Value.bool false,Go.Value.int Go.IntKind.u8 0],none⟩
def ty9:Ty:=⟨.str,1,16,[Go.Value.string { data:=#[] }],none⟩
def ty10:Ty:=⟨.str,1,16,[Go.Value.string { data:=#[] }],none⟩
def ty20:Ty:=⟨.other,1,16,[Go.Value.nilIface],none⟩
def ty22:Ty:=⟨.slice 171,1,24,[Go.Value.slice none 0 0],none⟩
def ty23:Ty:=⟨.slice 184,1,24,[Go.Value.slice none 0 0],none⟩
def ty25:Ty:=⟨.struct [(0,22),(1,23),(2,3)],3,56,[Go.Value.slice none 0 0,Go.Value.slice none 0 0,Go.Value.int Go.IntKind.i64 0],none⟩
def ty26:Ty:=⟨.slice 3,1,24,[Go.Value.slice none 0 0],none⟩
def ty28:Ty:=⟨.struct [(0,26),(1,26)],2,48,[Go.Value.slice none 0 0,Go.Value.slice none 0 0],none⟩
def ty32:Ty:=⟨.slice 156,1,24,[Go.Value.slice none 0 0],none⟩
def ty33:Ty:=⟨.slice 86,1,24,[Go.Value.slice none 0 0],none⟩
def ty35:Ty:=⟨.struct [(0,32),(1,33),(2,3)],3,56,[Go.Value.slice none 0 0,Go.Value.slice none 0 0,Go.Value.int Go.IntKind.i64 0],none⟩
def ty37:Ty:=⟨.struct [(0,26),(1,26)],2,48,[Go.Value.slice none 0 0,Go.Value.slice none 0 0],none⟩
def ty46:Ty:=⟨.slice 5,1,24,[Go.Value.slice none 0 0],none⟩
def ty48:Ty:=⟨.struct [(0,3),(1,26),(2,26)],3,56,[Go.Value.int Go.IntKind.i64 0,Go.Value.slice none 0 0,Go.Value.slice none 0 0],none⟩
def ty49:Ty:=⟨.slice 125,1,24,[Go.Value.slice none 0 0],none⟩
def ty51:Ty:=⟨.struct [(0,35),(3,48),(6,4),(7,49)],8,144,[Go.Value.slice none 0 0,Go.Value.slice none 0 0,Go.Value.int Go.IntKind.i64 0,Go.Value.int Go.IntKind.i64 0,Go.Value.slice none 0 0,Go.Value.slice none 0 0,Go.Value.bool false,Go.Value.slice none 0 0],none⟩
def ty74:Ty:=⟨.slice 80,1,24,[Go.Value.slice none 0 0],none⟩
def ty80:Ty:=⟨.struct [(0,3),(1,3)],2,16,[Go.Value.int Go.IntKind.i64 0,Go.Value.int Go.IntKind.i64 0],some [(0,3),(1,3)]⟩
def ty82:Ty:=⟨.struct [(0,3),(1,3)],2,16,[Go.Value.int Go.IntKind.i64 0,Go.Value.int Go.IntKind.i64 0],some [(0,3),(1,3)]⟩
def ty86:Ty:=⟨.struct [(0,3),(1,3),(2,3),(3,3),(4,4)],5,40,[Go.Value.int Go.IntKind.i64 0,Go.Value.int Go.IntKind.i64 0,Go.Value.int Go.IntKind.i64 0,Go.Value.int Go.IntKind.i64 0,Go.Value.bool false],some [(0,3),(1,3),(2,3),(3,3),(4,4)]⟩
def ty87:Ty:=⟨.slice 9,1,24,[Go.Value.slice none 0 0],none⟩
def ty89:Ty:=⟨.slice 164,1,24,[Go.Value.slice none 0 0],none⟩
def ty91:Ty:=⟨.struct [(0,89),(1,26),(2,3)],3,56,[Go.Value.slice none 0 0,Go.Value.slice none 0 0,Go.Value.int Go.IntKind.i64 0],none⟩
def ty101:Ty:=⟨.slice 175,1,24,[Go.Value.slice none 0 0],none⟩
def ty103:Ty:=⟨.struct [(0,3),(1,101)],2,32,[Go.Value.int Go.IntKind.i64 0,Go.Value.slice none 0 0],none⟩
def ty118:Ty:=⟨.other,1,8,[Go.Value.pointer none],none⟩
def ty121:Ty:=⟨.other,1,8,[Go.Value.pointer none],none⟩
def ty123:Ty:=⟨.struct [(0,121),(1,46)],2,32,[Go.Value.pointer none,Go.Value.slice none 0 0],none⟩
def ty125:Ty:=⟨.struct [(0,3),(1,26),(2,26),(3,26)],4,80,[Go.Value.int Go.IntKind.i64 0,Go.Value.slice none 0 0,Go.Value.slice none 0 0,Go.Value.slice none 0 0],none⟩
def ty127:Ty:=⟨.other,1,16,[Go.Value.nilIface],none⟩
def ty138:Ty:=⟨.other,1,8,[Go.Value.nilFunc],none⟩
def ty147:Ty:=⟨.other,1,8,[Go.Value.pointer none],none⟩
def ty153:Ty:=⟨.other,1,8,[Go.Value.nilFunc],none⟩
def ty156:Ty:=⟨.struct [(0,9),(1,26),(2,3)],3,48,[Go.Value.string { data:=#[] },Go.Value.slice none 0 0,Go.Value.int Go.IntKind.i64 0],none⟩
def ty157:Ty:=⟨.other,1,8,[Go.Value.nilFunc],none⟩
def ty164:Ty:=⟨.struct [(0,9),(1,3),(2,4),(3,3),(4,3),(5,3),(6,3),(7,4),(8,3),(9,3),(10,3)],11,96,[Go.Value.string { data:=#[] },Go.Value.int Go.IntKind.i64 0,Go.Value.bool false,Go.Value.int Go.IntKind.i64 0,Go.Value.int Go.IntKind.i64 0,Go.Value.int Go.IntKind.i64 0,Go.Value.int Go.IntKind.i64 0,Go.Value.bool false,Go.Value.int Go.IntKind.i64 0,Go.Value.int Go.IntKind.i64 0,Go.Value.int Go.IntKind.i64 0],some [(0,9),(1,3),(2,4),(3,3),(4,3),(5,3),(6,3),(7,4),(8,3),(9,3),(10,3)]⟩
def ty171:Ty:=⟨.struct [(0,9),(1,26),(2,3)],3,48,[Go.Value.string { data:=#[] },Go.Value.slice none 0 0,Go.Value.int Go.IntKind.i64 0],none⟩
def ty172:Ty:=⟨.slice 4,1,24,[Go.Value.slice none 0 0],none⟩
def ty175:Ty:=⟨.struct [(0,3),(1,3),(2,82)],4,32,[Go.Value.int Go.IntKind.i64 0,Go.Value.int Go.IntKind.i64 0,Go.Value.int Go.IntKind.i64 0,Go.Value.int Go.IntKind.i64 0],none⟩
def ty184:Ty:=⟨.struct [(0,3),(1,3),(2,3),(3,3),(4,4)],5,40,[Go.Value.int Go.IntKind.i64 0,Go.Value.int Go.IntKind.i64 0,Go.Value.int Go.IntKind.i64 0,Go.Value.int Go.IntKind.i64 0,Go.Value.bool false],some [(0,3),(1,3),(2,3),(3,3),(4,4)]⟩
def ty192:Ty:=⟨.other,1,8,[Go.Value.nilFunc],none⟩
def ty193:Ty:=⟨.slice 26,1,24,[Go.Value.slice none 0 0],none⟩
def ty197:Ty:=⟨.struct [(0,46),(1,3),(2,3)],3,40,[Go.Value.slice none 0 0,Go.Value.int Go.IntKind.i64 0,Go.Value.int Go.IntKind.i64 0],none⟩
def ty211:Ty:=⟨.other,1,8,[Go.Value.nilFunc],none⟩
def ty215:Ty:=⟨.other,1,8,[Go.Value.nilFunc],none⟩
def ty220:Ty:=⟨.int .u64,1,8,[Go.Value.int Go.IntKind.u64 0],none⟩
def ty224:Ty:=⟨.map 9 4,1,8,[Go.Value.map none],none⟩
def ty226:Ty:=⟨.struct [(0,35),(3,224)],4,64,[Go.Value.slice none 0 0,Go.Value.slice none 0 0,Go.Value.int Go.IntKind.i64 0,Go.Value.map none],none⟩
def ty237:Ty:=⟨.other,1,8,[Go.Value.nilFunc],none⟩
def ty240:Ty:=⟨.other,1,8,[Go.Value.nilFunc],none⟩
def ty242:Ty:=⟨.other,1,8,[Go.Value.nilFunc],none⟩
def ty246:Ty:=⟨.other,1,8,[Go.Value.nilFunc],none⟩
def ty268:Ty:=⟨.int .u32,1,4,[Go.Value.int Go.IntKind.u32 0],none⟩
def ty271:Ty:=⟨.int .u64,1,8,[Go.Value.int Go.IntKind.u64 0],none⟩
def ty277:Ty:=⟨.other,1,8,[Go.Value.nilFunc],none⟩
def ty295:Ty:=⟨.int .i64,1,8,[Go.Value.int Go.IntKind.i64 0],none⟩
def tys:List Ty:=[unkTy,ty1,ty2,ty3,ty4,ty5,ty6,ty7,ty8,ty9,ty10,unkTy,unkTy,unkTy,unkTy,unkTy,unkTy,unkTy,unkTy,unkTy,ty20,unkTy,ty22,ty23,unkTy,ty25,ty26,unkTy,ty28,unkTy,unkTy,unkTy,ty32,ty33,unkTy,ty35,unkTy,ty37,unkTy,unkTy,unkTy,unkTy,unkTy,unkTy,unkTy,unkTy,ty46,unkTy,ty48,ty49,unkTy,ty51,unkTy,unkTy,unkTy,unkTy,unkTy,unkTy,unkTy,unkTy,unkTy,unkTy,unkTy,unkTy,unkTy,unkTy,unkTy,unkTy,unkTy,unkTy,unkTy,unkTy,unkTy,unkTy,ty74,unkTy,unkTy,unkTy,unkTy,unkTy,ty80,unkTy,ty82,unkTy,unkTy,unkTy,ty86,ty87,unkTy,ty89,unkTy,ty91,unkTy,unkTy,unkTy,unkTy,unkTy,unkTy,unkTy,unkTy,unkTy,ty101,unkTy,ty103,unkTy,unkTy,unkTy,unkTy,unkTy,unkTy,unkTy,unkTy,unkTy,unkTy,unkTy,unkTy,unkTy,unkTy,ty118,unkTy,unkTy,ty121,unkTy,ty123,unkTy,ty125,unkTy,ty127,unkTy,unkTy,unkTy,unkTy,unkTy,unkTy,unkTy,unkTy,unkTy,unkTy,ty138,unkTy,unkTy,unkTy,unkTy,unkTy,unkTy,unkTy,unkTy,ty147,unkTy,unkTy,unkTy,unkTy,unkTy,ty153,unkTy,unkTy,ty156,ty157,unkTy,unkTy,unkTy,unkTy,unkTy,unkTy,ty164,unkTy,unkTy,unkTy,unkTy,unkTy,unkTy,ty171,ty172,unkTy,unkTy,ty175,unkTy,unkTy,unkTy,unkTy,unkTy,unkTy,unkTy,unkTy,ty184,unkTy,unkTy,unkTy,unkTy,unkTy,unkTy,unkTy,ty192,ty193,unkTy,unkTy,unkTy,ty197,unkTy,unkTy,unkTy,unkTy,unkTy,unkTy,unkTy,unkTy,unkTy,unkTy,unkTy,unkTy,unkTy,ty211,unkTy,unkTy,unkTy,ty215,unkTy,unkTy,unkTy,unkTy,ty220,unkTy,unkTy,unkTy,ty224,unkTy,ty226,unkTy,unkTy,unkTy,unkTy,unkTy,unkTy,unkTy,unkTy,unkTy,unkTy,ty237,unkTy,unkTy,ty240,unkTy,ty242,unkTy,unkTy,unkTy,ty246,unkTy,unkTy,unkTy,unkTy,unkTy,unkTy,unkTy,unkTy,unkTy,unkTy,unkTy,unkTy,unkTy,unkTy,unkTy,unkTy,unkTy,unkTy,unkTy,unkTy,unkTy,ty268,unkTy,unkTy,ty271,unkTy,unkTy,unkTy,unkTy,unkTy,ty277,unkTy,unkTy,unkTy,unkTy,unkTy,unkTy,unkTy,unkTy,unkTy,unkTy,unkTy,unkTy,unkTy,unkTy,unkTy,unkTy,unkTy,ty295]
def T (t:Nat):Ty:=tys.getD t unkTy
inductive bp (P:Program):Nat→List Ty→Prop
 | nil (k:Nat):bp P k []
 | cons {k:Nat} {ty:Ty} {l:List Ty} (h:TyOk P k ty) (r:bp P (k+1) l):bp P k (ty::l)
theorem bp.get {P:Program}:∀ {l:List Ty} {k:Nat},bp P k l→∀ i,TyOk P (k+i) (l.getD i unkTy)
 | _,_,.nil _,i=>by simp [unkTy,TyOk]
 | _,_,.cons h r,0=>h
 | _,_,.cons (k:=k) h r,i+1=>by
  have:=r.get i
  rw [show k+1+i=k+(i+1) by omega] at this
  simpa using this
theorem ag (P:Program)(t:Nat):TyOk P t unkTy:=by simp [unkTy,TyOk]
theorem aF {P:Program}{t:Nat}{ty:Ty}{i:TypeInfo}{z:Value}(hs:t<P.types.size)(h1:P.types[t]?=some i)(h2:i.zero=some z)(h:i.size=ty.size∧i.bytes=ty.bytes∧z.cells.toList=ty.zero∧ty.zero.length=ty.size)(h3:ty.zero.all (fun v=>v.oneCell')=true)(h4:dB P t ty.kind)(h5:∀ fs,ty.eqs=some fs→∃ fields:Array Field,P.underlying t=some (.struct fields)∧fields.toList.map (fun f=>(f.offset,f.type))=fs∧(∀ f,f∈fields.toList→f.name ≠ "_")∧P.stoodInHeld t=false∧P.eqGuardType P.depth t=false):TyOk P t ty:=by
 unfold TyOk
 split
 ·trivial
 ·exact ⟨⟨i,z,(by unfold Tables.info?;rw [if_pos hs];exact h1),h.1,h.2.1,h2,h.2.2.1,h.2.2.2⟩,fun v hv=>List.all_eq_true.1 h3 v hv,h4,h5⟩
theorem TX:TyOk Tryz.prog 1 ty1:=aF (i:=Tryz.t1) (by rw [Tryz.types_size];decide) Tryz.type1 rfl ⟨rfl,rfl,rfl,rfl⟩ rfl (by exact ⟨_,Tryz.underlying1,rfl⟩) (by intro fs h;cases h)
theorem TY:TyOk Tryz.prog 2 ty2:=aF (i:=Tryz.t2) (by rw [Tryz.types_size];decide) Tryz.type2 rfl ⟨rfl,rfl,rfl,rfl⟩ rfl (by exact Tryz.underlying2) (by intro fs h;cases h)
theorem TZ:TyOk Tryz.prog 3 ty3:=aF (i:=Tryz.t3) (by rw [Tryz.types_size];decide) Tryz.type3 rfl ⟨rfl,rfl,rfl,rfl⟩ rfl (by exact Tryz.underlying3) (by intro fs h;cases h)
theorem Ua:TyOk Tryz.prog 4 ty4:=aF (i:=Tryz.t4) (by rw [Tryz.types_size];decide) Tryz.type4 rfl ⟨rfl,rfl,rfl,rfl⟩ rfl (by exact Tryz.underlying4) (by intro fs h;cases h)
theorem Ub:TyOk Tryz.prog 5 ty5:=aF (i:=Tryz.t5) (by rw [Tryz.types_size];decide) Tryz.type5 rfl ⟨rfl,rfl,rfl,rfl⟩ rfl (by exact Tryz.underlying5) (by intro fs h;cases h)
theorem Uc:TyOk Tryz.prog 6 ty6:=aF (i:=Tryz.t6) (by rw [Tryz.types_size];decide) Tryz.type6 rfl ⟨rfl,rfl,rfl,rfl⟩ rfl (by exact Tryz.underlying6) (by intro fs h;cases h)
theorem Ud:TyOk Tryz.prog 7 ty7:=aF (i:=Tryz.t7) (by rw [Tryz.types_size];decide) Tryz.type7 rfl ⟨rfl,rfl,rfl,rfl⟩ rfl (by exact ⟨_,Tryz.underlying7,rfl⟩) (by intro fs h;cases h)
theorem Ue:TyOk Tryz.prog 8 ty8:=aF (i:=Tryz.t8) (by rw [Tryz.types_size];decide) Tryz.type8 rfl ⟨rfl,rfl,rfl,rfl⟩ rfl (by exact ⟨_,Tryz.underlying8,rfl⟩) (by intro fs h;cases h)
theorem Uf:TyOk Tryz.prog 9 ty9:=aF (i:=Tryz.t9) (by rw [Tryz.types_size];decide) Tryz.type9 rfl ⟨rfl,rfl,rfl,rfl⟩ rfl (by exact Tryz.underlying9) (by intro fs h;cases h)
theorem Sc:TyOk Tryz.prog 10 ty10:=aF (i:=Tryz.t10) (by rw [Tryz.types_size];decide) Tryz.type10 rfl ⟨rfl,rfl,rfl,rfl⟩ rfl (by exact Tryz.underlying10) (by intro fs h;cases h)
theorem Sd:TyOk Tryz.prog 20 ty20:=aF (i:=Tryz.t20) (by rw [Tryz.types_size];decide) Tryz.type20 rfl ⟨rfl,rfl,rfl,rfl⟩ rfl (by exact ⟨_,Tryz.underlying20,rfl⟩) (by intro fs h;cases h)
theorem Se:TyOk Tryz.prog 22 ty22:=aF (i:=Tryz.t22) (by rw [Tryz.types_size];decide) Tryz.type22 rfl ⟨rfl,rfl,rfl,rfl⟩ rfl (by exact Tryz.underlying22) (by intro fs h;cases h)
theorem Sf:TyOk Tryz.prog 23 ty23:=aF (i:=Tryz.t23) (by rw [Tryz.types_size];decide) Tryz.type23 rfl ⟨rfl,rfl,rfl,rfl⟩ rfl (by exact Tryz.underlying23) (by intro fs h;cases h)
theorem Sg:TyOk Tryz.prog 25 ty25:=aF (i:=Tryz.t25) (by rw [Tryz.types_size];decide) Tryz.type25 rfl ⟨rfl,rfl,rfl,rfl⟩ rfl (by exact ⟨_,Tryz.underlying25,rfl⟩) (by intro fs h;cases h)
theorem Si:TyOk Tryz.prog 26 ty26:=aF (i:=Tryz.t26) (by rw [Tryz.types_size];decide) Tryz.type26 rfl ⟨rfl,rfl,rfl,rfl⟩ rfl (by exact Tryz.underlying26) (by intro fs h;cases h)
theorem Sj:TyOk Tryz.prog 28 ty28:=aF (i:=Tryz.t28) (by rw [Tryz.types_size];decide) Tryz.type28 rfl ⟨rfl,rfl,rfl,rfl⟩ rfl (by exact ⟨_,Tryz.underlying28,rfl⟩) (by intro fs h;cases h)
theorem Sk:TyOk Tryz.prog 32 ty32:=aF (i:=Tryz.t32) (by rw [Tryz.types_size];decide) Tryz.type32 rfl ⟨rfl,rfl,rfl,rfl⟩ rfl (by exact Tryz.underlying32) (by intro fs h;cases h)
theorem Sl:TyOk Tryz.prog 33 ty33:=aF (i:=Tryz.t33) (by rw [Tryz.types_size];decide) Tryz.type33 rfl ⟨rfl,rfl,rfl,rfl⟩ rfl (by exact Tryz.underlying33) (by intro fs h;cases h)
theorem Sm:TyOk Tryz.prog 35 ty35:=aF (i:=Tryz.t35) (by rw [Tryz.types_size];decide) Tryz.type35 rfl ⟨rfl,rfl,rfl,rfl⟩ rfl (by exact ⟨_,Tryz.underlying35,rfl⟩) (by intro fs h;cases h)
theorem Sn:TyOk Tryz.prog 37 ty37:=aF (i:=Tryz.t37) (by rw [Tryz.types_size];decide) Tryz.type37 rfl ⟨rfl,rfl,rfl,rfl⟩ rfl (by exact ⟨_,Tryz.underlying37,rfl⟩) (by intro fs h;cases h)
theorem So:TyOk Tryz.prog 46 ty46:=aF (i:=Tryz.t46) (by rw [Tryz.types_size];decide) Tryz.type46 rfl ⟨rfl,rfl,rfl,rfl⟩ rfl (by exact Tryz.underlying46) (by intro fs h;cases h)
theorem Sp:TyOk Tryz.prog 48 ty48:=aF (i:=Tryz.t48) (by rw [Tryz.types_size];decide) Tryz.type48 rfl ⟨rfl,rfl,rfl,rfl⟩ rfl (by exact ⟨_,Tryz.underlying48,rfl⟩) (by intro fs h;cases h)
theorem Sq:TyOk Tryz.prog 49 ty49:=aF (i:=Tryz.t49) (by rw [Tryz.types_size];decide) Tryz.type49 rfl ⟨rfl,rfl,rfl,rfl⟩ rfl (by exact Tryz.underlying49) (by intro fs h;cases h)
theorem Sr:TyOk Tryz.prog 51 ty51:=aF (i:=Tryz.t51) (by rw [Tryz.types_size];decide) Tryz.type51 rfl ⟨rfl,rfl,rfl,rfl⟩ rfl (by exact ⟨_,Tryz.underlying51,rfl⟩) (by intro fs h;cases h)
theorem Ss:TyOk Tryz.prog 74 ty74:=aF (i:=Tryz.t74) (by rw [Tryz.types_size];decide) Tryz.type74 rfl ⟨rfl,rfl,rfl,rfl⟩ rfl (by exact Tryz.underlying74) (by intro fs h;cases h)
theorem Su:TyOk Tryz.prog 80 ty80:=aF (i:=Tryz.t80) (by rw [Tryz.types_size];decide) Tryz.type80 rfl ⟨rfl,rfl,rfl,rfl⟩ rfl (by exact ⟨_,Tryz.underlying80,rfl⟩) (by intro fs h;cases h;exact ⟨_,Tryz.underlying80,rfl,by decide,by kernel_rfl,by kernel_rfl⟩)
theorem Sv:TyOk Tryz.prog 82 ty82:=aF (i:=Tryz.t82) (by rw [Tryz.types_size];decide) Tryz.type82 rfl ⟨rfl,rfl,rfl,rfl⟩ rfl (by exact ⟨_,Tryz.underlying82,rfl⟩) (by intro fs h;cases h;exact ⟨_,Tryz.underlying82,rfl,by decide,by kernel_rfl,by kernel_rfl⟩)
theorem Sw:TyOk Tryz.prog 86 ty86:=aF (i:=Tryz.t86) (by rw [Tryz.types_size];decide) Tryz.type86 rfl ⟨rfl,rfl,rfl,rfl⟩ rfl (by exact ⟨_,Tryz.underlying86,rfl⟩) (by intro fs h;cases h;exact ⟨_,Tryz.underlying86,rfl,by decide,by kernel_rfl,by kernel_rfl⟩)
theorem Sx:TyOk Tryz.prog 87 ty87:=aF (i:=Tryz.t87) (by rw [Tryz.types_size];decide) Tryz.type87 rfl ⟨rfl,rfl,rfl,rfl⟩ rfl (by exact Tryz.underlying87) (by intro fs h;cases h)
theorem Sy:TyOk Tryz.prog 89 ty89:=aF (i:=Tryz.t89) (by rw [Tryz.types_size];decide) Tryz.type89 rfl ⟨rfl,rfl,rfl,rfl⟩ rfl (by exact Tryz.underlying89) (by intro fs h;cases h)
theorem Sz:TyOk Tryz.prog 91 ty91:=aF (i:=Tryz.t91) (by rw [Tryz.types_size];decide) Tryz.type91 rfl ⟨rfl,rfl,rfl,rfl⟩ rfl (by exact ⟨_,Tryz.underlying91,rfl⟩) (by intro fs h;cases h)
theorem Oy:TyOk Tryz.prog 101 ty101:=aF (i:=Tryz.t101) (by rw [Tryz.types_size];decide) Tryz.type101 rfl ⟨rfl,rfl,rfl,rfl⟩ rfl (by exact Tryz.underlying101) (by intro fs h;cases h)
theorem Oz:TyOk Tryz.prog 103 ty103:=aF (i:=Tryz.t103) (by rw [Tryz.types_size];decide) Tryz.type103 rfl ⟨rfl,rfl,rfl,rfl⟩ rfl (by exact ⟨_,Tryz.underlying103,rfl⟩) (by intro fs h;cases h)
theorem OA:TyOk Tryz.prog 118 ty118:=aF (i:=Tryz.t118) (by rw [Tryz.types_size];decide) Tryz.type118 rfl ⟨rfl,rfl,rfl,rfl⟩ rfl (by exact ⟨_,Tryz.underlying118,rfl⟩) (by intro fs h;cases h)
theorem OB:TyOk Tryz.prog 121 ty121:=aF (i:=Tryz.t121) (by rw [Tryz.types_size];decide) Tryz.type121 rfl ⟨rfl,rfl,rfl,rfl⟩ rfl (by exact ⟨_,Tryz.underlying121,rfl⟩) (by intro fs h;cases h)
theorem OC:TyOk Tryz.prog 123 ty123:=aF (i:=Tryz.t123) (by rw [Tryz.types_size];decide) Tryz.type123 rfl ⟨rfl,rfl,rfl,rfl⟩ rfl (by exact ⟨_,Tryz.underlying123,rfl⟩) (by intro fs h;cases h)
theorem OD:TyOk Tryz.prog 125 ty125:=aF (i:=Tryz.t125) (by rw [Tryz.types_size];decide) Tryz.type125 rfl ⟨rfl,rfl,rfl,rfl⟩ rfl (by exact ⟨_,Tryz.underlying125,rfl⟩) (by intro fs h;cases h)
theorem OE:TyOk Tryz.prog 127 ty127:=aF (i:=Tryz.t127) (by rw [Tryz.types_size];decide) Tryz.type127 rfl ⟨rfl,rfl,rfl,rfl⟩ rfl (by exact ⟨_,Tryz.underlying127,rfl⟩) (by intro fs h;cases h)
theorem OF:TyOk Tryz.prog 138 ty138:=aF (i:=Tryz.t138) (by rw [Tryz.types_size];decide) Tryz.type138 rfl ⟨rfl,rfl,rfl,rfl⟩ rfl (by exact ⟨_,Tryz.underlying138,rfl⟩) (by intro fs h;cases h)
theorem OG:TyOk Tryz.prog 147 ty147:=aF (i:=Tryz.t147) (by rw [Tryz.types_size];decide) Tryz.type147 rfl ⟨rfl,rfl,rfl,rfl⟩ rfl (by exact ⟨_,Tryz.underlying147,rfl⟩) (by intro fs h;cases h)
theorem OH:TyOk Tryz.prog 153 ty153:=aF (i:=Tryz.t153) (by rw [Tryz.types_size];decide) Tryz.type153 rfl ⟨rfl,rfl,rfl,rfl⟩ rfl (by exact ⟨_,Tryz.underlying153,rfl⟩) (by intro fs h;cases h)
theorem OI:TyOk Tryz.prog 156 ty156:=aF (i:=Tryz.t156) (by rw [Tryz.types_size];decide) Tryz.type156 rfl ⟨rfl,rfl,rfl,rfl⟩ rfl (by exact ⟨_,Tryz.underlying156,rfl⟩) (by intro fs h;cases h)
theorem OJ:TyOk Tryz.prog 157 ty157:=aF (i:=Tryz.t157) (by rw [Tryz.types_size];decide) Tryz.type157 rfl ⟨rfl,rfl,rfl,rfl⟩ rfl (by exact ⟨_,Tryz.underlying157,rfl⟩) (by intro fs h;cases h)
theorem OK:TyOk Tryz.prog 164 ty164:=aF (i:=Tryz.t164) (by rw [Tryz.types_size];decide) Tryz.type164 rfl ⟨rfl,rfl,rfl,rfl⟩ rfl (by exact ⟨_,Tryz.underlying164,rfl⟩) (by intro fs h;cases h;exact ⟨_,Tryz.underlying164,rfl,by decide,by kernel_rfl,by kernel_rfl⟩)
theorem OL:TyOk Tryz.prog 171 ty171:=aF (i:=Tryz.t171) (by rw [Tryz.types_size];decide) Tryz.type171 rfl ⟨rfl,rfl,rfl,rfl⟩ rfl (by exact ⟨_,Tryz.underlying171,rfl⟩) (by intro fs h;cases h)
theorem OM:TyOk Tryz.prog 172 ty172:=aF (i:=Tryz.t172) (by rw [Tryz.types_size];decide) Tryz.type172 rfl ⟨rfl,rfl,rfl,rfl⟩ rfl (by exact Tryz.underlying172) (by intro fs h;cases h)
theorem ON:TyOk Tryz.prog 175 ty175:=aF (i:=Tryz.t175) (by rw [Tryz.types_size];decide) Tryz.type175 rfl ⟨rfl,rfl,rfl,rfl⟩ rfl (by exact ⟨_,Tryz.underlying175,rfl⟩) (by intro fs h;cases h)
theorem OO:TyOk Tryz.prog 184 ty184:=aF (i:=Tryz.t184) (by rw [Tryz.types_size];decide) Tryz.type184 rfl ⟨rfl,rfl,rfl,rfl⟩ rfl (by exact ⟨_,Tryz.underlying184,rfl⟩) (by intro fs h;cases h;exact ⟨_,Tryz.underlying184,rfl,by decide,by kernel_rfl,by kernel_rfl⟩)
theorem OP:TyOk Tryz.prog 192 ty192:=aF (i:=Tryz.t192) (by rw [Tryz.types_size];decide) Tryz.type192 rfl ⟨rfl,rfl,rfl,rfl⟩ rfl (by exact ⟨_,Tryz.underlying192,rfl⟩) (by intro fs h;cases h)
theorem OQ:TyOk Tryz.prog 193 ty193:=aF (i:=Tryz.t193) (by rw [Tryz.types_size];decide) Tryz.type193 rfl ⟨rfl,rfl,rfl,rfl⟩ rfl (by exact Tryz.underlying193) (by intro fs h;cases h)
theorem OR:TyOk Tryz.prog 197 ty197:=aF (i:=Tryz.t197) (by rw [Tryz.types_size];decide) Tryz.type197 rfl ⟨rfl,rfl,rfl,rfl⟩ rfl (by exact ⟨_,Tryz.underlying197,rfl⟩) (by intro fs h;cases h)
theorem OT:TyOk Tryz.prog 211 ty211:=aF (i:=Tryz.t211) (by rw [Tryz.types_size];decide) Tryz.type211 rfl ⟨rfl,rfl,rfl,rfl⟩ rfl (by exact ⟨_,Tryz.underlying211,rfl⟩) (by intro fs h;cases h)
theorem OU:TyOk Tryz.prog 215 ty215:=aF (i:=Tryz.t215) (by rw [Tryz.types_size];decide) Tryz.type215 rfl ⟨rfl,rfl,rfl,rfl⟩ rfl (by exact ⟨_,Tryz.underlying215,rfl⟩) (by intro fs h;cases h)
theorem OV:TyOk Tryz.prog 220 ty220:=aF (i:=Tryz.t220) (by rw [Tryz.types_size];decide) Tryz.type220 rfl ⟨rfl,rfl,rfl,rfl⟩ rfl (by exact Tryz.underlying220) (by intro fs h;cases h)
theorem OW:TyOk Tryz.prog 224 ty224:=aF (i:=Tryz.t224) (by rw [Tryz.types_size];decide) Tryz.type224 rfl ⟨rfl,rfl,rfl,rfl⟩ rfl (by exact Tryz.underlying224) (by intro fs h;cases h)
theorem OX:TyOk Tryz.prog 226 ty226:=aF (i:=Tryz.t226) (by rw [Tryz.types_size];decide) Tryz.type226 rfl ⟨rfl,rfl,rfl,rfl⟩ rfl (by exact ⟨_,Tryz.underlying226,rfl⟩) (by intro fs h;cases h)
theorem OY:TyOk Tryz.prog 237 ty237:=aF (i:=Tryz.t237) (by rw [Tryz.types_size];decide) Tryz.type237 rfl ⟨rfl,rfl,rfl,rfl⟩ rfl (by exact ⟨_,Tryz.underlying237,rfl⟩) (by intro fs h;cases h)
theorem OZ:TyOk Tryz.prog 240 ty240:=aF (i:=Tryz.t240) (by rw [Tryz.types_size];decide) Tryz.type240 rfl ⟨rfl,rfl,rfl,rfl⟩ rfl (by exact ⟨_,Tryz.underlying240,rfl⟩) (by intro fs h;cases h)
theorem Pa:TyOk Tryz.prog 242 ty242:=aF (i:=Tryz.t242) (by rw [Tryz.types_size];decide) Tryz.type242 rfl ⟨rfl,rfl,rfl,rfl⟩ rfl (by exact ⟨_,Tryz.underlying242,rfl⟩) (by intro fs h;cases h)
theorem Pb:TyOk Tryz.prog 246 ty246:=aF (i:=Tryz.t246) (by rw [Tryz.types_size];decide) Tryz.type246 rfl ⟨rfl,rfl,rfl,rfl⟩ rfl (by exact ⟨_,Tryz.underlying246,rfl⟩) (by intro fs h;cases h)
theorem Pc:TyOk Tryz.prog 268 ty268:=aF (i:=Tryz.t268) (by rw [Tryz.types_size];decide) Tryz.type268 rfl ⟨rfl,rfl,rfl,rfl⟩ rfl (by exact Tryz.underlying268) (by intro fs h;cases h)
theorem Pd:TyOk Tryz.prog 271 ty271:=aF (i:=Tryz.t271) (by rw [Tryz.types_size];decide) Tryz.type271 rfl ⟨rfl,rfl,rfl,rfl⟩ rfl (by exact Tryz.underlying271) (by intro fs h;cases h)
theorem Pe:TyOk Tryz.prog 277 ty277:=aF (i:=Tryz.t277) (by rw [Tryz.types_size];decide) Tryz.type277 rfl ⟨rfl,rfl,rfl,rfl⟩ rfl (by exact ⟨_,Tryz.underlying277,rfl⟩) (by intro fs h;cases h)
theorem Pf:TyOk Tryz.prog 295 ty295:=aF (i:=Tryz.t295) (by rw [Tryz.types_size];decide) Tryz.type295 rfl ⟨rfl,rfl,rfl,rfl⟩ rfl (by exact Tryz.underlying295) (by intro fs h;cases h)
theorem SA {l:List Ty}(r:bp Tryz.prog 16 l):bp Tryz.prog 0 (unkTy::ty1::ty2::ty3::ty4::ty5::ty6::ty7::ty8::ty9::ty10::unkTy::unkTy::unkTy::unkTy::unkTy::l):=
 .cons (ag _ _) (.cons TX (.cons TY (.cons TZ (.cons Ua (.cons Ub (.cons Uc (.cons Ud (.cons Ue (.cons Uf (.cons Sc (.cons (ag _ _) (.cons (ag _ _) (.cons (ag _ _) (.cons (ag _ _) (.cons (ag _ _) (r))))))))))))))))
theorem Pg {l:List Ty}(r:bp Tryz.prog 32 l):bp Tryz.prog 16 (unkTy::unkTy::unkTy::unkTy::ty20::unkTy::ty22::ty23::unkTy::ty25::ty26::unkTy::ty28::unkTy::unkTy::unkTy::l):=
 .cons (ag _ _) (.cons (ag _ _) (.cons (ag _ _) (.cons (ag _ _) (.cons Sd (.cons (ag _ _) (.cons Se (.cons Sf (.cons (ag _ _) (.cons Sg (.cons Si (.cons (ag _ _) (.cons Sj (.cons (ag _ _) (.cons (ag _ _) (.cons (ag _ _) (r))))))))))))))))
theorem Ph {l:List Ty}(r:bp Tryz.prog 48 l):bp Tryz.prog 32 (ty32::ty33::unkTy::ty35::unkTy::ty37::unkTy::unkTy::unkTy::unkTy::unkTy::unkTy::unkTy::unkTy::ty46::unkTy::l):=
 .cons Sk (.cons Sl (.cons (ag _ _) (.cons Sm (.cons (ag _ _) (.cons Sn (.cons (ag _ _) (.cons (ag _ _) (.cons (ag _ _) (.cons (ag _ _) (.cons (ag _ _) (.cons (ag _ _) (.cons (ag _ _) (.cons (ag _ _) (.cons So (.cons (ag _ _) (r))))))))))))))))
theorem Pi {l:List Ty}(r:bp Tryz.prog 64 l):bp Tryz.prog 48 (ty48::ty49::unkTy::ty51::unkTy::unkTy::unkTy::unkTy::unkTy::unkTy::unkTy::unkTy::unkTy::unkTy::unkTy::unkTy::l):=
 .cons Sp (.cons Sq (.cons (ag _ _) (.cons Sr (.cons (ag _ _) (.cons (ag _ _) (.cons (ag _ _) (.cons (ag _ _) (.cons (ag _ _) (.cons (ag _ _) (.cons (ag _ _) (.cons (ag _ _) (.cons (ag _ _) (.cons (ag _ _) (.cons (ag _ _) (.cons (ag _ _) (r))))))))))))))))
theorem Pj {l:List Ty}(r:bp Tryz.prog 80 l):bp Tryz.prog 64 (unkTy::unkTy::unkTy::unkTy::unkTy::unkTy::unkTy::unkTy::unkTy::unkTy::ty74::unkTy::unkTy::unkTy::unkTy::unkTy::l):=
 .cons (ag _ _) (.cons (ag _ _) (.cons (ag _ _) (.cons (ag _ _) (.cons (ag _ _) (.cons (ag _ _) (.cons (ag _ _) (.cons (ag _ _) (.cons (ag _ _) (.cons (ag _ _) (.cons Ss (.cons (ag _ _) (.cons (ag _ _) (.cons (ag _ _) (.cons (ag _ _) (.cons (ag _ _) (r))))))))))))))))
theorem Pk {l:List Ty}(r:bp Tryz.prog 96 l):bp Tryz.prog 80 (ty80::unkTy::ty82::unkTy::unkTy::unkTy::ty86::ty87::unkTy::ty89::unkTy::ty91::unkTy::unkTy::unkTy::unkTy::l):=
 .cons Su (.cons (ag _ _) (.cons Sv (.cons (ag _ _) (.cons (ag _ _) (.cons (ag _ _) (.cons Sw (.cons Sx (.cons (ag _ _) (.cons Sy (.cons (ag _ _) (.cons Sz (.cons (ag _ _) (.cons (ag _ _) (.cons (ag _ _) (.cons (ag _ _) (r))))))))))))))))
theorem Pl {l:List Ty}(r:bp Tryz.prog 112 l):bp Tryz.prog 96 (unkTy::unkTy::unkTy::unkTy::unkTy::ty101::unkTy::ty103::unkTy::unkTy::unkTy::unkTy::unkTy::unkTy::unkTy::unkTy::l):=
 .cons (ag _ _) (.cons (ag _ _) (.cons (ag _ _) (.cons (ag _ _) (.cons (ag _ _) (.cons Oy (.cons (ag _ _) (.cons Oz (.cons (ag _ _) (.cons (ag _ _) (.cons (ag _ _) (.cons (ag _ _) (.cons (ag _ _) (.cons (ag _ _) (.cons (ag _ _) (.cons (ag _ _) (r))))))))))))))))
theorem MF {l:List Ty}(r:bp Tryz.prog 128 l):bp Tryz.prog 112 (unkTy::unkTy::unkTy::unkTy::unkTy::unkTy::ty118::unkTy::unkTy::ty121::unkTy::ty123::unkTy::ty125::unkTy::ty127::l):=
 .cons (ag _ _) (.cons (ag _ _) (.cons (ag _ _) (.cons (ag _ _) (.cons (ag _ _) (.cons (ag _ _) (.cons OA (.cons (ag _ _) (.cons (ag _ _) (.cons OB (.cons (ag _ _) (.cons OC (.cons (ag _ _) (.cons OD (.cons (ag _ _) (.cons OE (r))))))))))))))))
theorem MG {l:List Ty}(r:bp Tryz.prog 144 l):bp Tryz.prog 128 (unkTy::unkTy::unkTy::unkTy::unkTy::unkTy::unkTy::unkTy::unkTy::unkTy::ty138::unkTy::unkTy::unkTy::unkTy::unkTy::l):=
 .cons (ag _ _) (.cons (ag _ _) (.cons (ag _ _) (.cons (ag _ _) (.cons (ag _ _) (.cons (ag _ _) (.cons (ag _ _) (.cons (ag _ _) (.cons (ag _ _) (.cons (ag _ _) (.cons OF (.cons (ag _ _) (.cons (ag _ _) (.cons (ag _ _) (.cons (ag _ _) (.cons (ag _ _) (r))))))))))))))))
theorem MH {l:List Ty}(r:bp Tryz.prog 160 l):bp Tryz.prog 144 (unkTy::unkTy::unkTy::ty147::unkTy::unkTy::unkTy::unkTy::unkTy::ty153::unkTy::unkTy::ty156::ty157::unkTy::unkTy::l):=
 .cons (ag _ _) (.cons (ag _ _) (.cons (ag _ _) (.cons OG (.cons (ag _ _) (.cons (ag _ _) (.cons (ag _ _) (.cons (ag _ _) (.cons (ag _ _) (.cons OH (.cons (ag _ _) (.cons (ag _ _) (.cons OI (.cons OJ (.cons (ag _ _) (.cons (ag _ _) (r))))))))))))))))
theorem MI {l:List Ty}(r:bp Tryz.prog 176 l):bp Tryz.prog 160 (unkTy::unkTy::unkTy::unkTy::ty164::unkTy::unkTy::unkTy::unkTy::unkTy::unkTy::ty171::ty172::unkTy::unkTy::ty175::l):=
 .cons (ag _ _) (.cons (ag _ _) (.cons (ag _ _) (.cons (ag _ _) (.cons OK (.cons (ag _ _) (.cons (ag _ _) (.cons (ag _ _) (.cons (ag _ _) (.cons (ag _ _) (.cons (ag _ _) (.cons OL (.cons OM (.cons (ag _ _) (.cons (ag _ _) (.cons ON (r))))))))))))))))
theorem MJ {l:List Ty}(r:bp Tryz.prog 192 l):bp Tryz.prog 176 (unkTy::unkTy::unkTy::unkTy::unkTy::unkTy::unkTy::unkTy::ty184::unkTy::unkTy::unkTy::unkTy::unkTy::unkTy::unkTy::l):=
 .cons (ag _ _) (.cons (ag _ _) (.cons (ag _ _) (.cons (ag _ _) (.cons (ag _ _) (.cons (ag _ _) (.cons (ag _ _) (.cons (ag _ _) (.cons OO (.cons (ag _ _) (.cons (ag _ _) (.cons (ag _ _) (.cons (ag _ _) (.cons (ag _ _) (.cons (ag _ _) (.cons (ag _ _) (r))))))))))))))))
theorem MK {l:List Ty}(r:bp Tryz.prog 208 l):bp Tryz.prog 192 (ty192::ty193::unkTy::unkTy::unkTy::ty197::unkTy::unkTy::unkTy::unkTy::unkTy::unkTy::unkTy::unkTy::unkTy::unkTy::l):=
 .cons OP (.cons OQ (.cons (ag _ _) (.cons (ag _ _) (.cons (ag _ _) (.cons OR (.cons (ag _ _) (.cons (ag _ _) (.cons (ag _ _) (.cons (ag _ _) (.cons (ag _ _) (.cons (ag _ _) (.cons (ag _ _) (.cons (ag _ _) (.cons (ag _ _) (.cons (ag _ _) (r))))))))))))))))
theorem ML {l:List Ty}(r:bp Tryz.prog 224 l):bp Tryz.prog 208 (unkTy::unkTy::unkTy::ty211::unkTy::unkTy::unkTy::ty215::unkTy::unkTy::unkTy::unkTy::ty220::unkTy::unkTy::unkTy::l):=
 .cons (ag _ _) (.cons (ag _ _) (.cons (ag _ _) (.cons OT (.cons (ag _ _) (.cons (ag _ _) (.cons (ag _ _) (.cons OU (.cons (ag _ _) (.cons (ag _ _) (.cons (ag _ _) (.cons (ag _ _) (.cons OV (.cons (ag _ _) (.cons (ag _ _) (.cons (ag _ _) (r))))))))))))))))
theorem MM {l:List Ty}(r:bp Tryz.prog 240 l):bp Tryz.prog 224 (ty224::unkTy::ty226::unkTy::unkTy::unkTy::unkTy::unkTy::unkTy::unkTy::unkTy::unkTy::unkTy::ty237::unkTy::unkTy::l):=
 .cons OW (.cons (ag _ _) (.cons OX (.cons (ag _ _) (.cons (ag _ _) (.cons (ag _ _) (.cons (ag _ _) (.cons (ag _ _) (.cons (ag _ _) (.cons (ag _ _) (.cons (ag _ _) (.cons (ag _ _) (.cons (ag _ _) (.cons OY (.cons (ag _ _) (.cons (ag _ _) (r))))))))))))))))
theorem MN {l:List Ty}(r:bp Tryz.prog 256 l):bp Tryz.prog 240 (ty240::unkTy::ty242::unkTy::unkTy::unkTy::ty246::unkTy::unkTy::unkTy::unkTy::unkTy::unkTy::unkTy::unkTy::unkTy::l):=
 .cons OZ (.cons (ag _ _) (.cons Pa (.cons (ag _ _) (.cons (ag _ _) (.cons (ag _ _) (.cons Pb (.cons (ag _ _) (.cons (ag _ _) (.cons (ag _ _) (.cons (ag _ _) (.cons (ag _ _) (.cons (ag _ _) (.cons (ag _ _) (.cons (ag _ _) (.cons (ag _ _) (r))))))))))))))))
theorem MO {l:List Ty}(r:bp Tryz.prog 272 l):bp Tryz.prog 256 (unkTy::unkTy::unkTy::unkTy::unkTy::unkTy::unkTy::unkTy::unkTy::unkTy::unkTy::unkTy::ty268::unkTy::unkTy::ty271::l):=
 .cons (ag _ _) (.cons (ag _ _) (.cons (ag _ _) (.cons (ag _ _) (.cons (ag _ _) (.cons (ag _ _) (.cons (ag _ _) (.cons (ag _ _) (.cons (ag _ _) (.cons (ag _ _) (.cons (ag _ _) (.cons (ag _ _) (.cons Pc (.cons (ag _ _) (.cons (ag _ _) (.cons Pd (r))))))))))))))))
theorem MP {l:List Ty}(r:bp Tryz.prog 288 l):bp Tryz.prog 272 (unkTy::unkTy::unkTy::unkTy::unkTy::ty277::unkTy::unkTy::unkTy::unkTy::unkTy::unkTy::unkTy::unkTy::unkTy::unkTy::l):=
 .cons (ag _ _) (.cons (ag _ _) (.cons (ag _ _) (.cons (ag _ _) (.cons (ag _ _) (.cons Pe (.cons (ag _ _) (.cons (ag _ _) (.cons (ag _ _) (.cons (ag _ _) (.cons (ag _ _) (.cons (ag _ _) (.cons (ag _ _) (.cons (ag _ _) (.cons (ag _ _) (.cons (ag _ _) (r))))))))))))))))
theorem MQ {l:List Ty}(r:bp Tryz.prog 296 l):bp Tryz.prog 288 (unkTy::unkTy::unkTy::unkTy::unkTy::unkTy::unkTy::ty295::l):=
 .cons (ag _ _) (.cons (ag _ _) (.cons (ag _ _) (.cons (ag _ _) (.cons (ag _ _) (.cons (ag _ _) (.cons (ag _ _) (.cons Pf (r))))))))
theorem hT (t:Nat):TyOk Tryz.prog t (T t):=by
 have h:bp Tryz.prog 0 tys:=SA (Pg (Ph (Pi (Pj (Pk (Pl (MF (MG (MH (MI (MJ (MK (ML (MM (MN (MO (MP (MQ (.nil _)))))))))))))))))))
 have:=h.get t
 rw [Nat.zero_add] at this
 exact this
section
open TK
@[simp,go_sem] theorem Tk1:(T 1).kind=.other:=rfl
@[simp,go_sem] theorem Ts1:(T 1).size=1:=rfl
@[simp,go_sem] theorem Tb1:(T 1).bytes=8:=rfl
@[simp,go_sem] theorem Tz1:(T 1).zero=[Go.Value.nilFunc]:=rfl
@[simp,go_sem] theorem Tk2:(T 2).kind=.int .i64:=rfl
@[simp,go_sem] theorem Ts2:(T 2).size=1:=rfl
@[simp,go_sem] theorem Tb2:(T 2).bytes=8:=rfl
@[simp,go_sem] theorem Tz2:(T 2).zero=[Go.Value.int Go.IntKind.i64 0]:=rfl
@[simp,go_sem] theorem Tk3:(T 3).kind=.int .i64:=rfl
@[simp,go_sem] theorem Ts3:(T 3).size=1:=rfl
@[simp,go_sem] theorem Tb3:(T 3).bytes=8:=rfl
@[simp,go_sem] theorem Tz3:(T 3).zero=[Go.Value.int Go.IntKind.i64 0]:=rfl
@[simp,go_sem] theorem Tk4:(T 4).kind=.bool:=rfl
@[simp,go_sem] theorem Ts4:(T 4).size=1:=rfl
@[simp,go_sem] theorem Tb4:(T 4).bytes=1:=rfl
@[simp,go_sem] theorem Tz4:(T 4).zero=[Go.Value.bool false]:=rfl
@[simp,go_sem] theorem Tk5:(T 5).kind=.int .u8:=rfl
@[simp,go_sem] theorem Ts5:(T 5).size=1:=rfl
@[simp,go_sem] theorem Tb5:(T 5).bytes=1:=rfl
@[simp,go_sem] theorem Tz5:(T 5).zero=[Go.Value.int Go.IntKind.u8 0]:=rfl
@[simp,go_sem] theorem Tk6:(T 6).kind=.int .u8:=rfl
@[simp,go_sem] theorem Ts6:(T 6).size=1:=rfl
@[simp,go_sem] theorem Tb6:(T 6).bytes=1:=rfl
@[simp,go_sem] theorem Tz6:(T 6).zero=[Go.Value.int Go.IntKind.u8 0]:=rfl
@[simp,go_sem] theorem Tk7:(T 7).kind=.struct [(0,2),(1,3),(2,4),(3,6)]:=rfl
@[simp,go_sem] theorem Ts7:(T 7).size=4:=rfl
@[simp,go_sem] theorem Tb7:(T 7).bytes=24:=rfl
@[simp,go_sem] theorem Tz7:(T 7).zero=[Go.Value.int Go.IntKind.i64 0,Go.Value.int Go.IntKind.i64 0,Go.Value.bool false,Go.Value.int Go.IntKind.u8 0]:=rfl
@[simp,go_sem] theorem Tk8:(T 8).kind=.struct [(0,2),(1,3),(2,4),(3,6)]:=rfl
@[simp,go_sem] theorem Ts8:(T 8).size=4:=rfl
@[simp,go_sem] theorem Tb8:(T 8).bytes=24:=rfl
@[simp,go_sem] theorem Tz8:(T 8).zero=[Go.Value.int Go.IntKind.i64 0,Go.Value.int Go.IntKind.i64 0,Go.Value.bool false,Go.Value.int Go.IntKind.u8 0]:=rfl
@[simp,go_sem] theorem Tk9:(T 9).kind=.str:=rfl
@[simp,go_sem] theorem Ts9:(T 9).size=1:=rfl
@[simp,go_sem] theorem Tb9:(T 9).bytes=16:=rfl
@[simp,go_sem] theorem Tz9:(T 9).zero=[Go.Value.string { data:=#[] }]:=rfl
@[simp,go_sem] theorem Tk10:(T 10).kind=.str:=rfl
@[simp,go_sem] theorem Ts10:(T 10).size=1:=rfl
@[simp,go_sem] theorem Tb10:(T 10).bytes=16:=rfl
@[simp,go_sem] theorem Tz10:(T 10).zero=[Go.Value.string { data:=#[] }]:=rfl
@[simp,go_sem] theorem Tk20:(T 20).kind=.other:=rfl
@[simp,go_sem] theorem Ts20:(T 20).size=1:=rfl
@[simp,go_sem] theorem Tb20:(T 20).bytes=16:=rfl
@[simp,go_sem] theorem Tz20:(T 20).zero=[Go.Value.nilIface]:=rfl
@[simp,go_sem] theorem Tk22:(T 22).kind=.slice 171:=rfl
@[simp,go_sem] theorem Ts22:(T 22).size=1:=rfl
@[simp,go_sem] theorem Tb22:(T 22).bytes=24:=rfl
@[simp,go_sem] theorem Tz22:(T 22).zero=[Go.Value.slice none 0 0]:=rfl
@[simp,go_sem] theorem Tk23:(T 23).kind=.slice 184:=rfl
@[simp,go_sem] theorem Ts23:(T 23).size=1:=rfl
@[simp,go_sem] theorem Tb23:(T 23).bytes=24:=rfl
@[simp,go_sem] theorem Tz23:(T 23).zero=[Go.Value.slice none 0 0]:=rfl
@[simp,go_sem] theorem Tk25:(T 25).kind=.struct [(0,22),(1,23),(2,3)]:=rfl
@[simp,go_sem] theorem Ts25:(T 25).size=3:=rfl
@[simp,go_sem] theorem Tb25:(T 25).bytes=56:=rfl
@[simp,go_sem] theorem Tz25:(T 25).zero=[Go.Value.slice none 0 0,Go.Value.slice none 0 0,Go.Value.int Go.IntKind.i64 0]:=rfl
@[simp,go_sem] theorem Tk26:(T 26).kind=.slice 3:=rfl
@[simp,go_sem] theorem Ts26:(T 26).size=1:=rfl
@[simp,go_sem] theorem Tb26:(T 26).bytes=24:=rfl
@[simp,go_sem] theorem Tz26:(T 26).zero=[Go.Value.slice none 0 0]:=rfl
@[simp,go_sem] theorem Tk28:(T 28).kind=.struct [(0,26),(1,26)]:=rfl
@[simp,go_sem] theorem Ts28:(T 28).size=2:=rfl
@[simp,go_sem] theorem Tb28:(T 28).bytes=48:=rfl
@[simp,go_sem] theorem Tz28:(T 28).zero=[Go.Value.slice none 0 0,Go.Value.slice none 0 0]:=rfl
@[simp,go_sem] theorem Tk32:(T 32).kind=.slice 156:=rfl
@[simp,go_sem] theorem Ts32:(T 32).size=1:=rfl
@[simp,go_sem] theorem Tb32:(T 32).bytes=24:=rfl
@[simp,go_sem] theorem Tz32:(T 32).zero=[Go.Value.slice none 0 0]:=rfl
@[simp,go_sem] theorem Tk33:(T 33).kind=.slice 86:=rfl
@[simp,go_sem] theorem Ts33:(T 33).size=1:=rfl
@[simp,go_sem] theorem Tb33:(T 33).bytes=24:=rfl
@[simp,go_sem] theorem Tz33:(T 33).zero=[Go.Value.slice none 0 0]:=rfl
@[simp,go_sem] theorem Tk35:(T 35).kind=.struct [(0,32),(1,33),(2,3)]:=rfl
@[simp,go_sem] theorem Ts35:(T 35).size=3:=rfl
@[simp,go_sem] theorem Tb35:(T 35).bytes=56:=rfl
@[simp,go_sem] theorem Tz35:(T 35).zero=[Go.Value.slice none 0 0,Go.Value.slice none 0 0,Go.Value.int Go.IntKind.i64 0]:=rfl
@[simp,go_sem] theorem Tk37:(T 37).kind=.struct [(0,26),(1,26)]:=rfl
@[simp,go_sem] theorem Ts37:(T 37).size=2:=rfl
@[simp,go_sem] theorem Tb37:(T 37).bytes=48:=rfl
@[simp,go_sem] theorem Tz37:(T 37).zero=[Go.Value.slice none 0 0,Go.Value.slice none 0 0]:=rfl
@[simp,go_sem] theorem Tk46:(T 46).kind=.slice 5:=rfl
@[simp,go_sem] theorem Ts46:(T 46).size=1:=rfl
@[simp,go_sem] theorem Tb46:(T 46).bytes=24:=rfl
@[simp,go_sem] theorem Tz46:(T 46).zero=[Go.Value.slice none 0 0]:=rfl
@[simp,go_sem] theorem Tk48:(T 48).kind=.struct [(0,3),(1,26),(2,26)]:=rfl
@[simp,go_sem] theorem Ts48:(T 48).size=3:=rfl
@[simp,go_sem] theorem Tb48:(T 48).bytes=56:=rfl
@[simp,go_sem] theorem Tz48:(T 48).zero=[Go.Value.int Go.IntKind.i64 0,Go.Value.slice none 0 0,Go.Value.slice none 0 0]:=rfl
@[simp,go_sem] theorem Tk49:(T 49).kind=.slice 125:=rfl
@[simp,go_sem] theorem Ts49:(T 49).size=1:=rfl
@[simp,go_sem] theorem Tb49:(T 49).bytes=24:=rfl
@[simp,go_sem] theorem Tz49:(T 49).zero=[Go.Value.slice none 0 0]:=rfl
@[simp,go_sem] theorem Tk51:(T 51).kind=.struct [(0,35),(3,48),(6,4),(7,49)]:=rfl
@[simp,go_sem] theorem Ts51:(T 51).size=8:=rfl
@[simp,go_sem] theorem Tb51:(T 51).bytes=144:=rfl
@[simp,go_sem] theorem Tz51:(T 51).zero=[Go.Value.slice none 0 0,Go.Value.slice none 0 0,Go.Value.int Go.IntKind.i64 0,Go.Value.int Go.IntKind.i64 0,Go.Value.slice none 0 0,Go.Value.slice none 0 0,Go.Value.bool false,Go.Value.slice none 0 0]:=rfl
@[simp,go_sem] theorem Tk74:(T 74).kind=.slice 80:=rfl
@[simp,go_sem] theorem Ts74:(T 74).size=1:=rfl
@[simp,go_sem] theorem Tb74:(T 74).bytes=24:=rfl
@[simp,go_sem] theorem Tz74:(T 74).zero=[Go.Value.slice none 0 0]:=rfl
@[simp,go_sem] theorem Tk80:(T 80).kind=.struct [(0,3),(1,3)]:=rfl
@[simp,go_sem] theorem Ts80:(T 80).size=2:=rfl
@[simp,go_sem] theorem Tb80:(T 80).bytes=16:=rfl
@[simp,go_sem] theorem Tz80:(T 80).zero=[Go.Value.int Go.IntKind.i64 0,Go.Value.int Go.IntKind.i64 0]:=rfl
@[simp,go_sem] theorem Te80:(T 80).eqs=some [(0,3),(1,3)]:=rfl
@[simp,go_sem] theorem Tk82:(T 82).kind=.struct [(0,3),(1,3)]:=rfl
@[simp,go_sem] theorem Ts82:(T 82).size=2:=rfl
@[simp,go_sem] theorem Tb82:(T 82).bytes=16:=rfl
@[simp,go_sem] theorem Tz82:(T 82).zero=[Go.Value.int Go.IntKind.i64 0,Go.Value.int Go.IntKind.i64 0]:=rfl
@[simp,go_sem] theorem Te82:(T 82).eqs=some [(0,3),(1,3)]:=rfl
@[simp,go_sem] theorem Tk86:(T 86).kind=.struct [(0,3),(1,3),(2,3),(3,3),(4,4)]:=rfl
@[simp,go_sem] theorem Ts86:(T 86).size=5:=rfl
@[simp,go_sem] theorem Tb86:(T 86).bytes=40:=rfl
@[simp,go_sem] theorem Tz86:(T 86).zero=[Go.Value.int Go.IntKind.i64 0,Go.Value.int Go.IntKind.i64 0,Go.Value.int Go.IntKind.i64 0,Go.Value.int Go.IntKind.i64 0,Go.Value.bool false]:=rfl
@[simp,go_sem] theorem Te86:(T 86).eqs=some [(0,3),(1,3),(2,3),(3,3),(4,4)]:=rfl
@[simp,go_sem] theorem Tk87:(T 87).kind=.slice 9:=rfl
@[simp,go_sem] theorem Ts87:(T 87).size=1:=rfl
@[simp,go_sem] theorem Tb87:(T 87).bytes=24:=rfl
@[simp,go_sem] theorem Tz87:(T 87).zero=[Go.Value.slice none 0 0]:=rfl
@[simp,go_sem] theorem Tk89:(T 89).kind=.slice 164:=rfl
@[simp,go_sem] theorem Ts89:(T 89).size=1:=rfl
@[simp,go_sem] theorem Tb89:(T 89).bytes=24:=rfl
@[simp,go_sem] theorem Tz89:(T 89).zero=[Go.Value.slice none 0 0]:=rfl
@[simp,go_sem] theorem Tk91:(T 91).kind=.struct [(0,89),(1,26),(2,3)]:=rfl
@[simp,go_sem] theorem Ts91:(T 91).size=3:=rfl
@[simp,go_sem] theorem Tb91:(T 91).bytes=56:=rfl
@[simp,go_sem] theorem Tz91:(T 91).zero=[Go.Value.slice none 0 0,Go.Value.slice none 0 0,Go.Value.int Go.IntKind.i64 0]:=rfl
@[simp,go_sem] theorem abh:(T 101).kind=.slice 175:=rfl
@[simp,go_sem] theorem abi:(T 101).size=1:=rfl
@[simp,go_sem] theorem abj:(T 101).bytes=24:=rfl
@[simp,go_sem] theorem abk:(T 101).zero=[Go.Value.slice none 0 0]:=rfl
@[simp,go_sem] theorem abl:(T 103).kind=.struct [(0,3),(1,101)]:=rfl
@[simp,go_sem] theorem abm:(T 103).size=2:=rfl
@[simp,go_sem] theorem abn:(T 103).bytes=32:=rfl
@[simp,go_sem] theorem abo:(T 103).zero=[Go.Value.int Go.IntKind.i64 0,Go.Value.slice none 0 0]:=rfl
@[simp,go_sem] theorem abp:(T 118).kind=.other:=rfl
@[simp,go_sem] theorem abq:(T 118).size=1:=rfl
@[simp,go_sem] theorem abr:(T 118).bytes=8:=rfl
@[simp,go_sem] theorem abt:(T 118).zero=[Go.Value.pointer none]:=rfl
@[simp,go_sem] theorem abu:(T 121).kind=.other:=rfl
@[simp,go_sem] theorem abv:(T 121).size=1:=rfl
@[simp,go_sem] theorem abw:(T 121).bytes=8:=rfl
@[simp,go_sem] theorem abx:(T 121).zero=[Go.Value.pointer none]:=rfl
@[simp,go_sem] theorem aby:(T 123).kind=.struct [(0,121),(1,46)]:=rfl
@[simp,go_sem] theorem abz:(T 123).size=2:=rfl
@[simp,go_sem] theorem abA:(T 123).bytes=32:=rfl
@[simp,go_sem] theorem abB:(T 123).zero=[Go.Value.pointer none,Go.Value.slice none 0 0]:=rfl
@[simp,go_sem] theorem abC:(T 125).kind=.struct [(0,3),(1,26),(2,26),(3,26)]:=rfl
@[simp,go_sem] theorem abD:(T 125).size=4:=rfl
@[simp,go_sem] theorem abE:(T 125).bytes=80:=rfl
@[simp,go_sem] theorem abF:(T 125).zero=[Go.Value.int Go.IntKind.i64 0,Go.Value.slice none 0 0,Go.Value.slice none 0 0,Go.Value.slice none 0 0]:=rfl
@[simp,go_sem] theorem abG:(T 127).kind=.other:=rfl
@[simp,go_sem] theorem abH:(T 127).size=1:=rfl
@[simp,go_sem] theorem abI:(T 127).bytes=16:=rfl
@[simp,go_sem] theorem abJ:(T 127).zero=[Go.Value.nilIface]:=rfl
@[simp,go_sem] theorem abK:(T 138).kind=.other:=rfl
@[simp,go_sem] theorem abL:(T 138).size=1:=rfl
@[simp,go_sem] theorem abM:(T 138).bytes=8:=rfl
@[simp,go_sem] theorem abN:(T 138).zero=[Go.Value.nilFunc]:=rfl
@[simp,go_sem] theorem abO:(T 147).kind=.other:=rfl
@[simp,go_sem] theorem abP:(T 147).size=1:=rfl
@[simp,go_sem] theorem abQ:(T 147).bytes=8:=rfl
@[simp,go_sem] theorem abR:(T 147).zero=[Go.Value.pointer none]:=rfl
@[simp,go_sem] theorem abS:(T 153).kind=.other:=rfl
@[simp,go_sem] theorem abT:(T 153).size=1:=rfl
@[simp,go_sem] theorem abU:(T 153).bytes=8:=rfl
@[simp,go_sem] theorem abV:(T 153).zero=[Go.Value.nilFunc]:=rfl
@[simp,go_sem] theorem abW:(T 156).kind=.struct [(0,9),(1,26),(2,3)]:=rfl
@[simp,go_sem] theorem abX:(T 156).size=3:=rfl
@[simp,go_sem] theorem abY:(T 156).bytes=48:=rfl
@[simp,go_sem] theorem abZ:(T 156).zero=[Go.Value.string { data:=#[] },Go.Value.slice none 0 0,Go.Value.int Go.IntKind.i64 0]:=rfl
@[simp,go_sem] theorem aca:(T 157).kind=.other:=rfl
@[simp,go_sem] theorem acb:(T 157).size=1:=rfl
@[simp,go_sem] theorem acd:(T 157).bytes=8:=rfl
@[simp,go_sem] theorem ace:(T 157).zero=[Go.Value.nilFunc]:=rfl
@[simp,go_sem] theorem acf:(T 164).kind=.struct [(0,9),(1,3),(2,4),(3,3),(4,3),(5,3),(6,3),(7,4),(8,3),(9,3),(10,3)]:=rfl
@[simp,go_sem] theorem acg:(T 164).size=11:=rfl
@[simp,go_sem] theorem ach:(T 164).bytes=96:=rfl
@[simp,go_sem] theorem aci:(T 164).zero=[Go.Value.string { data:=#[] },Go.Value.int Go.IntKind.i64 0,Go.Value.bool false,Go.Value.int Go.IntKind.i64 0,Go.Value.int Go.IntKind.i64 0,Go.Value.int Go.IntKind.i64 0,Go.Value.int Go.IntKind.i64 0,Go.Value.bool false,Go.Value.int Go.IntKind.i64 0,Go.Value.int Go.IntKind.i64 0,Go.Value.int Go.IntKind.i64 0]:=rfl
@[simp,go_sem] theorem acj:(T 164).eqs=some [(0,9),(1,3),(2,4),(3,3),(4,3),(5,3),(6,3),(7,4),(8,3),(9,3),(10,3)]:=rfl
@[simp,go_sem] theorem ack:(T 171).kind=.struct [(0,9),(1,26),(2,3)]:=rfl
@[simp,go_sem] theorem acl:(T 171).size=3:=rfl
@[simp,go_sem] theorem acm:(T 171).bytes=48:=rfl
@[simp,go_sem] theorem acn:(T 171).zero=[Go.Value.string { data:=#[] },Go.Value.slice none 0 0,Go.Value.int Go.IntKind.i64 0]:=rfl
@[simp,go_sem] theorem aco:(T 172).kind=.slice 4:=rfl
@[simp,go_sem] theorem acp:(T 172).size=1:=rfl
@[simp,go_sem] theorem acq:(T 172).bytes=24:=rfl
@[simp,go_sem] theorem acr:(T 172).zero=[Go.Value.slice none 0 0]:=rfl
@[simp,go_sem] theorem acs:(T 175).kind=.struct [(0,3),(1,3),(2,82)]:=rfl
@[simp,go_sem] theorem acu:(T 175).size=4:=rfl
@[simp,go_sem] theorem acv:(T 175).bytes=32:=rfl
@[simp,go_sem] theorem acw:(T 175).zero=[Go.Value.int Go.IntKind.i64 0,Go.Value.int Go.IntKind.i64 0,Go.Value.int Go.IntKind.i64 0,Go.Value.int Go.IntKind.i64 0]:=rfl
@[simp,go_sem] theorem acx:(T 184).kind=.struct [(0,3),(1,3),(2,3),(3,3),(4,4)]:=rfl
@[simp,go_sem] theorem acy:(T 184).size=5:=rfl
@[simp,go_sem] theorem acz:(T 184).bytes=40:=rfl
@[simp,go_sem] theorem acA:(T 184).zero=[Go.Value.int Go.IntKind.i64 0,Go.Value.int Go.IntKind.i64 0,Go.Value.int Go.IntKind.i64 0,Go.Value.int Go.IntKind.i64 0,Go.Value.bool false]:=rfl
@[simp,go_sem] theorem acB:(T 184).eqs=some [(0,3),(1,3),(2,3),(3,3),(4,4)]:=rfl
@[simp,go_sem] theorem acC:(T 192).kind=.other:=rfl
@[simp,go_sem] theorem acD:(T 192).size=1:=rfl
@[simp,go_sem] theorem acE:(T 192).bytes=8:=rfl
@[simp,go_sem] theorem acF:(T 192).zero=[Go.Value.nilFunc]:=rfl
@[simp,go_sem] theorem acG:(T 193).kind=.slice 26:=rfl
@[simp,go_sem] theorem acH:(T 193).size=1:=rfl
@[simp,go_sem] theorem acI:(T 193).bytes=24:=rfl
@[simp,go_sem] theorem acJ:(T 193).zero=[Go.Value.slice none 0 0]:=rfl
@[simp,go_sem] theorem acK:(T 197).kind=.struct [(0,46),(1,3),(2,3)]:=rfl
@[simp,go_sem] theorem acL:(T 197).size=3:=rfl
@[simp,go_sem] theorem acM:(T 197).bytes=40:=rfl
@[simp,go_sem] theorem acN:(T 197).zero=[Go.Value.slice none 0 0,Go.Value.int Go.IntKind.i64 0,Go.Value.int Go.IntKind.i64 0]:=rfl
@[simp,go_sem] theorem acO:(T 211).kind=.other:=rfl
@[simp,go_sem] theorem acP:(T 211).size=1:=rfl
@[simp,go_sem] theorem acQ:(T 211).bytes=8:=rfl
@[simp,go_sem] theorem acR:(T 211).zero=[Go.Value.nilFunc]:=rfl
@[simp,go_sem] theorem acS:(T 215).kind=.other:=rfl
@[simp,go_sem] theorem acT:(T 215).size=1:=rfl
@[simp,go_sem] theorem acU:(T 215).bytes=8:=rfl
@[simp,go_sem] theorem acV:(T 215).zero=[Go.Value.nilFunc]:=rfl
@[simp,go_sem] theorem acW:(T 220).kind=.int .u64:=rfl
@[simp,go_sem] theorem acX:(T 220).size=1:=rfl
@[simp,go_sem] theorem acY:(T 220).bytes=8:=rfl
@[simp,go_sem] theorem acZ:(T 220).zero=[Go.Value.int Go.IntKind.u64 0]:=rfl
@[simp,go_sem] theorem ada:(T 224).kind=.map 9 4:=rfl
@[simp,go_sem] theorem adb:(T 224).size=1:=rfl
@[simp,go_sem] theorem adc:(T 224).bytes=8:=rfl
@[simp,go_sem] theorem ade:(T 224).zero=[Go.Value.map none]:=rfl
@[simp,go_sem] theorem adf:(T 226).kind=.struct [(0,35),(3,224)]:=rfl
@[simp,go_sem] theorem adg:(T 226).size=4:=rfl
@[simp,go_sem] theorem adh:(T 226).bytes=64:=rfl
@[simp,go_sem] theorem adi:(T 226).zero=[Go.Value.slice none 0 0,Go.Value.slice none 0 0,Go.Value.int Go.IntKind.i64 0,Go.Value.map none]:=rfl
@[simp,go_sem] theorem adj:(T 237).kind=.other:=rfl
@[simp,go_sem] theorem adk:(T 237).size=1:=rfl
@[simp,go_sem] theorem adl:(T 237).bytes=8:=rfl
@[simp,go_sem] theorem adm:(T 237).zero=[Go.Value.nilFunc]:=rfl
@[simp,go_sem] theorem adn:(T 240).kind=.other:=rfl
@[simp,go_sem] theorem ado:(T 240).size=1:=rfl
@[simp,go_sem] theorem adp:(T 240).bytes=8:=rfl
@[simp,go_sem] theorem adq:(T 240).zero=[Go.Value.nilFunc]:=rfl
@[simp,go_sem] theorem adr:(T 242).kind=.other:=rfl
@[simp,go_sem] theorem ads:(T 242).size=1:=rfl
@[simp,go_sem] theorem adt:(T 242).bytes=8:=rfl
@[simp,go_sem] theorem adu:(T 242).zero=[Go.Value.nilFunc]:=rfl
@[simp,go_sem] theorem adv:(T 246).kind=.other:=rfl
@[simp,go_sem] theorem adw:(T 246).size=1:=rfl
@[simp,go_sem] theorem adx:(T 246).bytes=8:=rfl
@[simp,go_sem] theorem ady:(T 246).zero=[Go.Value.nilFunc]:=rfl
@[simp,go_sem] theorem adz:(T 268).kind=.int .u32:=rfl
@[simp,go_sem] theorem adA:(T 268).size=1:=rfl
@[simp,go_sem] theorem adB:(T 268).bytes=4:=rfl
@[simp,go_sem] theorem adC:(T 268).zero=[Go.Value.int Go.IntKind.u32 0]:=rfl
@[simp,go_sem] theorem adD:(T 271).kind=.int .u64:=rfl
@[simp,go_sem] theorem adE:(T 271).size=1:=rfl
@[simp,go_sem] theorem adF:(T 271).bytes=8:=rfl
@[simp,go_sem] theorem adG:(T 271).zero=[Go.Value.int Go.IntKind.u64 0]:=rfl
@[simp,go_sem] theorem adH:(T 277).kind=.other:=rfl
@[simp,go_sem] theorem adI:(T 277).size=1:=rfl
@[simp,go_sem] theorem adJ:(T 277).bytes=8:=rfl
@[simp,go_sem] theorem adK:(T 277).zero=[Go.Value.nilFunc]:=rfl
@[simp,go_sem] theorem adL:(T 295).kind=.int .i64:=rfl
@[simp,go_sem] theorem adM:(T 295).size=1:=rfl
@[simp,go_sem] theorem adN:(T 295).bytes=8:=rfl
@[simp,go_sem] theorem adO:(T 295).zero=[Go.Value.int Go.IntKind.i64 0]:=rfl
end
end Go.Proofs.Qf
