/- The types of the seat,and that they fit. Made by gentypes.py. -/
import Derived.Test.YtghfphjfkdbpjaaGreatD31
import Derived.KernelRfl
import Derived.Test.YtghfphjfkdbpjaaGreatProg
set_option linter.all false
namespace Go.Proofs.QD
open Go
def unkTy:Ty:=⟨.unknown,0,0,[],none⟩
def ty1:Ty:=⟨.other,1,8,[Go.Value.nilFunc],none⟩
def ty2:Ty:=⟨.int .i64,1,8,[Go.Value.int Go.IntKind.i64 0],none⟩
def ty3:Ty:=⟨.int .i64,1,8,[Go.Value.int Go.IntKind.i64 0],none⟩
def ty4:Ty:=⟨.bool,1,1,[Go.Value.bool false],none⟩
def ty5:Ty:=⟨.int .u8,1,1,[Go.Value.int Go.IntKind.u8 0],none⟩
def ty6:Ty:=⟨.int .u8,1,1,[Go.Value.int Go.IntKind.u8 0],none⟩
def ty8:Ty:=⟨.struct [(0,2),(1,3),(2,4),(3,6)],4,24,[Go.Value.int Go.IntKind.i64 0,Go.Value.int Go.IntKind.i64 0,Go.Value.bool false,Go.Value.int Go.IntKind.u8 0],none⟩
def ty9:Ty:=⟨.str,1,16,[Go.Value.string { data:=#[] }],none⟩
def ty20:Ty:=⟨.other,1,16,[Go.Value.nilIface],none⟩
def ty22:Ty:=⟨.slice 5,1,24,[Go.Value.slice none 0 0],none⟩
def ty23:Ty:=⟨.slice 147,1,24,[Go.Value.slice none 0 0],none⟩
def ty24:Ty:=⟨.slice 153,1,24,[Go.Value.slice none 0 0],none⟩
def ty26:Ty:=⟨.struct [(0,23),(1,24),(2,3)],3,56,[Go.Value.slice none 0 0,Go.Value.slice none 0 0,Go.Value.int Go.IntKind.i64 0],none⟩
def ty28:Ty:=⟨.slice 3,1,24,[Go.Value.slice none 0 0],none⟩
def ty30:Ty:=⟨.struct [(0,3),(1,28),(2,28)],3,56,[Go.Value.int Go.IntKind.i64 0,Go.Value.slice none 0 0,Go.Value.slice none 0 0],none⟩
def ty31:Ty:=⟨.slice 42,1,24,[Go.Value.slice none 0 0],none⟩
def ty33:Ty:=⟨.struct [(0,26),(3,30),(6,4),(7,31)],8,144,[Go.Value.slice none 0 0,Go.Value.slice none 0 0,Go.Value.int Go.IntKind.i64 0,Go.Value.int Go.IntKind.i64 0,Go.Value.slice none 0 0,Go.Value.slice none 0 0,Go.Value.bool false,Go.Value.slice none 0 0],none⟩
def ty37:Ty:=⟨.struct [(0,28),(1,28)],2,48,[Go.Value.slice none 0 0,Go.Value.slice none 0 0],none⟩
def ty42:Ty:=⟨.struct [(0,3),(1,28),(2,28),(3,28)],4,80,[Go.Value.int Go.IntKind.i64 0,Go.Value.slice none 0 0,Go.Value.slice none 0 0,Go.Value.slice none 0 0],none⟩
def ty47:Ty:=⟨.slice 28,1,24,[Go.Value.slice none 0 0],none⟩
def ty60:Ty:=⟨.slice 184,1,24,[Go.Value.slice none 0 0],none⟩
def ty61:Ty:=⟨.slice 187,1,24,[Go.Value.slice none 0 0],none⟩
def ty63:Ty:=⟨.struct [(0,60),(1,61),(2,3)],3,56,[Go.Value.slice none 0 0,Go.Value.slice none 0 0,Go.Value.int Go.IntKind.i64 0],none⟩
def ty77:Ty:=⟨.struct [(0,3),(1,28),(2,28)],3,56,[Go.Value.int Go.IntKind.i64 0,Go.Value.slice none 0 0,Go.Value.slice none 0 0],none⟩
def ty78:Ty:=⟨.slice 191,1,24,[Go.Value.slice none 0 0],none⟩
def ty80:Ty:=⟨.struct [(0,63),(3,77),(6,4),(7,78)],8,144,[Go.Value.slice none 0 0,Go.Value.slice none 0 0,Go.Value.int Go.IntKind.i64 0,Go.Value.int Go.IntKind.i64 0,Go.Value.slice none 0 0,Go.Value.slice none 0 0,Go.Value.bool false,Go.Value.slice none 0 0],none⟩
def ty90:Ty:=⟨.other,1,8,[Go.Value.pointer none],none⟩
def ty105:Ty:=⟨.other,1,8,[Go.Value.pointer none],none⟩
def ty107:Ty:=⟨.map 9 4,1,8,[Go.Value.map none],none⟩
def ty109:Ty:=⟨.struct [(0,26),(3,107)],4,64,[Go.Value.slice none 0 0,Go.Value.slice none 0 0,Go.Value.int Go.IntKind.i64 0,Go.Value.map none],none⟩
def ty111:Ty:=⟨.other,1,8,[Go.Value.nilFunc],none⟩
def ty117:Ty:=⟨.other,1,8,[Go.Value.nilFunc],none⟩
def ty122:Ty:=⟨.other,1,8,[Go.Value.nilFunc],none⟩
def ty145:Ty:=⟨.struct [(0,22),(1,3),(2,3)],3,40,[Go.Value.slice none 0 0,Go.Value.int Go.IntKind.i64 0,Go.Value.int Go.IntKind.i64 0],none⟩
def ty147:Ty:=⟨.struct [(0,9),(1,28),(2,3)],3,48,[Go.Value.string { data:=#[] },Go.Value.slice none 0 0,Go.Value.int Go.IntKind.i64 0],none⟩
def ty150:Ty:=⟨.other,1,8,[Go.Value.nilFunc],none⟩
def ty153:Ty:=⟨.struct [(0,3),(1,3),(2,3),(3,3),(4,4)],5,40,[Go.Value.int Go.IntKind.i64 0,Go.Value.int Go.IntKind.i64 0,Go.Value.int Go.IntKind.i64 0,Go.Value.int Go.IntKind.i64 0,Go.Value.bool false],some [(0,3),(1,3),(2,3),(3,3),(4,4)]⟩
def ty168:Ty:=⟨.other,1,8,[Go.Value.nilFunc],none⟩
def ty176:Ty:=⟨.int .u64,1,8,[Go.Value.int Go.IntKind.u64 0],none⟩
def ty179:Ty:=⟨.other,1,8,[Go.Value.nilFunc],none⟩
def ty184:Ty:=⟨.struct [(0,9),(1,28),(2,3)],3,48,[Go.Value.string { data:=#[] },Go.Value.slice none 0 0,Go.Value.int Go.IntKind.i64 0],none⟩
def ty187:Ty:=⟨.struct [(0,3),(1,3),(2,3),(3,3),(4,4)],5,40,[Go.Value.int Go.IntKind.i64 0,Go.Value.int Go.IntKind.i64 0,Go.Value.int Go.IntKind.i64 0,Go.Value.int Go.IntKind.i64 0,Go.Value.bool false],some [(0,3),(1,3),(2,3),(3,3),(4,4)]⟩
def ty191:Ty:=⟨.struct [(0,3),(1,28),(2,28),(3,28)],4,80,[Go.Value.int Go.IntKind.i64 0,Go.Value.slice none 0 0,Go.Value.slice none 0 0,Go.Value.slice none 0 0],none⟩
def ty196:Ty:=⟨.other,1,8,[Go.Value.nilFunc],none⟩
def ty209:Ty:=⟨.slice 9,1,24,[Go.Value.slice none 0 0],none⟩
def ty211:Ty:=⟨.int .u32,1,4,[Go.Value.int Go.IntKind.u32 0],none⟩
def ty214:Ty:=⟨.int .u64,1,8,[Go.Value.int Go.IntKind.u64 0],none⟩
def ty219:Ty:=⟨.int .i64,1,8,[Go.Value.int Go.IntKind.i64 0],none⟩
def ty237:Ty:=⟨.slice 4,1,24,[Go.Value.slice none 0 0],none⟩
def tys:List Ty:=[unkTy,ty1,ty2,ty3,ty4,ty5,ty6,unkTy,ty8,ty9,unkTy,unkTy,unkTy,unkTy,unkTy,unkTy,unkTy,unkTy,unkTy,unkTy,ty20,unkTy,ty22,ty23,ty24,unkTy,ty26,unkTy,ty28,unkTy,ty30,ty31,unkTy,ty33,unkTy,unkTy,unkTy,ty37,unkTy,unkTy,unkTy,unkTy,ty42,unkTy,unkTy,unkTy,unkTy,ty47,unkTy,unkTy,unkTy,unkTy,unkTy,unkTy,unkTy,unkTy,unkTy,unkTy,unkTy,unkTy,ty60,ty61,unkTy,ty63,unkTy,unkTy,unkTy,unkTy,unkTy,unkTy,unkTy,unkTy,unkTy,unkTy,unkTy,unkTy,unkTy,ty77,ty78,unkTy,ty80,unkTy,unkTy,unkTy,unkTy,unkTy,unkTy,unkTy,unkTy,unkTy,ty90,unkTy,unkTy,unkTy,unkTy,unkTy,unkTy,unkTy,unkTy,unkTy,unkTy,unkTy,unkTy,unkTy,unkTy,ty105,unkTy,ty107,unkTy,ty109,unkTy,ty111,unkTy,unkTy,unkTy,unkTy,unkTy,ty117,unkTy,unkTy,unkTy,unkTy,ty122,unkTy,unkTy,unkTy,unkTy,unkTy,unkTy,unkTy,unkTy,unkTy,unkTy,unkTy,unkTy,unkTy,unkTy,unkTy,unkTy,unkTy,unkTy,unkTy,unkTy,unkTy,unkTy,ty145,unkTy,ty147,unkTy,unkTy,ty150,unkTy,unkTy,ty153,unkTy,unkTy,unkTy,unkTy,unkTy,unkTy,unkTy,unkTy,unkTy,unkTy,unkTy,unkTy,unkTy,unkTy,ty168,unkTy,unkTy,unkTy,unkTy,unkTy,unkTy,unkTy,ty176,unkTy,unkTy,ty179,unkTy,unkTy,unkTy,unkTy,ty184,unkTy,unkTy,ty187,unkTy,unkTy,unkTy,ty191,unkTy,unkTy,unkTy,unkTy,ty196,unkTy,unkTy,unkTy,unkTy,unkTy,unkTy,unkTy,unkTy,unkTy,unkTy,unkTy,unkTy,ty209,unkTy,ty211,unkTy,unkTy,ty214,unkTy,unkTy,unkTy,unkTy,ty219,unkTy,unkTy,unkTy,unkTy,unkTy,unkTy,unkTy,unkTy,unkTy,unkTy,unkTy,unkTy,unkTy,unkTy,unkTy,unkTy,unkTy,ty237]
def T (t:Nat):Ty:=tys.getD t unkTy
inductive bR (P:Program):Nat→List Ty→Prop
 | nil (k:Nat):bR P k []
 | cons {k:Nat} {ty:Ty} {l:List Ty} (h:TyOk P k ty) (r:bR P (k+1) l):bR P k (ty::l)
theorem bR.get {P:Program}:∀ {l:List Ty} {k:Nat},bR P k l→∀ i,TyOk P (k+i) (l.getD i unkTy)
 | _,_,.nil _,i=>by simp [unkTy,TyOk]
 | _,_,.cons h r,0=>h
 | _,_,.cons (k:=k) h r,i+1=>by
  have:=r.get i
  rw [show k+1+i=k+(i+1) by omega] at this
  simpa using this
theorem an (P:Program)(t:Nat):TyOk P t unkTy:=by simp [unkTy,TyOk]
theorem aL {P:Program}{t:Nat}{ty:Ty}{i:TypeInfo}{z:Value}(hs:t<P.types.size)(h1:P.types[t]?=some i)(h2:i.zero=some z)(h:i.size=ty.size∧i.bytes=ty.bytes∧z.cells.toList=ty.zero∧ty.zero.length=ty.size)(h3:ty.zero.all (fun v=>v.oneCell')=true)(h4:dC P t ty.kind)(h5:∀ fs,ty.eqs=some fs→∃ fields:Array Field,P.underlying t=some (.struct fields)∧fields.toList.map (fun f=>(f.offset,f.type))=fs∧(∀ f,f∈fields.toList→f.name ≠ "_")∧P.stoodInHeld t=false∧P.eqGuardType P.depth t=false):TyOk P t ty:=by
 unfold TyOk
 split
 ·trivial
 ·exact ⟨⟨i,z,(by unfold Tables.info?;rw [if_pos hs];exact h1),h.1,h.2.1,h2,h.2.2.1,h.2.2.2⟩,fun v hv=>List.all_eq_true.1 h3 v hv,h4,h5⟩
theorem QL:TyOk Tryz.prog 1 ty1:=aL (i:=Tryz.t1) (by rw [Tryz.types_size];decide) Tryz.type1 rfl ⟨rfl,rfl,rfl,rfl⟩ rfl (by exact ⟨_,Tryz.underlying1,rfl⟩) (by intro fs h;cases h)
theorem QM:TyOk Tryz.prog 2 ty2:=aL (i:=Tryz.t2) (by rw [Tryz.types_size];decide) Tryz.type2 rfl ⟨rfl,rfl,rfl,rfl⟩ rfl (by exact Tryz.underlying2) (by intro fs h;cases h)
theorem QN:TyOk Tryz.prog 3 ty3:=aL (i:=Tryz.t3) (by rw [Tryz.types_size];decide) Tryz.type3 rfl ⟨rfl,rfl,rfl,rfl⟩ rfl (by exact Tryz.underlying3) (by intro fs h;cases h)
theorem QO:TyOk Tryz.prog 4 ty4:=aL (i:=Tryz.t4) (by rw [Tryz.types_size];decide) Tryz.type4 rfl ⟨rfl,rfl,rfl,rfl⟩ rfl (by exact Tryz.underlying4) (by intro fs h;cases h)
theorem QP:TyOk Tryz.prog 5 ty5:=aL (i:=Tryz.t5) (by rw [Tryz.types_size];decide) Tryz.type5 rfl ⟨rfl,rfl,rfl,rfl⟩ rfl (by exact Tryz.underlying5) (by intro fs h;cases h)
theorem QQ:TyOk Tryz.prog 6 ty6:=aL (i:=Tryz.t6) (by rw [Tryz.types_size];decide) Tryz.type6 rfl ⟨rfl,rfl,rfl,rfl⟩ rfl (by exact Tryz.underlying6) (by intro fs h;cases h)
theorem QR:TyOk Tryz.prog 8 ty8:=aL (i:=Tryz.t8) (by rw [Tryz.types_size];decide) Tryz.type8 rfl ⟨rfl,rfl,rfl,rfl⟩ rfl (by exact ⟨_,Tryz.underlying8,rfl⟩) (by intro fs h;cases h)
theorem QS:TyOk Tryz.prog 9 ty9:=aL (i:=Tryz.t9) (by rw [Tryz.types_size];decide) Tryz.type9 rfl ⟨rfl,rfl,rfl,rfl⟩ rfl (by exact Tryz.underlying9) (by intro fs h;cases h)
theorem Ph:TyOk Tryz.prog 20 ty20:=aL (i:=Tryz.t20) (by rw [Tryz.types_size];decide) Tryz.type20 rfl ⟨rfl,rfl,rfl,rfl⟩ rfl (by exact ⟨_,Tryz.underlying20,rfl⟩) (by intro fs h;cases h)
theorem Pi:TyOk Tryz.prog 22 ty22:=aL (i:=Tryz.t22) (by rw [Tryz.types_size];decide) Tryz.type22 rfl ⟨rfl,rfl,rfl,rfl⟩ rfl (by exact Tryz.underlying22) (by intro fs h;cases h)
theorem Pj:TyOk Tryz.prog 23 ty23:=aL (i:=Tryz.t23) (by rw [Tryz.types_size];decide) Tryz.type23 rfl ⟨rfl,rfl,rfl,rfl⟩ rfl (by exact Tryz.underlying23) (by intro fs h;cases h)
theorem Pk:TyOk Tryz.prog 24 ty24:=aL (i:=Tryz.t24) (by rw [Tryz.types_size];decide) Tryz.type24 rfl ⟨rfl,rfl,rfl,rfl⟩ rfl (by exact Tryz.underlying24) (by intro fs h;cases h)
theorem Pl:TyOk Tryz.prog 26 ty26:=aL (i:=Tryz.t26) (by rw [Tryz.types_size];decide) Tryz.type26 rfl ⟨rfl,rfl,rfl,rfl⟩ rfl (by exact ⟨_,Tryz.underlying26,rfl⟩) (by intro fs h;cases h)
theorem Pm:TyOk Tryz.prog 28 ty28:=aL (i:=Tryz.t28) (by rw [Tryz.types_size];decide) Tryz.type28 rfl ⟨rfl,rfl,rfl,rfl⟩ rfl (by exact Tryz.underlying28) (by intro fs h;cases h)
theorem Pn:TyOk Tryz.prog 30 ty30:=aL (i:=Tryz.t30) (by rw [Tryz.types_size];decide) Tryz.type30 rfl ⟨rfl,rfl,rfl,rfl⟩ rfl (by exact ⟨_,Tryz.underlying30,rfl⟩) (by intro fs h;cases h)
theorem Po:TyOk Tryz.prog 31 ty31:=aL (i:=Tryz.t31) (by rw [Tryz.types_size];decide) Tryz.type31 rfl ⟨rfl,rfl,rfl,rfl⟩ rfl (by exact Tryz.underlying31) (by intro fs h;cases h)
theorem Pp:TyOk Tryz.prog 33 ty33:=aL (i:=Tryz.t33) (by rw [Tryz.types_size];decide) Tryz.type33 rfl ⟨rfl,rfl,rfl,rfl⟩ rfl (by exact ⟨_,Tryz.underlying33,rfl⟩) (by intro fs h;cases h)
theorem Pq:TyOk Tryz.prog 37 ty37:=aL (i:=Tryz.t37) (by rw [Tryz.types_size];decide) Tryz.type37 rfl ⟨rfl,rfl,rfl,rfl⟩ rfl (by exact ⟨_,Tryz.underlying37,rfl⟩) (by intro fs h;cases h)
theorem Pr:TyOk Tryz.prog 42 ty42:=aL (i:=Tryz.t42) (by rw [Tryz.types_size];decide) Tryz.type42 rfl ⟨rfl,rfl,rfl,rfl⟩ rfl (by exact ⟨_,Tryz.underlying42,rfl⟩) (by intro fs h;cases h)
theorem Ps:TyOk Tryz.prog 47 ty47:=aL (i:=Tryz.t47) (by rw [Tryz.types_size];decide) Tryz.type47 rfl ⟨rfl,rfl,rfl,rfl⟩ rfl (by exact Tryz.underlying47) (by intro fs h;cases h)
theorem Pt:TyOk Tryz.prog 60 ty60:=aL (i:=Tryz.t60) (by rw [Tryz.types_size];decide) Tryz.type60 rfl ⟨rfl,rfl,rfl,rfl⟩ rfl (by exact Tryz.underlying60) (by intro fs h;cases h)
theorem Pu:TyOk Tryz.prog 61 ty61:=aL (i:=Tryz.t61) (by rw [Tryz.types_size];decide) Tryz.type61 rfl ⟨rfl,rfl,rfl,rfl⟩ rfl (by exact Tryz.underlying61) (by intro fs h;cases h)
theorem Pv:TyOk Tryz.prog 63 ty63:=aL (i:=Tryz.t63) (by rw [Tryz.types_size];decide) Tryz.type63 rfl ⟨rfl,rfl,rfl,rfl⟩ rfl (by exact ⟨_,Tryz.underlying63,rfl⟩) (by intro fs h;cases h)
theorem Pw:TyOk Tryz.prog 77 ty77:=aL (i:=Tryz.t77) (by rw [Tryz.types_size];decide) Tryz.type77 rfl ⟨rfl,rfl,rfl,rfl⟩ rfl (by exact ⟨_,Tryz.underlying77,rfl⟩) (by intro fs h;cases h)
theorem Px:TyOk Tryz.prog 78 ty78:=aL (i:=Tryz.t78) (by rw [Tryz.types_size];decide) Tryz.type78 rfl ⟨rfl,rfl,rfl,rfl⟩ rfl (by exact Tryz.underlying78) (by intro fs h;cases h)
theorem Py:TyOk Tryz.prog 80 ty80:=aL (i:=Tryz.t80) (by rw [Tryz.types_size];decide) Tryz.type80 rfl ⟨rfl,rfl,rfl,rfl⟩ rfl (by exact ⟨_,Tryz.underlying80,rfl⟩) (by intro fs h;cases h)
theorem Pz:TyOk Tryz.prog 90 ty90:=aL (i:=Tryz.t90) (by rw [Tryz.types_size];decide) Tryz.type90 rfl ⟨rfl,rfl,rfl,rfl⟩ rfl (by exact ⟨_,Tryz.underlying90,rfl⟩) (by intro fs h;cases h)
theorem Mg:TyOk Tryz.prog 105 ty105:=aL (i:=Tryz.t105) (by rw [Tryz.types_size];decide) Tryz.type105 rfl ⟨rfl,rfl,rfl,rfl⟩ rfl (by exact ⟨_,Tryz.underlying105,rfl⟩) (by intro fs h;cases h)
theorem Mh:TyOk Tryz.prog 107 ty107:=aL (i:=Tryz.t107) (by rw [Tryz.types_size];decide) Tryz.type107 rfl ⟨rfl,rfl,rfl,rfl⟩ rfl (by exact Tryz.underlying107) (by intro fs h;cases h)
theorem Mi:TyOk Tryz.prog 109 ty109:=aL (i:=Tryz.t109) (by rw [Tryz.types_size];decide) Tryz.type109 rfl ⟨rfl,rfl,rfl,rfl⟩ rfl (by exact ⟨_,Tryz.underlying109,rfl⟩) (by intro fs h;cases h)
theorem Mj:TyOk Tryz.prog 111 ty111:=aL (i:=Tryz.t111) (by rw [Tryz.types_size];decide) Tryz.type111 rfl ⟨rfl,rfl,rfl,rfl⟩ rfl (by exact ⟨_,Tryz.underlying111,rfl⟩) (by intro fs h;cases h)
theorem Ml:TyOk Tryz.prog 117 ty117:=aL (i:=Tryz.t117) (by rw [Tryz.types_size];decide) Tryz.type117 rfl ⟨rfl,rfl,rfl,rfl⟩ rfl (by exact ⟨_,Tryz.underlying117,rfl⟩) (by intro fs h;cases h)
theorem Mm:TyOk Tryz.prog 122 ty122:=aL (i:=Tryz.t122) (by rw [Tryz.types_size];decide) Tryz.type122 rfl ⟨rfl,rfl,rfl,rfl⟩ rfl (by exact ⟨_,Tryz.underlying122,rfl⟩) (by intro fs h;cases h)
theorem Mn:TyOk Tryz.prog 145 ty145:=aL (i:=Tryz.t145) (by rw [Tryz.types_size];decide) Tryz.type145 rfl ⟨rfl,rfl,rfl,rfl⟩ rfl (by exact ⟨_,Tryz.underlying145,rfl⟩) (by intro fs h;cases h)
theorem Mo:TyOk Tryz.prog 147 ty147:=aL (i:=Tryz.t147) (by rw [Tryz.types_size];decide) Tryz.type147 rfl ⟨rfl,rfl,rfl,rfl⟩ rfl (by exact ⟨_,Tryz.underlying147,rfl⟩) (by intro fs h;cases h)
theorem Mp:TyOk Tryz.prog 150 ty150:=aL (i:=Tryz.t150) (by rw [Tryz.types_size];decide) Tryz.type150 rfl ⟨rfl,rfl,rfl,rfl⟩ rfl (by exact ⟨_,Tryz.underlying150,rfl⟩) (by intro fs h;cases h)
theorem Mq:TyOk Tryz.prog 153 ty153:=aL (i:=Tryz.t153) (by rw [Tryz.types_size];decide) Tryz.type153 rfl ⟨rfl,rfl,rfl,rfl⟩ rfl (by exact ⟨_,Tryz.underlying153,rfl⟩) (by intro fs h;cases h;exact ⟨_,Tryz.underlying153,rfl,by decide,by kernel_rfl,by kernel_rfl⟩)
theorem Mr:TyOk Tryz.prog 168 ty168:=aL (i:=Tryz.t168) (by rw [Tryz.types_size];decide) Tryz.type168 rfl ⟨rfl,rfl,rfl,rfl⟩ rfl (by exact ⟨_,Tryz.underlying168,rfl⟩) (by intro fs h;cases h)
theorem Ms:TyOk Tryz.prog 176 ty176:=aL (i:=Tryz.t176) (by rw [Tryz.types_size];decide) Tryz.type176 rfl ⟨rfl,rfl,rfl,rfl⟩ rfl (by exact Tryz.underlying176) (by intro fs h;cases h)
theorem Mt:TyOk Tryz.prog 179 ty179:=aL (i:=Tryz.t179) (by rw [Tryz.types_size];decide) Tryz.type179 rfl ⟨rfl,rfl,rfl,rfl⟩ rfl (by exact ⟨_,Tryz.underlying179,rfl⟩) (by intro fs h;cases h)
theorem Mu:TyOk Tryz.prog 184 ty184:=aL (i:=Tryz.t184) (by rw [Tryz.types_size];decide) Tryz.type184 rfl ⟨rfl,rfl,rfl,rfl⟩ rfl (by exact ⟨_,Tryz.underlying184,rfl⟩) (by intro fs h;cases h)
theorem Mv:TyOk Tryz.prog 187 ty187:=aL (i:=Tryz.t187) (by rw [Tryz.types_size];decide) Tryz.type187 rfl ⟨rfl,rfl,rfl,rfl⟩ rfl (by exact ⟨_,Tryz.underlying187,rfl⟩) (by intro fs h;cases h;exact ⟨_,Tryz.underlying187,rfl,by decide,by kernel_rfl,by kernel_rfl⟩)
theorem Mw:TyOk Tryz.prog 191 ty191:=aL (i:=Tryz.t191) (by rw [Tryz.types_size];decide) Tryz.type191 rfl ⟨rfl,rfl,rfl,rfl⟩ rfl (by exact ⟨_,Tryz.underlying191,rfl⟩) (by intro fs h;cases h)
theorem Mx:TyOk Tryz.prog 196 ty196:=aL (i:=Tryz.t196) (by rw [Tryz.types_size];decide) Tryz.type196 rfl ⟨rfl,rfl,rfl,rfl⟩ rfl (by exact ⟨_,Tryz.underlying196,rfl⟩) (by intro fs h;cases h)
theorem My:TyOk Tryz.prog 209 ty209:=aL (i:=Tryz.t209) (by rw [Tryz.types_size];decide) Tryz.type209 rfl ⟨rfl,rfl,rfl,rfl⟩ rfl (by exact Tryz.underlying209) (by intro fs h;cases h)
theorem Mz:TyOk Tryz.prog 211 ty211:=aL (i:=Tryz.t211) (by rw [Tryz.types_size];decide) Tryz.type211 rfl ⟨rfl,rfl,rfl,rfl⟩ rfl (by exact Tryz.underlying211) (by intro fs h;cases h)
theorem MA:TyOk Tryz.prog 214 ty214:=aL (i:=Tryz.t214) (by rw [Tryz.types_size];decide) Tryz.type214 rfl ⟨rfl,rfl,rfl,rfl⟩ rfl (by exact Tryz.underlying214) (by intro fs h;cases h)
theorem MB:TyOk Tryz.prog 219 ty219:=aL (i:=Tryz.t219) (by rw [Tryz.types_size];decide) Tryz.type219 rfl ⟨rfl,rfl,rfl,rfl⟩ rfl (by exact Tryz.underlying219) (by intro fs h;cases h)
theorem MD:TyOk Tryz.prog 237 ty237:=aL (i:=Tryz.t237) (by rw [Tryz.types_size];decide) Tryz.type237 rfl ⟨rfl,rfl,rfl,rfl⟩ rfl (by exact Tryz.underlying237) (by intro fs h;cases h)
theorem PA {l:List Ty}(r:bR Tryz.prog 16 l):bR Tryz.prog 0 (unkTy::ty1::ty2::ty3::ty4::ty5::ty6::unkTy::ty8::ty9::unkTy::unkTy::unkTy::unkTy::unkTy::unkTy::l):=
 .cons (an _ _) (.cons QL (.cons QM (.cons QN (.cons QO (.cons QP (.cons QQ (.cons (an _ _) (.cons QR (.cons QS (.cons (an _ _) (.cons (an _ _) (.cons (an _ _) (.cons (an _ _) (.cons (an _ _) (.cons (an _ _) (r))))))))))))))))
theorem ME {l:List Ty}(r:bR Tryz.prog 32 l):bR Tryz.prog 16 (unkTy::unkTy::unkTy::unkTy::ty20::unkTy::ty22::ty23::ty24::unkTy::ty26::unkTy::ty28::unkTy::ty30::ty31::l):=
 .cons (an _ _) (.cons (an _ _) (.cons (an _ _) (.cons (an _ _) (.cons Ph (.cons (an _ _) (.cons Pi (.cons Pj (.cons Pk (.cons (an _ _) (.cons Pl (.cons (an _ _) (.cons Pm (.cons (an _ _) (.cons Pn (.cons Po (r))))))))))))))))
theorem MF {l:List Ty}(r:bR Tryz.prog 48 l):bR Tryz.prog 32 (unkTy::ty33::unkTy::unkTy::unkTy::ty37::unkTy::unkTy::unkTy::unkTy::ty42::unkTy::unkTy::unkTy::unkTy::ty47::l):=
 .cons (an _ _) (.cons Pp (.cons (an _ _) (.cons (an _ _) (.cons (an _ _) (.cons Pq (.cons (an _ _) (.cons (an _ _) (.cons (an _ _) (.cons (an _ _) (.cons Pr (.cons (an _ _) (.cons (an _ _) (.cons (an _ _) (.cons (an _ _) (.cons Ps (r))))))))))))))))
theorem MG {l:List Ty}(r:bR Tryz.prog 64 l):bR Tryz.prog 48 (unkTy::unkTy::unkTy::unkTy::unkTy::unkTy::unkTy::unkTy::unkTy::unkTy::unkTy::unkTy::ty60::ty61::unkTy::ty63::l):=
 .cons (an _ _) (.cons (an _ _) (.cons (an _ _) (.cons (an _ _) (.cons (an _ _) (.cons (an _ _) (.cons (an _ _) (.cons (an _ _) (.cons (an _ _) (.cons (an _ _) (.cons (an _ _) (.cons (an _ _) (.cons Pt (.cons Pu (.cons (an _ _) (.cons Pv (r))))))))))))))))
theorem MH {l:List Ty}(r:bR Tryz.prog 80 l):bR Tryz.prog 64 (unkTy::unkTy::unkTy::unkTy::unkTy::unkTy::unkTy::unkTy::unkTy::unkTy::unkTy::unkTy::unkTy::ty77::ty78::unkTy::l):=
 .cons (an _ _) (.cons (an _ _) (.cons (an _ _) (.cons (an _ _) (.cons (an _ _) (.cons (an _ _) (.cons (an _ _) (.cons (an _ _) (.cons (an _ _) (.cons (an _ _) (.cons (an _ _) (.cons (an _ _) (.cons (an _ _) (.cons Pw (.cons Px (.cons (an _ _) (r))))))))))))))))
theorem MI {l:List Ty}(r:bR Tryz.prog 96 l):bR Tryz.prog 80 (ty80::unkTy::unkTy::unkTy::unkTy::unkTy::unkTy::unkTy::unkTy::unkTy::ty90::unkTy::unkTy::unkTy::unkTy::unkTy::l):=
 .cons Py (.cons (an _ _) (.cons (an _ _) (.cons (an _ _) (.cons (an _ _) (.cons (an _ _) (.cons (an _ _) (.cons (an _ _) (.cons (an _ _) (.cons (an _ _) (.cons Pz (.cons (an _ _) (.cons (an _ _) (.cons (an _ _) (.cons (an _ _) (.cons (an _ _) (r))))))))))))))))
theorem MJ {l:List Ty}(r:bR Tryz.prog 112 l):bR Tryz.prog 96 (unkTy::unkTy::unkTy::unkTy::unkTy::unkTy::unkTy::unkTy::unkTy::ty105::unkTy::ty107::unkTy::ty109::unkTy::ty111::l):=
 .cons (an _ _) (.cons (an _ _) (.cons (an _ _) (.cons (an _ _) (.cons (an _ _) (.cons (an _ _) (.cons (an _ _) (.cons (an _ _) (.cons (an _ _) (.cons Mg (.cons (an _ _) (.cons Mh (.cons (an _ _) (.cons Mi (.cons (an _ _) (.cons Mj (r))))))))))))))))
theorem KV {l:List Ty}(r:bR Tryz.prog 128 l):bR Tryz.prog 112 (unkTy::unkTy::unkTy::unkTy::unkTy::ty117::unkTy::unkTy::unkTy::unkTy::ty122::unkTy::unkTy::unkTy::unkTy::unkTy::l):=
 .cons (an _ _) (.cons (an _ _) (.cons (an _ _) (.cons (an _ _) (.cons (an _ _) (.cons Ml (.cons (an _ _) (.cons (an _ _) (.cons (an _ _) (.cons (an _ _) (.cons Mm (.cons (an _ _) (.cons (an _ _) (.cons (an _ _) (.cons (an _ _) (.cons (an _ _) (r))))))))))))))))
theorem KW {l:List Ty}(r:bR Tryz.prog 144 l):bR Tryz.prog 128 (unkTy::unkTy::unkTy::unkTy::unkTy::unkTy::unkTy::unkTy::unkTy::unkTy::unkTy::unkTy::unkTy::unkTy::unkTy::unkTy::l):=
 .cons (an _ _) (.cons (an _ _) (.cons (an _ _) (.cons (an _ _) (.cons (an _ _) (.cons (an _ _) (.cons (an _ _) (.cons (an _ _) (.cons (an _ _) (.cons (an _ _) (.cons (an _ _) (.cons (an _ _) (.cons (an _ _) (.cons (an _ _) (.cons (an _ _) (.cons (an _ _) (r))))))))))))))))
theorem KX {l:List Ty}(r:bR Tryz.prog 160 l):bR Tryz.prog 144 (unkTy::ty145::unkTy::ty147::unkTy::unkTy::ty150::unkTy::unkTy::ty153::unkTy::unkTy::unkTy::unkTy::unkTy::unkTy::l):=
 .cons (an _ _) (.cons Mn (.cons (an _ _) (.cons Mo (.cons (an _ _) (.cons (an _ _) (.cons Mp (.cons (an _ _) (.cons (an _ _) (.cons Mq (.cons (an _ _) (.cons (an _ _) (.cons (an _ _) (.cons (an _ _) (.cons (an _ _) (.cons (an _ _) (r))))))))))))))))
theorem KY {l:List Ty}(r:bR Tryz.prog 176 l):bR Tryz.prog 160 (unkTy::unkTy::unkTy::unkTy::unkTy::unkTy::unkTy::unkTy::ty168::unkTy::unkTy::unkTy::unkTy::unkTy::unkTy::unkTy::l):=
 .cons (an _ _) (.cons (an _ _) (.cons (an _ _) (.cons (an _ _) (.cons (an _ _) (.cons (an _ _) (.cons (an _ _) (.cons (an _ _) (.cons Mr (.cons (an _ _) (.cons (an _ _) (.cons (an _ _) (.cons (an _ _) (.cons (an _ _) (.cons (an _ _) (.cons (an _ _) (r))))))))))))))))
theorem KZ {l:List Ty}(r:bR Tryz.prog 192 l):bR Tryz.prog 176 (ty176::unkTy::unkTy::ty179::unkTy::unkTy::unkTy::unkTy::ty184::unkTy::unkTy::ty187::unkTy::unkTy::unkTy::ty191::l):=
 .cons Ms (.cons (an _ _) (.cons (an _ _) (.cons Mt (.cons (an _ _) (.cons (an _ _) (.cons (an _ _) (.cons (an _ _) (.cons Mu (.cons (an _ _) (.cons (an _ _) (.cons Mv (.cons (an _ _) (.cons (an _ _) (.cons (an _ _) (.cons Mw (r))))))))))))))))
theorem La {l:List Ty}(r:bR Tryz.prog 208 l):bR Tryz.prog 192 (unkTy::unkTy::unkTy::unkTy::ty196::unkTy::unkTy::unkTy::unkTy::unkTy::unkTy::unkTy::unkTy::unkTy::unkTy::unkTy::l):=
 .cons (an _ _) (.cons (an _ _) (.cons (an _ _) (.cons (an _ _) (.cons Mx (.cons (an _ _) (.cons (an _ _) (.cons (an _ _) (.cons (an _ _) (.cons (an _ _) (.cons (an _ _) (.cons (an _ _) (.cons (an _ _) (.cons (an _ _) (.cons (an _ _) (.cons (an _ _) (r))))))))))))))))
theorem Lb {l:List Ty}(r:bR Tryz.prog 224 l):bR Tryz.prog 208 (unkTy::ty209::unkTy::ty211::unkTy::unkTy::ty214::unkTy::unkTy::unkTy::unkTy::ty219::unkTy::unkTy::unkTy::unkTy::l):=
 .cons (an _ _) (.cons My (.cons (an _ _) (.cons Mz (.cons (an _ _) (.cons (an _ _) (.cons MA (.cons (an _ _) (.cons (an _ _) (.cons (an _ _) (.cons (an _ _) (.cons MB (.cons (an _ _) (.cons (an _ _) (.cons (an _ _) (.cons (an _ _) (r))))))))))))))))
theorem Lc {l:List Ty}(r:bR Tryz.prog 238 l):bR Tryz.prog 224 (unkTy::unkTy::unkTy::unkTy::unkTy::unkTy::unkTy::unkTy::unkTy::unkTy::unkTy::unkTy::unkTy::ty237::l):=
 .cons (an _ _) (.cons (an _ _) (.cons (an _ _) (.cons (an _ _) (.cons (an _ _) (.cons (an _ _) (.cons (an _ _) (.cons (an _ _) (.cons (an _ _) (.cons (an _ _) (.cons (an _ _) (.cons (an _ _) (.cons (an _ _) (.cons MD (r))))))))))))))
theorem hT (t:Nat):TyOk Tryz.prog t (T t):=by
 have h:bR Tryz.prog 0 tys:=PA (ME (MF (MG (MH (MI (MJ (KV (KW (KX (KY (KZ (La (Lb (Lc (.nil _)))))))))))))))
 have:=h.get t
 rw [Nat.zero_add] at this
 exact this
section
open TK
@[simp,go_sem] theorem Tk3:(T 3).kind=.int .i64:=rfl
@[simp,go_sem] theorem Ts3:(T 3).size=1:=rfl
@[simp,go_sem] theorem Tb3:(T 3).bytes=8:=rfl
@[simp,go_sem] theorem Tz3:(T 3).zero=[Go.Value.int Go.IntKind.i64 0]:=rfl
@[simp,go_sem] theorem Tk4:(T 4).kind=.bool:=rfl
@[simp,go_sem] theorem Ts4:(T 4).size=1:=rfl
@[simp,go_sem] theorem Tb4:(T 4).bytes=1:=rfl
@[simp,go_sem] theorem Tk5:(T 5).kind=.int .u8:=rfl
@[simp,go_sem] theorem Ts5:(T 5).size=1:=rfl
@[simp,go_sem] theorem Tb5:(T 5).bytes=1:=rfl
@[simp,go_sem] theorem Tk9:(T 9).kind=.str:=rfl
@[simp,go_sem] theorem Ts9:(T 9).size=1:=rfl
@[simp,go_sem] theorem Tk22:(T 22).kind=.slice 5:=rfl
@[simp,go_sem] theorem Ts22:(T 22).size=1:=rfl
@[simp,go_sem] theorem Tk23:(T 23).kind=.slice 147:=rfl
@[simp,go_sem] theorem Ts23:(T 23).size=1:=rfl
@[simp,go_sem] theorem Tk24:(T 24).kind=.slice 153:=rfl
@[simp,go_sem] theorem Ts24:(T 24).size=1:=rfl
@[simp,go_sem] theorem Tk26:(T 26).kind=.struct [(0,23),(1,24),(2,3)]:=rfl
@[simp,go_sem] theorem Ts26:(T 26).size=3:=rfl
@[simp,go_sem] theorem Tz26:(T 26).zero=[Go.Value.slice none 0 0,Go.Value.slice none 0 0,Go.Value.int Go.IntKind.i64 0]:=rfl
@[simp,go_sem] theorem Tk28:(T 28).kind=.slice 3:=rfl
@[simp,go_sem] theorem Ts28:(T 28).size=1:=rfl
@[simp,go_sem] theorem Tb28:(T 28).bytes=24:=rfl
@[simp,go_sem] theorem Tz28:(T 28).zero=[Go.Value.slice none 0 0]:=rfl
@[simp,go_sem] theorem Tk30:(T 30).kind=.struct [(0,3),(1,28),(2,28)]:=rfl
@[simp,go_sem] theorem Ts30:(T 30).size=3:=rfl
@[simp,go_sem] theorem Tz30:(T 30).zero=[Go.Value.int Go.IntKind.i64 0,Go.Value.slice none 0 0,Go.Value.slice none 0 0]:=rfl
@[simp,go_sem] theorem Tk31:(T 31).kind=.slice 42:=rfl
@[simp,go_sem] theorem Ts31:(T 31).size=1:=rfl
@[simp,go_sem] theorem Tk33:(T 33).kind=.struct [(0,26),(3,30),(6,4),(7,31)]:=rfl
@[simp,go_sem] theorem Ts33:(T 33).size=8:=rfl
@[simp,go_sem] theorem Tz33:(T 33).zero=[Go.Value.slice none 0 0,Go.Value.slice none 0 0,Go.Value.int Go.IntKind.i64 0,Go.Value.int Go.IntKind.i64 0,Go.Value.slice none 0 0,Go.Value.slice none 0 0,Go.Value.bool false,Go.Value.slice none 0 0]:=rfl
@[simp,go_sem] theorem Tk37:(T 37).kind=.struct [(0,28),(1,28)]:=rfl
@[simp,go_sem] theorem Ts37:(T 37).size=2:=rfl
@[simp,go_sem] theorem Tz37:(T 37).zero=[Go.Value.slice none 0 0,Go.Value.slice none 0 0]:=rfl
@[simp,go_sem] theorem Tk42:(T 42).kind=.struct [(0,3),(1,28),(2,28),(3,28)]:=rfl
@[simp,go_sem] theorem Ts42:(T 42).size=4:=rfl
@[simp,go_sem] theorem Tb42:(T 42).bytes=80:=rfl
@[simp,go_sem] theorem Tz42:(T 42).zero=[Go.Value.int Go.IntKind.i64 0,Go.Value.slice none 0 0,Go.Value.slice none 0 0,Go.Value.slice none 0 0]:=rfl
@[simp,go_sem] theorem Tk47:(T 47).kind=.slice 28:=rfl
@[simp,go_sem] theorem Tk60:(T 60).kind=.slice 184:=rfl
@[simp,go_sem] theorem Ts60:(T 60).size=1:=rfl
@[simp,go_sem] theorem Tk61:(T 61).kind=.slice 187:=rfl
@[simp,go_sem] theorem Ts61:(T 61).size=1:=rfl
@[simp,go_sem] theorem Tk63:(T 63).kind=.struct [(0,60),(1,61),(2,3)]:=rfl
@[simp,go_sem] theorem Ts63:(T 63).size=3:=rfl
@[simp,go_sem] theorem Tk77:(T 77).kind=.struct [(0,3),(1,28),(2,28)]:=rfl
@[simp,go_sem] theorem Ts77:(T 77).size=3:=rfl
@[simp,go_sem] theorem Tk78:(T 78).kind=.slice 191:=rfl
@[simp,go_sem] theorem Ts78:(T 78).size=1:=rfl
@[simp,go_sem] theorem Tk80:(T 80).kind=.struct [(0,63),(3,77),(6,4),(7,78)]:=rfl
@[simp,go_sem] theorem Ts80:(T 80).size=8:=rfl
@[simp,go_sem] theorem Ww:(T 105).kind=.other:=rfl
@[simp,go_sem] theorem Wx:(T 107).kind=.map 9 4:=rfl
@[simp,go_sem] theorem Wy:(T 107).size=1:=rfl
@[simp,go_sem] theorem Wz:(T 109).kind=.struct [(0,26),(3,107)]:=rfl
@[simp,go_sem] theorem WA:(T 109).zero=[Go.Value.slice none 0 0,Go.Value.slice none 0 0,Go.Value.int Go.IntKind.i64 0,Go.Value.map none]:=rfl
@[simp,go_sem] theorem WB:(T 145).kind=.struct [(0,22),(1,3),(2,3)]:=rfl
@[simp,go_sem] theorem WC:(T 145).zero=[Go.Value.slice none 0 0,Go.Value.int Go.IntKind.i64 0,Go.Value.int Go.IntKind.i64 0]:=rfl
@[simp,go_sem] theorem WD:(T 147).kind=.struct [(0,9),(1,28),(2,3)]:=rfl
@[simp,go_sem] theorem WE:(T 147).size=3:=rfl
@[simp,go_sem] theorem WF:(T 147).bytes=48:=rfl
@[simp,go_sem] theorem WG:(T 147).zero=[Go.Value.string { data:=#[] },Go.Value.slice none 0 0,Go.Value.int Go.IntKind.i64 0]:=rfl
@[simp,go_sem] theorem WH:(T 153).kind=.struct [(0,3),(1,3),(2,3),(3,3),(4,4)]:=rfl
@[simp,go_sem] theorem WI:(T 153).size=5:=rfl
@[simp,go_sem] theorem WJ:(T 153).bytes=40:=rfl
@[simp,go_sem] theorem WK:(T 153).zero=[Go.Value.int Go.IntKind.i64 0,Go.Value.int Go.IntKind.i64 0,Go.Value.int Go.IntKind.i64 0,Go.Value.int Go.IntKind.i64 0,Go.Value.bool false]:=rfl
@[simp,go_sem] theorem WL:(T 153).eqs=some [(0,3),(1,3),(2,3),(3,3),(4,4)]:=rfl
@[simp,go_sem] theorem WM:(T 176).kind=.int .u64:=rfl
@[simp,go_sem] theorem WN:(T 184).kind=.struct [(0,9),(1,28),(2,3)]:=rfl
@[simp,go_sem] theorem WO:(T 184).size=3:=rfl
@[simp,go_sem] theorem WP:(T 187).kind=.struct [(0,3),(1,3),(2,3),(3,3),(4,4)]:=rfl
@[simp,go_sem] theorem WQ:(T 187).size=5:=rfl
@[simp,go_sem] theorem WR:(T 191).kind=.struct [(0,3),(1,28),(2,28),(3,28)]:=rfl
@[simp,go_sem] theorem WS:(T 191).size=4:=rfl
@[simp,go_sem] theorem WT:(T 209).kind=.slice 9:=rfl
@[simp,go_sem] theorem WU:(T 214).kind=.int .u64:=rfl
@[simp,go_sem] theorem WV:(T 237).kind=.slice 4:=rfl
end
end Go.Proofs.QD
