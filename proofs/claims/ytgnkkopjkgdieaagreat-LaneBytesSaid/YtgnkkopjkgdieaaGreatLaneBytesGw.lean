/- A part of the proof. -/
import Derived.OpenShut
import Derived.ProofKit
import Derived.Test.YtgnkkopjkgdieaaGreatLaneBytesGv
set_option linter.unusedVariables false
set_option linter.unusedSimpArgs false
set_option linter.defProp false
set_option maxRecDepth 100000
set_option maxHeartbeats 4000000
namespace Go.V
open Go Go.ChangeAt Go.ChangeShapes Go.RowKit Go.WideShapes Ieee
section
variable {P:Program} {ρ:Operand→Value} {w:World} {dd:Option Tmp} {ty:TypeId} {ps:String} {af:Array Edge} {g:Option (Nat×Bool)}
theorem eq_int {t:TypeId} {k k':IntKind} {a b:Int} (h:P.underlying t=some (.int k')) (d:Nat) (w:World):(Op.equalIn (d+1) t (.int k a) (.int k b)).run P w = .ok (a==b) w:=by
 have hu:∀ w:World,(underlying t).run P w = .ok (.int k') w:=fun w=>by simp [underlying,h]
 simp [Op.equalIn,Sem.run_bind,hu,Result.andThen]
theorem FX {t : TypeId} {F0 F1 : Field} {k0 k1 j0 j1 : IntKind} {a0 a1 b0 b1 : Int} (ht : P.underlying t = some (.struct #[F0, F1])) (n0 : (F0.name == "_") = false) (n1 : (F1.name == "_") = false) (hs : P.stoodInHeld t = false)
  (u0 : P.underlying F0.type=some (.int j0)) (u1:P.underlying F1.type=some (.int j1))
  (p0 : ∀ (x y:Value) (w:World),(part F0.type #[x,y] F0.offset).run P w = .ok x w) (p1:∀ (x y:Value) (w:World),(part F1.type #[x,y] F1.offset).run P w = .ok y w) (d:Nat) (w:World) :
  (Op.equalIn (d+2) t (.agg #[.int k0 a0,.int k1 a1]) (.agg #[.int k0 b0,.int k1 b1])).run P w = .ok ((a0==b0)&&(a1==b1)) w:=by
 have hu:∀ w:World,(underlying t).run P w = .ok (.struct #[F0,F1]) w:=fun w=>by simp [underlying,ht]
 have m0 : F0.name ≠ "_" := by simpa using n0
 have m1 : F1.name ≠ "_" := by simpa using n1
 rw [Op.equalIn]
 cases h0:(a0==b0) <;> cases h1:(a1==b1) <;>
  simp [hu,hs,run_program,m0,m1,p0,p1,eq_int u0,eq_int u1,Sem.run_bind,Result.andThen,h0,h1]
variable {t t2:TypeId} {x y:Operand} {F0 F1:Field} {k0 k1 j0 j1:IntKind} {a0 a1 b0 b1:Int}
theorem yG (hx : ρ x = .agg #[.int k0 a0, .int k1 a1]) (hy : ρ y = .agg #[.int k0 b0, .int k1 b1]) (hg : P.eqGuardType P.depth t = false) (ht : P.underlying t = some (.struct #[F0, F1])) (n0 : (F0.name == "_") = false) (n1 : (F1.name == "_") = false) (hs : P.stoodInHeld t = false)
  (u0 : P.underlying F0.type=some (.int j0)) (u1:P.underlying F1.type=some (.int j1))
  (p0 : ∀ (x y:Value) (w:World),(part F0.type #[x,y] F0.offset).run P w = .ok x w) (p1:∀ (x y:Value) (w:World),(part F1.type #[x,y] F1.offset).run P w = .ok y w) :
  (execOp ρ ⟨dd,.binOp .eql t x y t2,ty,ps,af,g⟩).run P w = .ok (.value (.bool ((a0==b0)&&(a1==b1)))) w:=by
 refine qE ?_
 rw [hx,hy]
 have he:=fun w=>FX (k0:=k0) (k1:=k1) (a0:=a0) (a1:=a1) (b0:=b0) (b1:=b1) ht n0 n1 hs u0 u1 p0 p1 9998 w
 simp [eqGuard,binOp,Op.equal,Op.maxDepth,Sem.run_bind,run_program,hg,he,Result.andThen]
theorem wU (hx : ρ x = .agg #[.int k0 a0, .int k1 a1]) (hy : ρ y = .agg #[.int k0 b0, .int k1 b1]) (hg : P.eqGuardType P.depth t = false) (ht : P.underlying t = some (.struct #[F0, F1])) (n0 : (F0.name == "_") = false) (n1 : (F1.name == "_") = false) (hs : P.stoodInHeld t = false)
  (u0 : P.underlying F0.type=some (.int j0)) (u1:P.underlying F1.type=some (.int j1))
  (p0 : ∀ (x y:Value) (w:World),(part F0.type #[x,y] F0.offset).run P w = .ok x w) (p1:∀ (x y:Value) (w:World),(part F1.type #[x,y] F1.offset).run P w = .ok y w) :
  (execOp ρ ⟨dd,.binOp .neq t x y t2,ty,ps,af,g⟩).run P w = .ok (.value (.bool (!((a0==b0)&&(a1==b1))))) w:=by
 refine qE ?_
 rw [hx,hy]
 have he:=fun w=>FX (k0:=k0) (k1:=k1) (a0:=a0) (a1:=a1) (b0:=b0) (b1:=b1) ht n0 n1 hs u0 u1 p0 p1 9998 w
 simp [eqGuard,binOp,Op.equal,Op.maxDepth,Sem.run_bind,run_program,hg,he,Result.andThen]
end
section
variable {α:Type} {w0 w:World} {I:HL} {L:List SP} {R:SP} {sz:Nat} {v:Value} {css:List (List Value)} {xs:List α} {r:α→List Value→Prop}
theorem St.rsv (h:St w0 w I L R) (k:Nat) (hL:L[k]?=some (row sz v css)) (hq:bT r xs css):dQ v xs.length:=by
 rw [hq.1]; exact (h.rV k hL rfl).dy.2
theorem St.uy (h:St w0 w I L R) (k:Nat) (hL:L[k]?=some (row sz v css)) {i:Nat} {cs:List Value} (hc:css[i]?=some cs):∀ o x,cs[o]?=some x→w.cell? (eZ v (i*sz+o))=some x:=fun o x ho=>(h.rV k hL rfl).qk hc ho
end
def fV (a:Nat):Nat:=if a<4503599627370496 then a else (4503599627370496+a%4503599627370496)*2 ^ (a / 4503599627370496 - 1)
theorem FZ (a:Nat):fV a<fV (a+1):=by
 unfold fV
 by_cases h1:a+1<4503599627370496
 ·rw [if_pos omA,if_pos h1]; omega
 ·rw [if_neg h1]
  by_cases h2:a<4503599627370496
  ·have e:a+1=4503599627370496:=by omega
   rw [if_pos h2,e]
   simp; omega
  ·rw [if_neg h2]
   by_cases h3:a%4503599627370496+1<4503599627370496
   ·have e1:(a+1) / 4503599627370496=a / 4503599627370496:=by omega
    have e2:(a+1)%4503599627370496=a%4503599627370496+1:=by omega
    rw [e1,e2]
    exact Nat.mul_lt_mul_of_pos_right omA (Nat.two_pow_pos _)
   ·have e1:(a+1) / 4503599627370496 - 1=(a / 4503599627370496 - 1)+1:=by omega
    have e2:(a+1)%4503599627370496=0:=by omega
    rw [e1,e2,Nat.pow_succ,Nat.mul_comm (2 ^ _) 2,← Nat.mul_assoc]
    exact Nat.mul_lt_mul_of_pos_right omA (Nat.two_pow_pos _)
theorem Gv {a b:Nat} (h:a<b):fV a<fV b:=by
 induction b with
 | zero=>omega
 | succ b ih =>
  rcases Nat.lt_or_ge a b with h1 | h1
  ·exact Nat.lt_trans (ih h1) (FZ b)
  ·have : a=b:=by omega
   subst this; exact FZ a
theorem xr {a b:Nat}:fV a<fV b↔a<b:=by
 refine ⟨fun h=>?_,Gv⟩
 rcases Nat.lt_trichotomy a b with h1 | h1 | h1
 ·exact h1
 ·subst h1; omega
 ·have := Gv h1; omega
theorem LG {a b:Nat}:fV a=fV b↔a=b:=by
 refine ⟨fun h=>?_,fun h=>by rw [h]⟩
 rcases Nat.lt_trichotomy a b with h1 | h1 | h1
 ·have := Gv h1; omega
 ·exact h1
 ·have := Gv h1; omega
theorem Kx:fV 0=0:=by simp [fV]
def vh (x:Nat):Bool:=decide (9223372036854775808≤x)
def ji (x:Nat):Nat:=x%9223372036854775808
def pX (x:Nat):Bool:=decide (9218868437227405312<ji x)
def rI (x:Nat):Int:=if 9223372036854775808≤x then -(ji x:Int) else (ji x:Int)
theorem HB (s:Bool) (m up:Nat):signed s m up=if s then -((m*2 ^ up:Nat):Int) else ((m*2 ^ up:Nat):Int):=by
 simp [signed,Nat.shiftLeft_eq]
theorem sx {x:Nat} (hx:x<18446744073709551616):FloatKind.f64.format.read x =
  (if ji x<4503599627370496 then .number (vh x) (ji x) (-1074)
  else if ji x<9218868437227405312 then .number (vh x) (4503599627370496+ji x%4503599627370496) (-1074+((ji x / 4503599627370496 - 1:Nat):Int))
  else if ji x=9218868437227405312 then .infinity (vh x) else .nan (vh x) (ji x - 9218868437227405312)):=by
 have e1:FloatKind.f64.format.signWeight=9223372036854775808:=by decide
 have e2:FloatKind.f64.format.binade=4503599627370496:=by decide
 have e3:FloatKind.f64.format.infRung=9218868437227405312:=by decide
 have e4:FloatKind.f64.format.leastPlace = -1074:=by decide
 have e5:(x / 9223372036854775808%2==1)=vh x:=by
  unfold vh
  by_cases h:9223372036854775808≤x
  ·have : x / 9223372036854775808=1:=by omega
   simp [h,this]
  ·have : x / 9223372036854775808=0:=by omega
   simp [h,this]
 simp only [Format.read,e1,e2,e3,e4,e5,ji]
 rfl
theorem wh {a b:Int} (h:a<b):compare a b = .lt:=by simp [compare,compareOfLessAndEq,h]
theorem EJ {a b:Int} (h:a=b):compare a b = .eq:=by subst h; simp [compare,compareOfLessAndEq]
theorem wH {a b:Int} (h:b<a):compare a b = .gt:=by
 have h1:¬ a<b:=by omega
 have h2:¬ a=b:=by omega
 simp [compare,compareOfLessAndEq,h1,h2]
theorem Fs {a b:Int} (h:compare a b = .lt):a<b:=by
 rcases Int.lt_trichotomy a b with g | g | g
 ·exact g
 ·rw [EJ g] at h; cases h
 ·rw [wH g] at h; cases h
theorem FB {a b:Int} (h:compare a b = .eq):a=b:=by
 rcases Int.lt_trichotomy a b with g | g | g
 ·rw [wh g] at h; cases h
 ·exact g
 ·rw [wH g] at h; cases h
theorem GW (a b:Int) (k:Nat):compare (a*2 ^ k) (b*2 ^ k)=compare a b:=by
 have hk:(0:Int)<2 ^ k:=Int.pow_pos deA
 rcases Int.lt_trichotomy a b with h | h | h
 ·rw [wh h,wh (Int.mul_lt_mul_of_pos_right h hk)]
 ·subst h; simp
 ·rw [wH h,wH (Int.mul_lt_mul_of_pos_right h hk)]
theorem Hn (s t:Bool) (m n p q:Nat):Datum.order (.number s m (-1074+(p:Int))) (.number t n (-1074+(q:Int))) =
  some (compare (if s then -((m*2 ^ p:Nat):Int) else ((m*2 ^ p:Nat):Int)) (if t then -((n*2 ^ q:Nat):Int) else ((n*2 ^ q:Nat):Int))):=by
 simp only [Datum.order,HB]
 congr 1
 have hb:min (-1074+(p:Int)) (-1074+(q:Int)) = -1074+((min p q:Nat):Int):=by omega
 rw [hb]
 have e1:((-1074:Int)+p - (-1074+((min p q:Nat):Int))).toNat=p - min p q:=by omega
 have e2:((-1074:Int)+q - (-1074+((min p q:Nat):Int))).toNat=q - min p q:=by omega
 rw [e1,e2,← GW _ _ (min p q)]
 have h1:m*2 ^ p=m*2 ^ (p - min p q)*2 ^ (min p q):=by rw [Nat.mul_assoc,← Nat.pow_add]; congr 2; omega
 have h2:n*2 ^ q=n*2 ^ (q - min p q)*2 ^ (min p q):=by rw [Nat.mul_assoc,← Nat.pow_add]; congr 2; omega
 rw [h1,h2]
 cases s <;> cases t <;> simp [Int.neg_mul]
theorem yI {x:Nat} (hx:x<18446744073709551616) (h:ji x<9218868437227405312):∃ m p:Nat,FloatKind.f64.format.read x = .number (vh x) m (-1074+(p:Int))∧m*2 ^ p=fV (ji x):=by
 rw [sx hx]
 by_cases h1:ji x<4503599627370496
 ·exact ⟨ji x,0,by rw [if_pos h1]; rfl,by simp [fV,h1]⟩
 ·exact ⟨4503599627370496+ji x%4503599627370496,ji x / 4503599627370496 - 1,by rw [if_neg h1,if_pos h],by simp [fV,h1]⟩
theorem EI {a b c d:Int} (h1:a<b↔c<d) (h2:a=b↔c=d):compare a b=compare c d:=by
 rcases Int.lt_trichotomy a b with h | h | h
 ·rw [wh h,wh (h1.1 h)]
 ·rw [EJ h,EJ (h2.1 h)]
 ·have : d<c:=by
   rcases Int.lt_trichotomy c d with g | g | g
   ·exact absurd (h1.2 g) omA
   ·exact absurd (h2.2 g) omA
   ·exact g
  rw [wH h,wH this]
theorem BT {x y:Nat} (hx:x<18446744073709551616) (hy:y<18446744073709551616) (nx:pX x=false) (ny:pX y=false) :
  FloatKind.f64.format.order x y=some (compare (rI x) (rI y)):=by
 have nx':ji x≤9218868437227405312:=by simpa [pX] using nx
 have ny':ji y≤9218868437227405312:=by simpa [pX] using ny
 unfold Format.order
 by_cases h1:ji x<9218868437227405312 <;> by_cases h2:ji y<9218868437227405312
 ·obtain ⟨m,p,e1,v1⟩:=yI hx h1
  obtain ⟨n,q,e2,v2⟩:=yI hy h2
  rw [e1,e2,Hn,v1,v2]
  congr 1
  have a1 := @xr (ji x) (ji y)
  have a2 := @xr (ji y) (ji x)
  have a3 := @LG (ji x) (ji y)
  have z1 := @xr 0 (ji x)
  have z2 := @xr 0 (ji y)
  rw [Kx] at z1 z2
  apply EI <;> simp only [rI,vh,decide_eq_true_eq] <;> split <;> split <;> omega
 ·obtain ⟨m,p,e1,v1⟩:=yI hx h1
  have e2:ji y=9218868437227405312:=by omega
  have e3:FloatKind.f64.format.read y = .infinity (vh y):=by rw [sx hy,if_neg omA,if_neg h2,if_pos e2]
  rw [e1,e3]
  simp only [Datum.order,vh,decide_eq_true_eq]
  split
  ·rw [wH]; simp only [rI]; split <;> omega
  ·rw [wh]; simp only [rI]; split <;> omega
 ·obtain ⟨n,q,e2,v2⟩:=yI hy h2
  have e1:ji x=9218868437227405312:=by omega
  have e3:FloatKind.f64.format.read x = .infinity (vh x):=by rw [sx hx,if_neg omA,if_neg h1,if_pos e1]
  rw [e3,e2]
  simp only [Datum.order,vh,decide_eq_true_eq]
  split
  ·rw [wh]; simp only [rI]; split <;> omega
  ·rw [wH]; simp only [rI]; split <;> omega
 ·have e1:ji x=9218868437227405312:=by omega
  have e2:ji y=9218868437227405312:=by omega
  have e3:FloatKind.f64.format.read x = .infinity (vh x):=by rw [sx hx,if_neg omA,if_neg h1,if_pos e1]
  have e4:FloatKind.f64.format.read y = .infinity (vh y):=by rw [sx hy,if_neg omA,if_neg h2,if_pos e2]
  rw [e3,e4]
  simp only [Datum.order,vh,rI,e1,e2]
  by_cases g1:9223372036854775808≤x <;> by_cases g2:9223372036854775808≤y <;> simp [g1,g2] <;> decide
theorem zT {x y:Nat} (hx:x<18446744073709551616) (nx:pX x=true):FloatKind.f64.format.order x y=none:=by
 have nx':9218868437227405312<ji x:=by simpa [pX] using nx
 unfold Format.order
 rw [sx hx,if_neg omA,if_neg omA,if_neg omA]
 rfl
theorem zV {x y:Nat} (hy:y<18446744073709551616) (ny:pX y=true):FloatKind.f64.format.order x y=none:=by
 have ny':9218868437227405312<ji y:=by simpa [pX] using ny
 unfold Format.order
 rw [sx hy,if_neg omA,if_neg omA,if_neg omA]
 cases FloatKind.f64.format.read x <;> rfl
theorem EY {x y:Nat} (hx:x<18446744073709551616) (hy:y<18446744073709551616):fEq x y=(!pX x && !pX y&&decide (rI x=rI y)):=by
 unfold fEq
 cases nx:pX x with
 | true=>rw [zT hx nx]; rfl
 | false =>
  cases ny:pX y with
  | true=>rw [zV hy ny]; rfl
  | false =>
   rw [BT hx hy nx ny]
   by_cases h:rI x=rI y
   ·rw [h]; simp
   ·have : compare (rI x) (rI y) ≠ .eq:=fun e=>h (FB e)
    simp [h,this]
theorem LM {x y:Nat} (hx:x<18446744073709551616) (hy:y<18446744073709551616):fLt x y=(!pX x && !pX y&&decide (rI x<rI y)):=by
 unfold fLt
 cases nx:pX x with
 | true=>rw [zT hx nx]; rfl
 | false =>
  cases ny:pX y with
  | true=>rw [zV hy ny]; rfl
  | false =>
   rw [BT hx hy nx ny]
   by_cases h:rI x<rI y
   ·rw [wh h]; simp [h]
   ·have : compare (rI x) (rI y) ≠ .lt:=fun e=>h (Fs e)
    simp [h,this]
theorem Mp {x y:Nat}:fNe x y = !fEq x y:=by unfold fNe fEq; rfl
theorem Bo {x:Nat} (hx:x<18446744073709551616):fNe x x=pX x:=by
 rw [Mp,EY hx hx]; cases pX x <;> simp
def aO (x:Nat):Int:=if pX x then 18446744073709551615 else if 9223372036854775808≤x then 18446744073709551615 - x else x+9223372036854775808
theorem Lf:(2:Int) ^ 64=18446744073709551616:=by decide
theorem MJ:(2:Int) ^ (64 - 1)=9223372036854775808:=by decide
theorem zP (n:Int):IntKind.i64.wrap n=(n+9223372036854775808)%18446744073709551616 - 9223372036854775808:=by
 simp only [IntKind.wrap,IntKind.bits,IntKind.signed,Bool.true_and,decide_eq_true_eq,Lf,MJ]
 split <;> omega
theorem kO (n:Int):IntKind.u64.wrap n=n%18446744073709551616:=by
 simp only [IntKind.wrap,IntKind.bits,IntKind.signed,Bool.false_and,Bool.false_eq_true,if_false,Lf]
theorem AH (n:Int):IntKind.u8.wrap n=n%256:=by
 have : (2:Int) ^ 8=256:=by decide
 simp only [IntKind.wrap,IntKind.bits,IntKind.signed,Bool.false_and,Bool.false_eq_true,if_false,this]
theorem wrap_i64 {n:Int} (h : -9223372036854775808≤n) (h2:n<9223372036854775808):IntKind.i64.wrap n=n:=by rw [zP]; omega
theorem jV {n:Int} (h:0≤n) (h2:n<18446744073709551616):IntKind.u64.wrap n=n:=by rw [kO]; omega
theorem wrap_u8 {n:Int} (h:0≤n) (h2:n<256):IntKind.u8.wrap n=n:=by rw [AH]; omega
theorem Mh {n:Int}:(Lit.int .u8 n).wf=true↔0≤n∧n<256:=by
 have h1:IntKind.u8.min=0:=by decide
 have h2:IntKind.u8.max=255:=by decide
 simp only [Lit.wf,h1,h2,Bool.and_eq_true,decide_eq_true_eq]; omega
theorem uL (x:Nat):BitVec.ofInt 64 (x:Int)=BitVec.ofNat 64 x:=by simp
theorem LJ (a b:Int):Ez .u64 a b=IntKind.u64.wrap ((BitVec.ofInt 64 a ^^^ BitVec.ofInt 64 b).toNat:Int):=rfl
theorem Ld (a b:Int):bOr .u64 a b=IntKind.u64.wrap ((BitVec.ofInt 64 a ||| BitVec.ofInt 64 b).toNat:Int):=rfl
theorem FV {x:Nat} (hx:x<18446744073709551616):Ez .u64 18446744073709551615 (x:Int)=18446744073709551615 - x:=by
 have h1:BitVec.ofInt 64 (18446744073709551615:Int)=BitVec.allOnes 64:=by decide
 have h3:(BitVec.allOnes 64 ^^^ BitVec.ofNat 64 x).toNat=18446744073709551615 - x:=by
  rw [BitVec.allOnes_xor,BitVec.toNat_not,BitVec.toNat_ofNat]
  have : 2 ^ 64=18446744073709551616:=by decide
  rw [this,Nat.mod_eq_of_lt hx]
 rw [LJ,h1,uL,h3,jV] <;> omega
theorem Mv {x:Nat} (hx:x<9223372036854775808):bOr .u64 (x:Int) 9223372036854775808=x+9223372036854775808:=by
 have h1:BitVec.ofInt 64 (9223372036854775808:Int)=BitVec.ofNat 64 9223372036854775808:=by decide
 have h3:(BitVec.ofNat 64 x ||| BitVec.ofNat 64 9223372036854775808).toNat=x+9223372036854775808:=by
  rw [BitVec.toNat_or,BitVec.toNat_ofNat,BitVec.toNat_ofNat]
  have e:2 ^ 64=18446744073709551616:=by decide
  rw [e,Nat.mod_eq_of_lt omA,Nat.mod_eq_of_lt omA]
  have := Nat.two_pow_add_eq_or_of_lt (i:=63) (b:=x) (by simpa using hx) 1
  rw [Nat.or_comm]
  have e63:2 ^ 63*1=9223372036854775808:=by decide
  rw [e63] at this
  omega
 rw [Ld,h1,uL,h3,jV] <;> omega
theorem HS (x:Nat):jq .u64 (x:Int) 63=(x / 9223372036854775808:Nat):=by
 unfold jq
 have e:((2:Int) ^ (min (Int.toNat 63) IntKind.u64.bits))=9223372036854775808:=by decide
 rw [e,Int.fdiv_eq_ediv_of_nonneg _ deA]
 rfl
theorem HD (a b:Int):yQ .u64 a b=IntKind.u64.wrap ((BitVec.ofInt 64 a &&& ~~~BitVec.ofInt 64 b).toNat:Int):=rfl
theorem Fu {x:Nat} (hx:x<18446744073709551616):yQ .u64 (x:Int) 9223372036854775808=((x%9223372036854775808:Nat):Int):=by
 have h1:BitVec.ofInt 64 (9223372036854775808:Int)=BitVec.ofNat 64 9223372036854775808:=by decide
 have h3:(BitVec.ofNat 64 x &&& ~~~BitVec.ofNat 64 9223372036854775808).toNat=x%9223372036854775808:=by
  rw [BitVec.toNat_and,BitVec.toNat_ofNat]
  have e:(~~~BitVec.ofNat 64 9223372036854775808).toNat=2 ^ 63 - 1:=by decide
  have e2:2 ^ 64=18446744073709551616:=by decide
  rw [e,e2,Nat.mod_eq_of_lt hx,Nat.and_two_pow_sub_one_eq_mod]
 rw [HD,h1,uL,h3,jV] <;> omega
section
variable {P:Program} {w0 w:World} {I:HL} {L:List SP} {R:SP} {α:Type} {E:Ty α}
def HV (l c:Int):Bool:=decide ((0:Int)≤l)&&(decide (l≤c)&&decide (c≤1073741824))
theorem Kt {l c:Int} (h:HV l c=true):0≤l∧l≤c∧c≤1073741824:=by simpa [HV] using h
theorem As (zc:List Value) (d:Value):∀ c:Nat,(List.range (c*zc.length)).map (fun i=>zc[i%zc.length]?.getD d)=(List.replicate c zc).flatten:=by
 intro c
 induction c with
 | zero=>simp
 | succ c ih =>
  rw [Nat.succ_mul,List.range_add,List.map_append,ih,List.replicate_succ',List.flatten_append,List.flatten_singleton]
  congr 1
  rw [List.map_map]
  refine List.ext_getElem siA fun i h1 h2=>?_
  simp only [List.getElem_map,List.getElem_range,Function.comp]
  rw [Nat.mul_add_mod_self_right,Nat.mod_eq_of_lt h2,List.getElem?_eq_getElem h2]; rfl
theorem run_mk {t e:TypeId} {inf:TypeInfo} {z:Value} (he:sE P E t e inf z) (hst:St w0 w I L R) {k k':IntKind} {l c:Int} (h:HV l c=true) (hs:0<E.sz) {zm:α} (hz:E.rep (eT I) zm z.cells.toList) :
  ∃ v' w',(Instr.makeSlice t (.int k l) (.int k' c)).run P w = .ok v' w'∧St w0 w' I (bp E v' (List.replicate l.toNat zm)::L) R:=by
 obtain ⟨h0,h1,h2⟩:=Kt h
 have hb:=he.hb
 have hu:∀ w:World,(underlying t).run P w = .ok (.slice e) w:=fun w=>by simp [underlying,he.ht]
 have hinfo:∀ w:World,(typeInfo e).run P w = .ok inf w:=fun w=>by simp [typeInfo,he.hi]
 have hsizeOf:∀ w:World,(sizeOf e).run P w = .ok E.sz w:=fun w=>by simp [sizeOf,typeInfo,he.hi,he.hsz]
 have hzero:∀ w:World,(zeroValue e).run P w = .ok z w:=fun w=>by simp [zeroValue,typeInfo,he.hi,he.hz]
 have wl:IntKind.i64.wrap l=l:=by rw [wrap_i64] <;> omega
 have wc:IntKind.i64.wrap c=c:=by rw [wrap_i64] <;> omega
 obtain ⟨m,rfl⟩:=Int.eq_ofNat_of_zero_le h0
 obtain ⟨n,rfl⟩:=Int.eq_ofNat_of_zero_le (show (0:Int)≤c by omega)
 have hmul:inf.bytes*n≤1000*1073741824:=Nat.mul_le_mul hb.2 omA
 have hbig:¬ ((inf.bytes:Int)*(n:Int)>2 ^ 48):=by
  have e:((inf.bytes*n:Nat):Int)=(inf.bytes:Int)*(n:Int):=by push_cast; rfl
  rw [← e]
  have : (2:Int) ^ 48=281474976710656:=by decide
  omega
 have hbig':¬ (281474976710656<(inf.bytes:Int)*(n:Int)):=by
  have : (2:Int) ^ 48=281474976710656:=by decide
  rw [this] at hbig; omega
 have hroom:¬ (n*inf.bytes>roomBytes):=by
  have : (1000000000000000:Nat)≤1000000000000000:=Nat.le_refl _
  unfold roomBytes
  rw [Nat.mul_comm]; omega
 have hzl:z.cells.toList.length=E.sz:=by rw [Array.length_toList]; exact he.hzs
 have hcells:((Array.range (n*E.sz)).map fun i=>z.cells[i%z.cells.size]!)=((List.replicate n z.cells.toList).flatten).toArray:=by
  have h1:=As z.cells.toList default n
  rw [hzl] at h1
  apply Array.toList_inj.1
  rw [Array.toList_map,Array.toList_range,List.toList_toArray,← h1]
  refine List.map_congr_left fun i _=>?_
  rw [he.hzs,Array.getElem?_toList,getElem!_def]
  cases z.cells[i%E.sz]? <;> rfl
 refine ⟨.slice (some ⟨w.heap.size,0,none⟩) m n,w.alloc (.cells ((List.replicate n z.cells.toList).flatten).toArray e),?_,?_⟩
 ·have hc0:¬ (n:Int)<0:=by omega
  have hm0:¬ (m:Int)<0:=by omega
  have hmn:¬ (m:Int)>(n:Int):=by omega
  by_cases hn0:n*E.sz=0
  ·have : n=0:=by
    rcases Nat.mul_eq_zero.1 hn0 with h | h
    ·exact h
    ·omega
   subst this
   have : m=0:=by omega
   subst this
   have wz:IntKind.i64.wrap 0=0:=by decide
   simp [Instr.makeSlice,hu,hinfo,hsizeOf,asInt,asIntOf,wz,Sem.run_bind,Result.andThen,run_askRoom,newRow,run_newObj]
   rw [show (Array.range 0) = #[] from by decide,Array.map_empty]
  ·simp [Instr.makeSlice,hu,hinfo,hsizeOf,hzero,asInt,asIntOf,wl,wc,hc0,hm0,hmn,hbig',hroom,hn0,Sem.run_bind,Result.andThen,run_askRoom,newRow,run_newObj]
   rw [hcells]
 ·have h3:=hst.new ((List.replicate n z.cells.toList).flatten) e
  have hsplit:(List.replicate n z.cells.toList).flatten=[]++((List.replicate m z.cells.toList).flatten++(List.replicate (n - m) z.cells.toList).flatten):=by
   rw [List.nil_append,← List.flatten_append,List.replicate_append_replicate]
   congr 2; omega
  have hl:(List.replicate m z.cells.toList).length=m:=by simp
  have h3':St w0 (w.alloc (.cells ((List.replicate n z.cells.toList).flatten).toArray e)) I (cells w.heap.size ([]++((List.replicate m z.cells.toList).flatten++(List.replicate (n - m) z.cells.toList).flatten))::L) R:=by rw [← hsplit]; exact h3
  have h4:=St.wP (sz:=E.sz) (css:=List.replicate m z.cells.toList) (cap:=n) (off:=0) (pre:=[]) (junk:=(List.replicate (n - m) z.cells.toList).flatten) h3' (by rw [hl]; omega) (fun cs hc=>by rw [List.eq_of_mem_replicate hc,hzl]) rfl (by
   rw [hl,List.length_flatten,List.map_replicate,List.sum_replicate_nat,hzl])
  rw [hl] at h4
  rw [Int.toNat_natCast]
  refine St.bo h4 ⟨by simp,fun i x cs hx hc=>?_⟩
  rw [List.getElem?_replicate] at hx hc
  split at hx
  ·rename_i him
   rw [if_pos him] at hc
   cases hx; cases hc; exact hz
  ·cases hx
theorem Mr {ρ:Operand→Value} {w w':World} {dd:Option Tmp} {ty:TypeId} {ps:String} {af:Array Edge} {g:Option (Nat×Bool)} {t:TypeId} {a c:Operand} {V C v:Value} (ha:ρ a=V) (hc:ρ c=C) (h:(Instr.makeSlice t V C).run P w = .ok v w') :
  (execOp ρ ⟨dd,.makeSlice t a c,ty,ps,af,g⟩).run P w = .ok (.value v) w':=by
 simp [execOp,ha,hc,h,Result.andThen]
end
section
variable {P:Program} {w0 w:World} {I I':HL} {L L2:List SP} {R R2:SP} {sz:Nat} {v x:Value} {css rows sss:List (List Value)}
theorem vw {N:Nat} (hv:dQ x N) (hn:css.length≤N) (hl:∀ cs∈css,cs.length=sz) (hc:∀ k y,css.flatten[k]?=some y→w.cell? (eZ x k)=some y) :
  (Builtin.firstCells sz css.length x).run P w = .ok css.flatten.toArray w:=by
 obtain ⟨a,cap,rfl,h1,h2⟩:=hv
 cases a with
 | none =>
  have : N=0:=by
   rcases Nat.eq_zero_or_pos N with h | h
   ·exact h
   ·obtain ⟨b,off,e⟩:=h2 omA; cases e
  have : css=[]:=List.eq_nil_of_length_eq_zero omA
  subst this; rfl
 | some a =>
  have hfl:=eV hl
  simp only [Builtin.firstCells]
  rw [← hfl]
  by_cases h0:N=0
  ·have : css=[]:=List.eq_nil_of_length_eq_zero omA
   subst this; rfl
  ·obtain ⟨b,off,e⟩:=h2 h0
   cases e
   refine run_loadCells_list w _ _ fun j y hj=>?_
   rw [gG]
   exact hc j y hj
theorem St.zh (h:St w0 w I (row sz v css::L) R):∀ k y,css.flatten[k]?=some y→w.cell? (eZ v k)=some y:=by
 intro k y hk
 obtain ⟨i,o,cs,g1,g2,rfl⟩:=lu h.dy.1 hk
 exact h.qk g1 g2
theorem ya {k:Nat} {y:Value} (m:Nat) (h:(css.take m).flatten[k]?=some y):css.flatten[k]?=some y:=by
 have e:css.flatten=(css.take m).flatten++(css.drop m).flatten:=by rw [← List.flatten_append,List.take_append_drop]
 rw [e,List.getElem?_append_left (List.getElem?_eq_some_iff.1 h).1]; exact h
theorem fk (h:∀ v∈css.flatten,v.oneCell'=true) (m:Nat):∀ v∈(css.take m).flatten,v.oneCell'=true:=by
 intro v hv
 obtain ⟨c,hc,hv⟩:=List.mem_flatten.1 hv
 exact h v (List.mem_flatten.2 ⟨c,List.mem_of_mem_take hc,hv⟩)
theorem kV (h:∀ v∈css.flatten,v.oneCell'=true) (m:Nat):∀ v∈(css.drop m).flatten,v.oneCell'=true:=by
 intro v hv
 obtain ⟨c,hc,hv⟩:=List.mem_flatten.1 hv
 exact h v (List.mem_flatten.2 ⟨c,List.mem_of_mem_drop hc,hv⟩)
theorem St.Ae (hst:St w0 w I (row sz v rows::L) R) {nss:List (List Value)} (l:Nat) (hl:l+nss.length≤rows.length) (hn:∀ cs∈nss,cs.length=sz) (hones:∀ v∈nss.flatten,v.oneCell'=true) :
  ∃ w',(match dR sz v l rows.length with | .slice (some a) _ _=>storeCells a nss.flatten | _=>pure ()).run P w = .ok () w'∧St w0 w' I (row sz v (rows.take l++(nss++rows.drop (l+nss.length)))::L) R:=by
 by_cases h0:nss=[]
 ·subst h0
  refine ⟨w,?_,by simpa using hst⟩
  obtain ⟨_,a,cap,rfl,_,_⟩:=hst.dy
  simp only [dR,List.flatten_nil]
  split <;> simp [storeCells]
 ·have hpos:0<nss.length:=List.length_pos_iff.2 h0
  have hne:rows≠[]:=fun e=>by rw [e,List.length_nil] at hl; omega
  obtain ⟨b,off,cap,pre,junk,rfl,g1,g2,g3,g4,g5⟩:=hst.sT hne
  have hfl:=eV g2
  have hnfl:=eV hn
  have e1:rows.flatten=(rows.take l).flatten++(rows.drop l).flatten:=by rw [← List.flatten_append,List.take_append_drop]
  have l1:(rows.take l).flatten.length=l*sz:=by
   rw [eV (sz:=sz) fun cs hc=>g2 cs (List.mem_of_mem_take hc),List.length_take,Nat.min_eq_left omA]
  have l2:(rows.drop l).flatten.length=(rows.length - l)*sz:=by
   rw [eV (sz:=sz) fun cs hc=>g2 cs (List.mem_of_mem_drop hc),List.length_drop]
  have hle:nss.flatten.length≤((rows.drop l).flatten++junk).length:=by
   rw [List.length_append,hnfl,l2]
   have := Nat.mul_le_mul_right sz (show nss.length≤rows.length - l by omega)
   omega
  obtain ⟨w',hrun,hst'⟩:=g5.zu (P:=P) nss.flatten (off+l*sz) 0 (by
   rw [List.length_append,List.length_append,g3,e1,List.length_append,l1,Nat.add_zero]
   rw [List.length_append] at hle; omega) hones
  refine ⟨w',?_,?_⟩
  ·have hc:¬ cap=l:=by omega
   simp only [dR,if_neg hc,Option.map_some,gG]
   exact hrun
  ·have Dd:iK (pre++(rows.flatten++junk)) (off+l*sz+0) nss.flatten=pre++((rows.take l++(nss++rows.drop (l+nss.length))).flatten++junk):=by
    have := wM nss.flatten (pre++(rows.take l).flatten) ((rows.drop l).flatten++junk) hle
    rw [List.length_append,l1,g3] at this
    have e2:pre++(rows.flatten++junk)=pre++(rows.take l).flatten++((rows.drop l).flatten++junk):=by rw [e1]; simp
    rw [e2,Nat.add_zero,this]
    have e3:(rows.drop l).flatten=((rows.drop l).take nss.length).flatten++(rows.drop (l+nss.length)).flatten:=by
     rw [← List.drop_drop,← List.flatten_append,List.take_append_drop]
    have l3:((rows.drop l).take nss.length).flatten.length=nss.flatten.length:=by
     rw [hnfl,eV (sz:=sz) fun cs hc=>g2 cs (List.mem_of_mem_drop (List.mem_of_mem_take hc)),List.length_take,List.length_drop,Nat.min_eq_left omA]
    rw [e3,List.append_assoc,List.append_assoc,← l3,List.drop_left]
    simp [List.flatten_append]
   rw [Dd] at hst'
   have hlen:(rows.take l++(nss++rows.drop (l+nss.length))).length=rows.length:=by simp; omega
   have h6:=hst'.wP (sz:=sz) (cap:=cap) (by rw [hlen]; exact g1) (fun c hc=>by
    rcases List.mem_append.1 hc with h | h
    ·exact g2 c (List.mem_of_mem_take h)
    ·rcases List.mem_append.1 h with h | h
     ·exact hn c h
     ·exact g2 c (List.mem_of_mem_drop h)) g3 (by rw [hlen]; exact g4)
   rw [hlen] at h6
   exact h6
theorem dZ {t t2 ty e:TypeId} (ht:P.underlying t=some (.slice e)) (hs:∀ w,(sizeOf e).run P w = .ok sz w) (hst:St w0 w I (row sz v rows::L) R) (hsrc:St w0 w I' (row sz x sss::L2) R2)
  (l k:Nat) {N:Nat} (hN:rows.length=N) (hk1:k≤sss.length) (hk2:l+k≤N) (hk3:k=sss.length∨l+k=N) (hones:∀ v∈(sss.take k).flatten,v.oneCell'=true) :
  ∃ w',(Builtin.copy_ #[t,t2] ty #[dR sz v l N,x]).run P w = .ok (.int .i64 k) w'∧St w0 w' I (row sz v (rows.take l++(sss.take k++rows.drop (l+k)))::L) R:=by
 subst hN
 have hk:Nat.min sss.length (rows.length - l)=k:=by
  show min sss.length (rows.length - l)=k
  omega
 have hlt:(sss.take k).length=k:=by rw [List.length_take,Nat.min_eq_left hk1]
 obtain ⟨w',hrun,hst'⟩:=hst.Ae (P:=P) (nss:=sss.take k) l (by rw [hlt]; omega) (fun cs hc=>hsrc.dy.1 cs (List.mem_of_mem_take hc)) hones
 rw [hlt] at hst'
 refine ⟨w',?_,hst'⟩
 have hu:∀ w:World,(underlying t).run P w = .ok (.slice e) w:=fun w=>by simp [underlying,ht]
 have hf:=vw (P:=P) (w:=w) (sz:=sz) (css:=sss.take k) hsrc.dy.2 (by rw [hlt]; exact hk1) (fun cs hc=>hsrc.dy.1 cs (List.mem_of_mem_take hc)) (fun j y hj=>hsrc.zh j y (ya k hj))
 rw [hlt] at hf
 obtain ⟨_,a,cap,hv,_,_⟩:=hst.dy
 obtain ⟨_,a',cap',hx,_,_⟩:=hsrc.dy
 have hlen:(Builtin.lenOf x).run P w = .ok sss.length w:=by rw [hx]; rfl
 subst hv
 simp only [dR] at hrun ⊢
 simp only [Builtin.copy_,List.getElem?_toArray,List.getElem?_cons_zero,List.getElem?_cons_succ,Sem.run_bind,Sem.run_pure,Result.andThen,hu,hs,hlen,hk,hf]
 revert hrun
 split
 ·rename_i aa n c he
  intro hrun
  simp only [Value.slice.injEq] at he
  rw [he.1]
  simp only [Sem.run_bind,hrun,Result.andThen,Sem.run_pure]
  rfl
 ·rename_i hno
  intro hrun
  cases he:(if cap=l then a else a.map fun x=>x.add (l*sz)) with
  | none =>
   simp only [Sem.run_pure] at hrun
   cases hrun
   rfl
  | some aa=>exact absurd (by rw [he]) (hno aa _ _)
theorem kq {ρ:Operand→Value} {w':World} {dd:Option Tmp} {ty:TypeId} {ps:String} {af:Array Edge} {g:Option (Nat×Bool)} {t t':TypeId} {a c:Operand} {V X r:Value} (ha:ρ a=V) (hc:ρ c=X) (h:(Builtin.copy_ #[t,t'] ty #[V,X]).run P w = .ok r w') :
  (execOp ρ ⟨dd,.call {callee:=.builtin .copy,args:=#[a,c],argTypes:=#[t,t']},ty,ps,af,g⟩).run P w = .ok (.value r) w':=by
 simp [execOp,resolve,invoke,builtin,ha,hc,h,Result.andThen]
theorem BY {ρ:Operand→Value} {dd:Option Tmp} {ty:TypeId} {ps:String} {af:Array Edge} {g:Option (Nat×Bool)} {t e:TypeId} {a:Operand} {n:Nat} (ha:ρ a=v) (ht:P.underlying t=some (.slice e)) (hv:dQ v n) :
  (execOp ρ ⟨dd,.call {callee:=.builtin .cap,args:=#[a],argTypes:=#[t]},ty,ps,af,g⟩).run P w = .ok (.value (.int .i64 (uQ v))) w:=by
 obtain ⟨b,cap,rfl,h2,h3⟩:=hv
 have hu:∀ w:World,(underlying t).run P w = .ok (.slice e) w:=fun w=>by simp [underlying,ht]
 simp [execOp,resolve,invoke,builtin,Builtin.cap_,hu,ha,goInt,Result.andThen,uQ]
def upV (v:Value) (h:Nat):Value:=match v with
 | .slice a _ cap=>.slice a h cap
 | v=>v
theorem tJ {ρ:Operand→Value} {dd:Option Tmp} {ty:TypeId} {ps:String} {af:Array Edge} {g:Option (Nat×Bool)} {t e:TypeId} {xo ho:Operand} {n h:Nat} (ht:P.underlying t=some (.slice e)) (hs:∀ w,(sizeOf e).run P w = .ok sz w) (hx:ρ xo=v) (hv:dQ v n) (hh:ρ ho = .int .i64 h) (h1:h≤uQ v) (hn:0<n) :
  (execOp ρ ⟨dd,.slice t xo none (some ho) none,ty,ps,af,g⟩).run P w = .ok (.value (upV v h)) w:=by
 obtain ⟨b,cap,rfl,h2,h3⟩:=hv
 have hu:∀ w:World,(underlying t).run P w = .ok (.slice e) w:=fun w=>by simp [underlying,ht]
 obtain ⟨bb,off,rfl⟩:=h3 omA
 simp only [uQ] at h1
 have hc:¬ cap=0:=by omega
 refine qE ?_
 have : (Instr.slice t (.slice (some ⟨bb,off,none⟩) n cap) none (some (.int .i64 h)) none).run P w = .ok (.slice (some ⟨bb,off,none⟩) h cap) w:=by
  simp [Instr.slice,Instr.sliceBounds,Instr.sliceBound,asIntOf,hu,hs,Result.andThen,h1,hc,gG]
 simp only [Instr.sliceAt,hx,Option.map_none,Option.map_some,hh,this,hu,Sem.run_bind,Result.andThen,upV]
theorem chunks (sz:Nat):∀ (m:Nat) (l:List Value),m*sz≤l.length→∃ ess:List (List Value),ess.length=m∧(∀ c∈ess,c.length=sz)∧l=ess.flatten++l.drop (m*sz)
 | 0,l,_=>⟨[],rfl,by simp,by simp⟩
 | m+1,l,h=>by
  rw [Nat.succ_mul] at h
  obtain ⟨ess,h1,h2,h3⟩:=chunks sz m (l.drop sz) lnA
  refine ⟨l.take sz::ess,by simp [h1],fun c hc=>?_,?_⟩
  ·rcases List.mem_cons.1 hc with rfl | hc
   ·rw [List.length_take]; omega
   ·exact h2 c hc
  ·rw [List.drop_drop] at h3
   rw [List.flatten_cons,List.append_assoc,Nat.succ_mul,Nat.add_comm (m*sz) sz,← h3,List.take_append_drop]
theorem St.zG (hst:St w0 w I (row sz v css::L) R) (h:Nat) (h1:css.length≤h) (h2:h≤uQ v) (h0:css≠[]) :
  ∃ ess:List (List Value),ess.length=h - css.length∧(∀ c∈ess,c.length=sz)∧St w0 w I (row sz (upV v h) (css++ess)::L) R:=by
 obtain ⟨b,off,cap,pre,junk,rfl,g1,g2,g3,g4,g5⟩:=hst.sT h0
 simp only [uQ] at h2
 obtain ⟨ess,e1,e2,e3⟩:=chunks sz (h - css.length) junk (by rw [g4]; exact Nat.mul_le_mul_right _ omA)
 refine ⟨ess,e1,e2,?_⟩
 have hl:(css++ess).length=h:=by rw [List.length_append,e1]; omega
 have e4:pre++(css.flatten++junk)=pre++((css++ess).flatten++junk.drop ((h - css.length)*sz)):=by
  rw [List.flatten_append,List.append_assoc,← e3]
 rw [e4] at g5
 have h6:=g5.wP (sz:=sz) (cap:=cap) (by rw [hl]; exact h2) (fun c hc=>by
  rcases List.mem_append.1 hc with h | h
  ·exact g2 c h
  ·exact e2 c h) g3 (by rw [hl,List.length_drop,g4,← Nat.sub_mul]; congr 1; omega)
 rw [hl] at h6
 exact h6
theorem xb {E:TypeId} {z:Value} {n:Nat} (hz:z.cells.size=sz):(Builtin.zeroCells z.cells n).toList=(List.replicate n z.cells.toList).flatten:=by
 have hzl:z.cells.toList.length=sz:=by rw [Array.length_toList]; exact hz
 have h1:=As z.cells.toList default n
 rw [hzl] at h1
 unfold Builtin.zeroCells
 rw [Array.toList_map,Array.toList_range,← h1,hz]
 refine List.map_congr_left fun i _=>?_
 rw [Array.getElem?_toList,getElem!_def]
 cases z.cells[i%sz]? <;> rfl
theorem vo {α:Type} {E:Ty α} {t t' e:TypeId} {inf:TypeInfo} {z:Value} (he:sE P E t e inf z) (ht':P.underlying t'=some (.int .i64)) (hst:St w0 w I (row E.sz v css::L) R) (i k:Nat) (hi:i≤css.length)
  (hbig : uQ v<i+k) (hroom:(i+k)*inf.bytes≤70368744177664) (hs0:0<E.sz) (ty:TypeId) :
  ∃ v' w',(Builtin.append_ #[t,t'] ty #[dR E.sz v 0 i,.int .i64 k]).run P w = .ok v' w'∧dQ v' (i+k)∧∃ zss:List (List Value),zss.length=k∧St w0 w' I (row E.sz v' (css.take i++zss)::row E.sz v css::L) R:=by
 obtain ⟨hcl,hsv⟩:=hst.dy
 have hpart:=hst.jP (l:=0) (h:=i) (Nat.zero_le _) hi
 rw [List.drop_zero] at hpart
 have hsizeOf:∀ w:World,(sizeOf e).run P w = .ok E.sz w:=fun w=>by simp [sizeOf,typeInfo,he.hi,he.hsz]
 have hinfo:∀ w:World,(typeInfo e).run P w = .ok inf w:=fun w=>by simp [typeInfo,he.hi]
 have hzero:∀ w:World,(zeroValue e).run P w = .ok z w:=fun w=>by simp [zeroValue,typeInfo,he.hi,he.hz]
 have hu:∀ w:World,(underlying t).run P w = .ok (.slice e) w:=fun w=>by simp [underlying,he.ht]
 have hu':∀ w:World,(underlying t').run P w = .ok (.int .i64) w:=fun w=>by simp [underlying,ht']
 have hlt:(css.take i).length=i:=by rw [List.length_take,Nat.min_eq_left hi]
 obtain ⟨a0,cap0,hv,hcap,hne⟩:=hsv
 subst hv
 simp only [uQ] at hbig
 obtain ⟨a,cap,hv1,hc1,hc2⟩:=hpart.dy.2
 rw [hlt] at hv1 hc1 hc2
 have hcap1:cap=cap0:=by
  simp only [dR,Nat.sub_zero] at hv1
  simp only [Value.slice.injEq] at hv1; exact hv1.2.2.symm
 subst hcap1
 rw [hv1]
 have hk1:(i+k)*1≤(i+k)*inf.bytes:=Nat.mul_le_mul_left _ he.hb.1
 have hkb:k*inf.bytes≤(i+k)*inf.bytes:=Nat.mul_le_mul_right _ omA
 have hw:IntKind.i64.wrap (k:Int)=k:=by rw [wrap_i64] <;> omega
 have hneg:¬ (k:Int)<0:=by omega
 have hbigl:¬ ((k:Int)*(inf.bytes:Int)>2 ^ 48):=by
  have e1:((k*inf.bytes:Nat):Int)=(k:Int)*(inf.bytes:Int):=by push_cast; rfl
  rw [← e1]
  have : (2:Int) ^ 48=281474976710656:=by decide
  omega
 have hfit:¬ (i+k≤cap):=by omega
 have hroom':Builtin.nextslicecap (i+k) cap*inf.bytes≤2 ^ 48:=by
  have h1:=nextslicecap_le (i+k) cap omA
  have h2:Builtin.nextslicecap (i+k) cap*inf.bytes≤(2*(i+k)+200)*inf.bytes:=Nat.mul_le_mul_right _ h1
  have h3:(2*(i+k)+200)*inf.bytes=2*((i+k)*inf.bytes)+200*inf.bytes:=by
   rw [Nat.add_mul,Nat.mul_assoc]
  have h4:=he.hb.2
  omega
 have hmax:¬ ((i+k:Nat):Int)>IntKind.i64.max:=by
  have : (IntKind.i64.max:Int)=9223372036854775807:=by decide
  rw [this]; omega
 let q:Question:=.appendCap (i+k) cap e
 let newCap:=q.cut (w.tape w.drawn q)
 have hnc:i+k≤newCap:=by
  show _≤Question.cut _ _
  simp only [q,Question.cut]
  omega
 have hzl:z.cells.toList.length=E.sz:=by rw [Array.length_toList]; exact he.hzs
 let zss:=List.replicate k z.cells.toList
 have hzs:zss.length=k:=by simp [zss]
 have hzm:∀ c∈zss,c.length=E.sz:=fun c hc=>by rw [List.eq_of_mem_replicate hc,hzl]
 let rest:=Builtin.zeroCells z.cells (newCap - (i+k))
 have hw1:St w0 {w with drawn:=w.drawn+1} I (row E.sz (.slice a0 css.length cap) css::L) R:=hst.drawn _
 have h5:=hw1.new ((css.take i++zss).flatten++rest.toList) e
 have hlen:(css.take i++zss).length=i+k:=by rw [List.length_append,hlt,hzs]
 have h6:=h5.wP (sz:=E.sz) (css:=css.take i++zss) (pre:=[]) (off:=0) (junk:=rest.toList) (cap:=newCap) (by rw [hlen]; exact hnc) (fun c hc=>by
     rcases List.mem_append.1 hc with h | h
     ·exact hcl c (List.mem_of_mem_take h)
     ·exact hzm c h) rfl (by
     rw [Array.length_toList,yc,he.hzs,hlen])
 rw [hlen] at h6
 refine ⟨_,_,?_,h6.dy.2 |> (fun h=>by rw [hlen] at h; exact h),zss,hzs,h6⟩
 have hold':(Builtin.firstCells E.sz i (.slice a i cap)).run P {w with drawn:=w.drawn+1} = .ok (css.take i).flatten.toArray {w with drawn:=w.drawn+1}:=by
  have hp2:=hpart.drawn (w.drawn+1)
  rw [hv1] at hp2
  have := vw (P:=P) (w:={w with drawn:=w.drawn+1}) (sz:=E.sz) (css:=css.take i) hp2.dy.2 (Nat.le_refl _) hp2.dy.1 hp2.zh
  rwa [hlt] at this
 have hzf:(Builtin.zeroCells z.cells k).toList=zss.flatten:=xb (E:=e) he.hzs
 have hforced:q.forced=false:=rfl
 have hlen2:(Builtin.lenOf (.slice a i cap)).run P w = .ok i w:=rfl
 have harr:(css.take i).flatten.toArray++Builtin.zeroCells z.cells k++rest=((css.take i++zss).flatten++rest.toList).toArray:=by
  apply Array.ext'
  simp [hzf]
 by_cases hk0:k*E.sz=0
 ·have hk:k=0:=by
   rcases Nat.mul_eq_zero.1 hk0 with h | h
   ·exact h
   ·omega
  have hz0:zss.flatten=[]:=by simp [zss,hk]
  have harr':(css.take i).flatten.toArray ++ #[]++rest=((css.take i++zss).flatten++rest.toList).toArray:=by
   apply Array.ext'
   simp [hz0]
  simp only [Builtin.append_,List.getElem?_toArray,List.getElem?_cons_zero,List.getElem?_cons_succ,Sem.run_bind,Sem.run_pure,Result.andThen,hu,hu',hsizeOf,hinfo,asInt,asIntOf,hw,hneg,hbigl,Int.toNat_natCast,if_false,hfit,Bool.not_true,Bool.false_eq_true,if_true,hmax,false_and,Sem.run_ite,run_choose,
   Nat.not_lt.2 hroom',gt_iff_lt,run_askRoom,hold',hzero,newRow,run_newObj,Question.forced,hk0]
  rw [← harr']
  rfl
 ·simp only [Builtin.append_,List.getElem?_toArray,List.getElem?_cons_zero,List.getElem?_cons_succ,Sem.run_bind,Sem.run_pure,Result.andThen,hu,hu',hsizeOf,hinfo,asInt,asIntOf,hw,hneg,hbigl,Int.toNat_natCast,if_false,hfit,Bool.not_true,Bool.false_eq_true,if_true,hmax,false_and,Sem.run_ite,run_choose,
   Nat.not_lt.2 hroom',gt_iff_lt,run_askRoom,hold',hzero,newRow,run_newObj,Question.forced,hk0]
  rw [← harr]
  rfl
theorem px {t e:TypeId} {ps rs:Array TypeId} (hp:ps[0]?=some t) (ht:P.underlying t=some (.slice e)) (hs:∀ w,(sizeOf e).run P w = .ok sz w) (hst:St w0 w I (row sz x sss::row sz v rows::L) R) (l:Nat) {N:Nat} (hN:rows.length=N) (hl:l<N) (hx:sss≠[]) (hs0:0<sz) :
  (Extern.SlicesOverlaps.overlaps ps rs #[x,dR sz v l N]).run P w = .ok (.bool false) w:=by
 subst hN
 have hu:∀ w:World,(underlying t).run P w = .ok (.slice e) w:=fun w=>by simp [underlying,ht]
 obtain ⟨b,off,cap,pre,junk,rfl,g1,g2,g3,g4,g5⟩:=hst.sT hx
 obtain ⟨b',off',cap',pre',junk',rfl,k1,k2,k3,k4,k5⟩:=(g5.rV 1 rfl rfl).sT (fun e=>by subst e; simp at hl)
 have hpos:0<sss.length:=List.length_pos_iff.2 hx
 have hfl:=eV g2
 have hfl':=eV k2
 have hc:¬ cap'=l:=by omega
 obtain ⟨E',k5⟩:=k5.ex
 obtain ⟨fr',k5⟩:=k5.ex
 obtain ⟨f',k5⟩:=k5.and
 have hb':=k5.AF
 have k6:=k5.rV 1 rfl rfl
 obtain ⟨E,k6⟩:=k6.ex
 obtain ⟨fr,k6⟩:=k6.ex
 obtain ⟨f,k6⟩:=k6.and
 have hb:=k6.AF
 have hne:b≠b':=by
  intro h
  subst h
  obtain ⟨_,_,h1,⟨ha,hr,hd,he,pa,hb2,hr2,hd2,he2,pb,pc⟩,_,_⟩:=k6
  have e1:=pa b
  have e2:=pb b
  have := hd b
  rw [he2] at this
  simp at e1 e2
  rcases this with h | h
  ·rw [e1] at h; cases h
  ·rw [e2] at h; simp at h
 have hm1:1*sz≤sss.length*sz:=Nat.mul_le_mul_right _ hpos
 have hm2:(l+1)*sz≤rows.length*sz:=Nat.mul_le_mul_right _ hl
 rw [Nat.succ_mul] at hm2
 have hs1:¬ (sss.length=0∨rows.length - l=0∨sz=0):=by omega
 have hf1:w.frozen? ⟨b,off,none⟩=false:=by
  simp only [World.frozen?,hb]
  exact f off (by rw [List.length_append,List.length_append]; omega)
 have hf2:w.frozen? ⟨b',off'+l*sz,none⟩=false:=by
  simp only [World.frozen?,hb']
  exact f' _ (by rw [List.length_append,List.length_append]; omega)
 have hf3:w.frozen? ⟨b,(pre++(sss.flatten++junk)).length,none⟩=false:=by
  simp only [World.frozen?,hb]
  exact f _ (Nat.le_refl _)
 have hf4:w.frozen? ⟨b',(pre'++(rows.flatten++junk')).length,none⟩=false:=by
  simp only [World.frozen?,hb']
  exact f' _ (Nat.le_refl _)
 have hbb:(b==b')=false:=by simpa using hne
 have hbn:(b !=b')=true:=by simpa using hne
 simp only [dR,if_neg hc,Option.map_some,gG]
 delta Extern.SlicesOverlaps.overlaps
 show Sem.run P (match ps[0]? with | some t=>_ | _=>_) w=_
 rw [hp]
 simp only [List.length_append,List.length_flatten] at hf3 hf4
 simp [hf3,hf4,hu,hs,hs1,hbn,hbb,hf1,hf2,Result.andThen,noView,viewAt,mayBeOne,stringish,shape,frozen,Sem.run,World.shape?,hb,hb']
theorem BX {ρ:Operand→Value} {dd:Option Tmp} {ty:TypeId} {ps:String} {af:Array Edge} {g:Option (Nat×Bool)} {f:FuncId} {a c:Operand} {ats:Array TypeId} {A C r:Value} {X:Sem Value} (hf:ρ (.func f) = .func (.func f) #[] #[]) (ha:ρ a=A) (hc:ρ c=C)
  (hcall : ∀ w:World,(callFunc f #[A,C]).run P w=(X >>= fun v=>(pure (.value v):Sem Next)).run P w) (h:X.run P w = .ok r w) :
  (execOp ρ ⟨dd,.call {callee:=.value (.func f),args:=#[a,c],argTypes:=ats},ty,ps,af,g⟩).run P w = .ok (.value r) w:=by
 simp [execOp,resolve,Deferred.ofValue,invoke,hf,ha,hc,hcall,Sem.run_bind,h,Result.andThen]
end
section
variable {α:Type} {xs ys:List α}
def ins (xs:List α) (i:Int) (ys:List α):List α:=xs.take i.toNat++(ys++xs.drop i.toNat)
def tk (xs:List α) (i:Int) (ys:List α):Bool:=decide ((0:Int)≤i)&&(decide (i≤(xs.length:Int))&&room xs ys)
theorem uM {i:Int} (h:tk xs i ys=true):0≤i∧i≤xs.length∧room xs ys=true:=by simpa [tk] using h
theorem uO {β:Type} {ys:List β} (h:room xs ys=true):xs.length+ys.length≤1073741824:=of_decide_eq_true h
theorem xk {i:Int} (h:((((ys.length:Nat):Int))==(0:Int))=true):ins xs i ys=xs:=by
 have : ys.length=0:=by have:=eq_of_beq h; omega
 rw [List.length_eq_zero_iff.1 this]
 simp [ins]
theorem xp {k:Nat} (h:(((k:Nat):Int)==((xs.length:Nat):Int))=true):ins xs k ys=xs++ys:=by
 have : k=xs.length:=by have:=eq_of_beq h; omega
 subst this
 simp [ins]
theorem wrap_add {a b:Nat} (h:a+b≤4294967296):IntKind.i64.wrap ((a:Int)+(b:Int))=((a+b:Nat):Int):=by
 rw [wrap_i64] <;> push_cast <;> omega
theorem sY {a b:Nat} (h:b≤a) (h2:a≤4294967296):IntKind.i64.wrap ((a:Int) - (b:Int))=((a - b:Nat):Int):=by
 rw [wrap_i64] <;> omega
theorem eJ {P:Program} {w:World} {X:Sem Next} {a b:Int} (h:a=b) (hx:X.run P w = .ok (.value (.int .i64 a)) w):X.run P w = .ok (.value (.int .i64 b)) w:=h ▸ hx
theorem tE {css dss zss:List α} {k n m:Nat} (hn:css.length=n) (hm:dss.length=m) (hk:k≤n) (hz:zss.length=n+m - k) :
  ((css.take k++zss).take k++(dss.take m++(css.take k++zss).drop (k+m))).take (k+m)++((((css.take n).drop k).take (n - k))++((css.take k++zss).take k++(dss.take m++(css.take k++zss).drop (k+m))).drop (k+m+(n - k)))=css.take k++(dss++css.drop k):=by
 have l0:(css.take k).length=k:=by rw [List.length_take]; omega
 have e1:(css.take k++zss).take k=css.take k:=by rw [List.take_append_of_le_length omA,List.take_take,Nat.min_self]
 have e2:dss.take m=dss:=List.take_of_length_le omA
 have e3:css.take n=css:=List.take_of_length_le omA
 have e4:(css.drop k).take (n - k)=css.drop k:=List.take_of_length_le lnA
 rw [e1,e2,e3,e4,← List.append_assoc (css.take k) dss,← List.append_assoc (css.take k) dss (css.drop k)]
 have l1:(css.take k++dss).length=k+m:=by rw [List.length_append]; omega
 have l2:((css.take k++zss).drop (k+m)).length=n - k:=by rw [List.length_drop,List.length_append]; omega
 generalize (css.take k++zss).drop (k+m)=B at l2 ⊢
 generalize css.take k++dss=A at l1 ⊢
 have t1:(A++B).take (k+m)=A:=by rw [List.take_append_of_le_length omA,List.take_of_length_le omA]
 have t2:(A++B).drop (k+m+(n - k))=[]:=List.drop_eq_nil_of_le (by rw [List.length_append,l1,l2]; omega)
 rw [t1,t2,List.append_nil]
theorem vj {css dss ess:List α} {k n m:Nat} (hn:css.length=n) (hm:dss.length=m) (hk:k≤n) (hz:ess.length=m):(((css++ess).take (n+m)).drop k).take (n - k)=css.drop k:=by
 have l0:(css++ess).length=n+m:=by rw [List.length_append]; omega
 rw [List.take_of_length_le (show (css++ess).length≤n+m by omega)]
 rw [List.drop_append_of_le_length omA,List.take_append_of_le_length lnA,List.take_of_length_le lnA]
theorem tL {css dss ess:List α} {k n m:Nat} (hn:css.length=n) (hm:dss.length=m) (hk:k≤n) (hz:ess.length=m) :
  (((css ++ ess).take (k+m)++(((((css++ess).take (n+m)).drop k).take (n - k))++(css++ess).drop (k+m+(n - k)))).take k++(dss.take m++((css++ess).take (k+m)++(((((css++ess).take (n+m)).drop k).take (n - k))++(css++ess).drop (k+m+(n - k)))).drop (k+m)))=css.take k++(dss++css.drop k):=by
 have e2:dss.take m=dss:=List.take_of_length_le omA
 have l0:(css++ess).length=n+m:=by rw [List.length_append]; omega
 have e3:(css++ess).take (n+m)=css++ess:=List.take_of_length_le omA
 have e4:((css++ess).drop k).take (n - k)=css.drop k:=by
  rw [List.drop_append_of_le_length omA,List.take_append_of_le_length lnA,List.take_of_length_le lnA]
 have e5:(css++ess).drop (k+m+(n - k))=[]:=List.drop_eq_nil_of_le omA
 have l1:((css++ess).take (k+m)).length=k+m:=by rw [List.length_take]; omega
 rw [e2,e3,e4,e5,List.append_nil]
 rw [List.take_append_of_le_length omA,List.take_take,Nat.min_eq_left omA,List.take_append_of_le_length omA]
 rw [List.drop_append_of_le_length omA,List.drop_eq_nil_of_le omA,List.nil_append]
end
section
variable {P:Program} {w0 w:World} {I I':HL} {L L2:List SP} {R R2:SP} {sz:Nat} {v x:Value} {css rows sss:List (List Value)}
theorem Ed {ρ:Operand→Value} {dd:Option Tmp} {ty:TypeId} {ps:String} {af:Array Edge} {g:Option (Nat×Bool)} {t e:TypeId} {xo lo ho mo:Operand} {n i j:Nat} (ht:P.underlying t=some (.slice e)) (hs:∀ w,(sizeOf e).run P w = .ok sz w) (hx:ρ xo=v) (hv:dQ v n)
  (hl : ρ lo = .int .i64 (i:Int)) (hh:ρ ho = .int .i64 (j:Int)) (hm:ρ mo = .int .i64 (n:Int)) (h1:i≤j) (h2:j≤n) :
  ∃ V,(execOp ρ ⟨dd,.slice t xo (some lo) (some ho) (some mo),ty,ps,af,g⟩).run P w = .ok (.value V) w:=by
 obtain ⟨a,cap,rfl,g2,g3⟩:=hv
 have hu:∀ w:World,(underlying t).run P w = .ok (.slice e) w:=fun w=>by simp [underlying,ht]
 refine ⟨.slice (if n=i then a else a.map (·.add (i*sz))) (j - i) (n - i),qE ?_⟩
 have h:(Instr.slice t (.slice a n cap) (some (.int .i64 i)) (some (.int .i64 j)) (some (.int .i64 n))).run P w = .ok (.slice (if n=i then a else a.map (·.add (i*sz))) (j - i) (n - i)) w:=by
  have c1:(n:Int)≤cap:=by omega
  have c2:(j:Int)≤n:=by omega
  have c3:(i:Int)≤j:=by omega
  simp [Instr.slice,Instr.sliceBounds,Instr.sliceBound,asIntOf,hu,hs,Result.andThen,g2,h1,h2]
 simp only [Instr.sliceAt,hx,Option.map_some,hl,hh,hm,h,hu,Sem.run_bind,Result.andThen]
theorem Bs {t e:TypeId} (ht:P.underlying t=some (.slice e)) (hs:∀ w,(sizeOf e).run P w = .ok sz w) (hst:St w0 w I (row sz v css::L) R) {n i j:Nat} (hn:css.length=n) (hij:i<j) (hj:j≤n) (hones:∀ v∈css.flatten,v.oneCell'=true) (ty:TypeId) :
  ∃ w',(Builtin.append_ #[t,t] ty #[dR sz v 0 i,dR sz v j n]).run P w = .ok (dR sz v 0 (i+(n - j))) w'∧St w0 w' I (row sz v (css.take i++(css.drop j++css.drop (i+(n - j))))::L) R:=by
 subst hn
 have hu:∀ w:World,(underlying t).run P w = .ok (.slice e) w:=fun w=>by simp [underlying,ht]
 have hdl:(css.drop j).length=css.length - j:=List.length_drop
 obtain ⟨w',hrun,hst'⟩:=hst.Ae (P:=P) (nss:=css.drop j) i (by rw [hdl]; omega) (fun cs hc=>hst.dy.1 cs (List.mem_of_mem_drop hc)) (kV hones j)
 rw [hdl] at hst'
 refine ⟨w',?_,hst'⟩
 have hpart:=hst.jP (l:=j) (h:=css.length) omA (Nat.le_refl _)
 rw [List.take_length] at hpart
 have hf:=vw (P:=P) (w:=w) (sz:=sz) (css:=css.drop j) hpart.dy.2 (by rw [hdl]; omega) (fun cs hc=>hst.dy.1 cs (List.mem_of_mem_drop hc)) hpart.zh
 rw [hdl] at hf
 obtain ⟨_,a,cap,hv,hcap,hne⟩:=hst.dy
 obtain ⟨b,off,rfl⟩:=hne omA
 subst hv
 have c1:¬ cap=i:=by omega
 have c3:i+(css.length - j)≤cap:=by omega
 simp only [dR,if_neg c1,Option.map_some,gG] at hrun
 have hlen:(Builtin.lenOf (dR sz (.slice (some ⟨b,off,none⟩) css.length cap) j css.length)).run P w = .ok (css.length - j) w:=rfl
 have e0:dR sz (.slice (some ⟨b,off,none⟩) css.length cap) 0 i = .slice (some ⟨b,off,none⟩) i cap:=by
  simp only [dR,Nat.sub_zero,Nat.zero_mul,Option.map_some,gG,Nat.add_zero]
  split <;> rfl
 have e1:dR sz (.slice (some ⟨b,off,none⟩) css.length cap) 0 (i+(css.length - j)) = .slice (some ⟨b,off,none⟩) (i+(css.length - j)) cap:=by
  simp only [dR,Nat.sub_zero,Nat.zero_mul,Option.map_some,gG,Nat.add_zero]
  split <;> rfl
 rw [e0,e1]
 simp only [Builtin.append_,List.getElem?_toArray,List.getElem?_cons_zero,List.getElem?_cons_succ,Sem.run_bind,Sem.run_pure,Result.andThen,hu,hs,Bool.false_eq_true,if_false,hlen,c3,if_true,Bool.not_false,Sem.run_ite,hf,gG]
 rw [hrun]
theorem BS {α:Type} {E:Ty α} {t e:TypeId} {inf:TypeInfo} {z:Value} (he:sE P E t e inf z) (hsz:E.sz=sz) (hz1:∀ v∈z.cells.toList,v.oneCell'=true) (hst:St w0 w I (row sz v rows::L) R) {n m:Nat} (hn:rows.length=n) (hm:m<n) (ty:TypeId) :
  ∃ w',(Builtin.clear_ #[t] ty #[dR sz v m n]).run P w = .ok (.tuple #[]) w'∧St w0 w' I (row sz v (rows.take m++List.replicate (n - m) z.cells.toList)::L) R:=by
 subst hn
 have ht:=he.ht
 have hzs:z.cells.size=sz:=he.hzs.trans hsz
 have hz:∀ w:World,(zeroValue e).run P w = .ok z w:=fun w=>by simp [zeroValue,typeInfo,he.hi,he.hz]
 have hu:∀ w:World,(underlying t).run P w = .ok (.slice e) w:=fun w=>by simp [underlying,ht]
 have hzl:z.cells.toList.length=sz:=by rw [Array.length_toList]; exact hzs
 obtain ⟨w',hrun,hst'⟩:=hst.Ae (P:=P) (nss:=List.replicate (rows.length - m) z.cells.toList) m (by rw [List.length_replicate]; omega) (fun cs hc=>by rw [List.eq_of_mem_replicate hc]; exact hzl) (fun v hv=>by
  obtain ⟨c,hc,hv⟩:=List.mem_flatten.1 hv
  rw [List.eq_of_mem_replicate hc] at hv
  exact hz1 v hv)
 rw [List.length_replicate,List.drop_eq_nil_of_le (show rows.length≤m+(rows.length - m) by omega),List.append_nil] at hst'
 refine ⟨w',?_,hst'⟩
 obtain ⟨_,a,cap,hv,hcap,hne⟩:=hst.dy
 obtain ⟨b,off,rfl⟩:=hne omA
 subst hv
 have c1:¬ cap=m:=by omega
 obtain ⟨k,hk⟩:∃ k,rows.length - m=k+1:=⟨rows.length - m - 1,by omega⟩
 simp only [dR,if_neg c1,Option.map_some,gG] at hrun ⊢
 rw [← xb (E:=e) hzs] at hrun
 rw [hk] at hrun ⊢
 simp only [Builtin.clear_,List.getElem?_toArray,List.getElem?_cons_zero,Sem.run_bind,Sem.run_pure,Result.andThen,hu,hz,hrun]
theorem FM {ρ:Operand→Value} {w':World} {dd:Option Tmp} {ty:TypeId} {ps:String} {af:Array Edge} {g:Option (Nat×Bool)} {t:TypeId} {a:Operand} {V r:Value} (ha:ρ a=V) (h:(Builtin.clear_ #[t] ty #[V]).run P w = .ok r w') :
  (execOp ρ ⟨dd,.call {callee:=.builtin .clear,args:=#[a],argTypes:=#[t]},ty,ps,af,g⟩).run P w = .ok (.value r) w':=by
 simp [execOp,resolve,invoke,builtin,ha,h,Result.andThen]
theorem Cm {ρ:Operand→Value} {dd:Option Tmp} {ty:TypeId} {ps:String} {af:Array Edge} {g:Option (Nat×Bool)} {t e:TypeId} {xo lo ho:Operand} {n m:Nat} (ht:P.underlying t=some (.slice e)) (hs:∀ w,(sizeOf e).run P w = .ok sz w) (hx:ρ xo=dR sz v 0 m) (hv:dQ v n)
  (hl : ρ lo = .int .i64 (m:Int)) (hh:ρ ho = .int .i64 (n:Int)) (h1:m≤n) (h0:0<n) :
  (execOp ρ ⟨dd,.slice t xo (some lo) (some ho) none,ty,ps,af,g⟩).run P w = .ok (.value (dR sz v m n)) w:=by
 obtain ⟨a,cap,rfl,g2,g3⟩:=hv
 obtain ⟨b,off,rfl⟩:=g3 omA
 have hu:∀ w:World,(underlying t).run P w = .ok (.slice e) w:=fun w=>by simp [underlying,ht]
 have e0:dR sz (.slice (some ⟨b,off,none⟩) n cap) 0 m = .slice (some ⟨b,off,none⟩) m cap:=by
  simp only [dR,Nat.sub_zero,Nat.zero_mul,Option.map_some,gG,Nat.add_zero]
  split <;> rfl
 rw [e0] at hx
 refine qE ?_
 have h:(Instr.slice t (.slice (some ⟨b,off,none⟩) m cap) (some (.int .i64 m)) (some (.int .i64 n)) none).run P w = .ok (dR sz (.slice (some ⟨b,off,none⟩) n cap) m n) w:=by
  simp [Instr.slice,Instr.sliceBounds,Instr.sliceBound,asIntOf,hu,hs,Result.andThen,g2,h1,dR]
 simp only [Instr.sliceAt,hx,Option.map_none,Option.map_some,hl,hh,h,hu,Sem.run_bind,Result.andThen]
theorem Gt {n m:Nat} (hst:St w0 w I (row sz v css::L) R) (hn:css.length=n) (hm:m≤n):dQ (dR sz v 0 m) m:=by
 have h:=(hst.jP (l:=0) (h:=m) (Nat.zero_le _) omA).dy.2
 rwa [List.drop_zero,List.length_take,Nat.min_eq_left omA] at h
theorem Gb {ops:Array Oper} {Q:Exit→Act→World→Prop} {rest:List Oper} {o:Oper} {N:Nat} {σ:Nat→Value} {w':World} (hw:Region.wanted o (yielded ops (Fr N σ).tmps)=true) (hd:o.dst=none)
  (h : (execOp (ev N σ) o).run P w = .ok (.value v) w') (k:wpList P ops Q rest (Fr N σ) w'):wpList P ops Q (o::rest) (Fr N σ) w:=by
 unfold wpList
 rw [if_pos hw]
 refine .inl ?_
 unfold Oper.wp
 rw [ra,h,Oper.upon_value,hd]
 exact k
theorem Lh {ops:Array Oper} {Q:Exit→Act→World→Prop} {rest:List Oper} {o:Oper} {N d:Nat} {σ:Nat→Value} (hw:Region.wanted o (yielded ops (Fr N σ).tmps)=true) (hd:o.dst=some d)
  (h : ∃ v,(execOp (ev N σ) o).run P w = .ok (.value v) w) (k:∀ v,wpList P ops Q rest (Fr N (upd σ d v)) w):wpList P ops Q (o::rest) (Fr N σ) w:=by
 obtain ⟨v,h⟩:=h
 exact cK hw hd h (k v)
def isNil:Value→Bool | .slice a _ _=>a.isNone | _=>false
theorem Ek (n:Nat) {t e:TypeId} (ht:P.underlying t=some (.slice e)) (a:Option Addr) (k c:Nat):(Op.equalIn (n+1) t (.slice a k c) (.slice none 0 0)).run P w = .ok a.isNone w:=by
 have hu:(underlying t).run P w = .ok (.slice e) w:=by simp [underlying,ht]
 cases a <;> simp [Op.equalIn,hu,Result.andThen]
theorem yB {ρ:Operand→Value} {dd:Option Tmp} {ty:TypeId} {ps:String} {af:Array Edge} {g:Option (Nat×Bool)} {t e t2:TypeId} {xo co:Operand} {n:Nat} (hx:ρ xo=v) (hv:dQ v n) (hc:ρ co = .slice none 0 0) (ht:P.underlying t=some (.slice e)) :
  (execOp ρ ⟨dd,.binOp .eql t xo co t2,ty,ps,af,g⟩).run P w = .ok (.value (.bool (isNil v))) w:=by
 obtain ⟨a,cap,rfl,_,_⟩:=hv
 refine qE ?_
 rw [hx,hc]
 have : (binOp .eql t (.slice a n cap) (.slice none 0 0)).run P w = .ok (.bool a.isNone) w:=by
  have h:=Ek (P:=P) (w:=w) 9999 ht a n cap
  show ((Op.equal t (.slice a n cap) (.slice none 0 0)) >>= fun b=>(pure (.bool b):Sem Value)).run P w=_
  rw [Sem.run_bind,Op.equal,Op.maxDepth,h]; rfl
 rw [Sem.run_bind]
 exact this
theorem uW {n:Nat} (hv:dQ v n) (h:isNil v=true):n=0:=by
 obtain ⟨a,cap,rfl,_,h3⟩:=hv
 rcases Nat.eq_zero_or_pos n with h0 | h0
 ·exact h0
 ·obtain ⟨b,off,rfl⟩:=h3 omA
  cases h
end
def RdO {α:Type} (E:Ty α) (R:SP) (I:HL) (v:Value) (xs:List α):Prop:=∃ css,jX R I E.sz v css∧bT (E.rep (eT I)) xs css
section
variable {α:Type} {E:Ty α} {R:SP} {I:HL} {v:Value} {xs:List α} {w0 w:World} {L:List SP} {css:List (List Value)}
theorem yq (h:RdO E R I v xs):dQ v xs.length:=by
 obtain ⟨css,h1,h2⟩:=h
 rw [h2.1]; exact h1.JM
theorem Src.Jh (hst:St w0 w I L R) (h:RdO E R I v xs):Src E w I v xs:=by
 refine ⟨yq h,?_⟩
 obtain ⟨css,h1,h2⟩:=h
 refine ⟨css,h2,fun k y hk=>?_⟩
 obtain ⟨i,o,cs,g1,g2,rfl⟩:=lu h2.lens hk
 exact h1.cell (HL.le.refl _) hst g1 g2
theorem RdO.Aw (h:Ro E I v xs) (R:SP):RdO E R I v xs:=by
 obtain ⟨css,h1,h2⟩:=h
 exact ⟨css,h1.rd R,h2⟩
theorem St.LY (hst:St w0 w I L R) (n:Nat) (hL:L[n]?=some (row E.sz v css)) (h:bT (E.rep (eT I)) xs css):RdO E (big L R) I v xs:=⟨css,jX.ui n hst hL,h⟩
end
section
variable {α:Type} {xs ys:List α}
def del (xs:List α) (i j:Int):List α:=xs.take i.toNat++xs.drop j.toNat
theorem Ge {i j:Nat} (h:(((i:Nat):Int)==((j:Nat):Int))=true):del xs i j=xs:=by
 have : i=j:=by have:=eq_of_beq h; omega
 subst this
 simp [del]
theorem Ea {css zs:List α} {n i j:Nat} (hn:css.length=n) (hij:i<j) (hj:j≤n) (hz:zs.length=n - (i+(n - j))) :
  ((((css.take i++(css.drop j++css.drop (i+(n - j)))).take (i+(n - j))++zs).take (i+(n - j))).drop 0)=css.take i++css.drop j:=by
 have l1:(css.take i++css.drop j).length=i+(n - j):=by rw [List.length_append,List.length_take,List.length_drop]; omega
 rw [List.drop_zero,← List.append_assoc]
 generalize css.take i++css.drop j=A at l1 ⊢
 have e1:(A++css.drop (i+(n - j))).take (i+(n - j))=A:=by rw [← l1,List.take_left]
 rw [e1,← l1,List.take_left]
end
def nR (sz:Nat):Ty (List Value):=⟨sz,fun _ x cs=>cs=x∧x.length=sz∧∀ v∈x,v.oneCell'=true,fun ⟨h,l,_⟩=>h ▸ l,fun _ h=>h,fun ⟨h,_,o⟩=>h ▸ o⟩
structure xC (α:Type) where
 β : Type
 E : Ty β
 f : α→List β
 mc : α→Value→List Value
 sz : Nat
 fo : Nat
 upd : α→List β→α
 hfo : fo<sz
 len : ∀ x u,(mc x u).length=sz
 one : ∀ x u,u.oneCell'=true→∀ w∈mc x u,w.oneCell'=true
 Dd : ∀ x u u',(mc x u).set fo u'=mc x u'
 fu : ∀ x ys,f (upd x ys)=ys
 mu : ∀ x ys u,mc (upd x ys) u=mc x u
 uu : ∀ x,upd x (f x)=x
section
variable {A B C:SP} {I h:HL}
theorem Fx (hk:(star (star A B) C).p I h):(star A (star B C)).p I h:=by
 obtain ⟨hab,hc,hd,he,⟨ha,hb,hd2,he2,pa,pb⟩,pc⟩:=hk
 refine ⟨ha,fun i=>(hb i).or (hc i),?_,?_,pa,hb,hc,?_,fun _=>rfl,pb,pc⟩
 ·intro i
  rcases hd2 i with h | h
  ·exact .inl h
  ·rcases hd i with h3 | h3
   ·rw [he2,jQ] at h3; exact .inl h3.1
   ·right; simp [h,h3]
 ·intro i
  rw [he,he2]; cases hai:ha i <;> simp [hai]
 ·intro i
  rcases hd i with h3 | h3
  ·rw [he2,jQ] at h3; exact .inl h3.2
  ·exact .inr h3
theorem HK:∀ (Ls:List SP) {h:HL},(star A (big Ls emp)).p I h→(big Ls emp).p I h
 | [],h,_=>trivial
 | B::Ls,h,hk=>qD (fun _ x=>x) (fun k hk=>HK Ls hk) (tM hk)
theorem Dm:∀ (Ls Ms:List SP) {h:HL},(star (big Ls emp) (big Ms emp)).p I h→(big (Ls++Ms) emp).p I h
 | [],Ms,h,hk=>HK Ms hk
 | A::Ls,Ms,h,hk=>qD (fun _ x=>x) (fun k hk=>Dm Ls Ms hk) (Fx hk)
theorem HR {Ls Ms:List SP} (hp:Ls.Perm Ms) {R:SP}:∀ {h:HL},(big Ls R).p I h→(big Ms R).p I h:=by
 induction hp with
 | nil=>exact fun x=>x
 | cons A _ ih=>exact fun hk=>qD (fun _ x=>x) (fun k hk=>ih hk) hk
 | swap A B l=>exact fun hk=>tM hk
 | trans _ _ ih1 ih2=>exact fun hk=>ih2 (ih1 hk)
theorem Ju (n:Nat):∀ {L L':List SP} {R:SP} {A:SP},L[n]?=some A→L.eraseIdx n=L'→∀ {h:HL},(big (A::L') R).p I h→(big L R).p I h:=by
 induction n with
 | zero =>
  intro L L' R A h1 h2 h hh
  cases L with
  | nil=>simp at h1
  | cons X L=>simp at h1 h2; subst h1; subst h2; exact hh
 | succ n ih =>
  intro L L' R A h1 h2 h hh
  cases L with
  | nil=>simp at h1
  | cons X L =>
   simp at h1 h2; subst h2
   exact qD (fun _ x=>x) (fun k hk=>ih h1 rfl hk) (tM hh)
end
section
variable {α:Type} {N:xC α} {P:Program} {w0 w w':World} {I I':HL} {L L':List SP} {R:SP} {v u u':Value} {xs ys:List α} {x:α} {vs us:List Value} {i k o:Nat} {y:Value}
def xC.ps (N:xC α) (xs:List α) (vs:List Value):List SP:=List.zipWith (fun x u=>bp N.E u (N.f x)) xs vs
def xC.cs (N:xC α) (xs:List α) (vs:List Value):List (List Value):=List.zipWith N.mc xs vs
def okV (xs:List α) (vs:List Value):Prop:=vs.length=xs.length∧∀ u∈vs,u.oneCell'=true
def sR (N:xC α) (v:Value) (xs:List α):SP:=exS fun vs:List Value=>xy (fun _=>okV xs vs) (fun _ _ _ h=>h) (star (row N.sz v (N.cs xs vs)) (big (N.ps xs vs) emp))
def sU (N:xC α) (v:Value) (xs:List α) (i:Nat) (u:Value):SP:=exS fun vs:List Value=>xy (fun _=>okV xs vs∧vs[i]?=some u) (fun _ _ _ h=>h) (star (row N.sz v (N.cs xs vs)) (big ((N.ps xs vs).eraseIdx i) emp))
theorem St.sa (hst:St w0 w I (sR N v xs::L) R):∃ vs,okV xs vs∧St w0 w I (row N.sz v (N.cs xs vs)::big (N.ps xs vs) emp::L) R:=by
 obtain ⟨vs,h⟩:=hst.ex
 exact ⟨vs,h.and.1,h.and.2.merge⟩
theorem St.yD (hst:St w0 w I (row N.sz v (N.cs xs vs)::big (N.ps xs vs) emp::L) R) (h:okV xs vs):St w0 w I (sR N v xs::L) R:=hst.join.impl fun _ hk=>⟨vs,h,hk⟩
theorem St.uP (hst:St w0 w I (sU N v xs i u::L) R):∃ vs,okV xs vs∧vs[i]?=some u∧St w0 w I (row N.sz v (N.cs xs vs)::big ((N.ps xs vs).eraseIdx i) emp::L) R:=by
 obtain ⟨vs,h⟩:=hst.ex
 exact ⟨vs,h.and.1.1,h.and.1.2,h.and.2.merge⟩
theorem St.FT (hst:St w0 w I (row N.sz v (N.cs xs vs)::big ((N.ps xs vs).eraseIdx i) emp::L) R) (h:okV xs vs) (h2:vs[i]?=some u):St w0 w I (sU N v xs i u::L) R:=hst.join.impl fun _ hk=>⟨vs,⟨h,h2⟩,hk⟩
theorem zx (h:okV xs vs):(N.cs xs vs).length=xs.length:=by rw [xC.cs,List.length_zipWith,h.1,Nat.min_self]
theorem Bl (hx:xs[i]?=some x) (hu:vs[i]?=some u):(N.cs xs vs)[i]?=some (N.mc x u):=by rw [xC.cs,List.getElem?_zipWith,hx,hu]
theorem HM (hx:xs[i]?=some x) (hu:vs[i]?=some u):(N.ps xs vs)[i]?=some (bp N.E u (N.f x)):=by rw [xC.ps,List.getElem?_zipWith,hx,hu]
theorem CG (h:okV xs vs) (hx:xs[i]?=some x):∃ u,vs[i]?=some u:=by
 have := (List.getElem?_eq_some_iff.1 hx).1
 exact ⟨_,List.getElem?_eq_getElem (by rw [h.1]; exact this)⟩
theorem St.JB (hst:St w0 w I L R) (N:xC α):St w0 w I (sR N (.slice none 0 0) []::L) R :=
 St.yD (vs:=[]) ((hst.Fc).FR (sz:=N.sz)) ⟨rfl,by simp⟩
theorem St.oL (hst:St w0 w I L R) (k:Nat) (hL:L[k]?=some (sR N v xs)):dQ v xs.length:=by
 obtain ⟨vs,h,h2⟩:=(hst.rV k hL rfl).sa
 rw [← zx (N:=N) h]; exact h2.dy.2
theorem St.ER (hst:St w0 w I L R) (k:Nat) (hL:L[k]?=some (sU N v xs i u)):dQ v xs.length:=by
 obtain ⟨vs,h,_,h2⟩:=(hst.rV k hL rfl).uP
 rw [← zx (N:=N) h]; exact h2.dy.2
theorem St.Gz (hst:St w0 w I L R) (k:Nat) (hL:L[k]?=some (sR N v xs)) (hi:xs[i]?=some x) (hy:∀ u,(N.mc x u)[o]?=some y):w.cell? (eZ v (i*N.sz+o))=some y:=by
 obtain ⟨vs,h,h2⟩:=(hst.rV k hL rfl).sa
 obtain ⟨u,hu⟩:=CG h hi
 exact h2.qk (Bl hi hu) (hy u)
theorem St.Lr (hst:St w0 w I L R) (k:Nat) {j:Nat} (hL:L[k]?=some (sU N v xs j u)) (hi:xs[i]?=some x) (hy:∀ u,(N.mc x u)[o]?=some y):w.cell? (eZ v (i*N.sz+o))=some y:=by
 obtain ⟨vs,h,_,h2⟩:=(hst.rV k hL rfl).uP
 obtain ⟨u',hu⟩:=CG h hi
 exact h2.qk (Bl hi hu) (hy u')
theorem St.yV (hst:St w0 w I L R) (k:Nat) (hL:L[k]?=some (sU N v xs i u)) (hi:xs[i]?=some x):∀ o y,(N.mc x u)[o]?=some y→w.cell? (eZ v (i*N.sz+o))=some y:=by
 obtain ⟨vs,h,hu,h2⟩:=(hst.rV k hL rfl).uP
 exact fun o y ho=>h2.qk (Bl hi hu) ho
theorem St.tR (hst:St w0 w I (sR N v xs::L) R) (hi:xs[i]?=some x):∃ u,St w0 w I (bp N.E u (N.f x)::sU N v xs i u::L) R:=by
 obtain ⟨vs,h,h2⟩:=hst.sa
 obtain ⟨u,hu⟩:=CG h hi
 have h3:St w0 w I (big (bp N.E u (N.f x)::(N.ps xs vs).eraseIdx i) emp::row N.sz v (N.cs xs vs)::L) R:=h2.ah.impl fun k hk=>DN i (HM hi hu) rfl hk
 have h4:=(St.merge (A:=bp N.E u (N.f x)) (B:=big ((N.ps xs vs).eraseIdx i) emp) h3)
 exact ⟨u,(h4.ah.aD.FT h hu).ah⟩
theorem FJ {γ δ:Type} {g:α→γ→δ} {xs:List α} {vs:List γ} {i:Nat} {x':α} {u:γ} (hu:vs[i]?=some u):List.zipWith g (xs.set i x') vs=(List.zipWith g xs vs).set i (g x' u):=by
 apply List.ext_getElem?
 intro j
 rw [List.getElem?_zipWith,List.getElem?_set,List.getElem?_set]
 by_cases e:i=j
 ·subst e
  rw [hu,List.length_zipWith]
  have hv:=(List.getElem?_eq_some_iff.1 hu).1
  by_cases hx:i<xs.length
  ·have : i<min xs.length vs.length:=by omega
   simp [hx,this]
  ·have : ¬ i<min xs.length vs.length:=by omega
   simp [hx,this]
 ·simp only [e,if_false,List.getElem?_zipWith]
theorem DP {γ δ:Type} {g:α→γ→δ} {xs:List α} {vs:List γ} {i:Nat} {x:α} {u':γ} (hx:xs[i]?=some x):List.zipWith g xs (vs.set i u')=(List.zipWith g xs vs).set i (g x u'):=by
 apply List.ext_getElem?
 intro j
 rw [List.getElem?_zipWith,List.getElem?_set,List.getElem?_set]
 by_cases e:i=j
 ·subst e
  rw [hx,List.length_zipWith]
  have hv:=(List.getElem?_eq_some_iff.1 hx).1
  by_cases hx:i<vs.length
  ·have : i<min xs.length vs.length:=by omega
   simp [hx,this]
  ·have : ¬ i<min xs.length vs.length:=by omega
   simp [hx,this]
 ·simp only [e,if_false,List.getElem?_zipWith]
theorem BP {δ:Type} (l:List δ) (i:Nat) (a:δ):(l.set i a).eraseIdx i=l.eraseIdx i:=by
 induction l generalizing i with
 | nil=>rfl
 | cons b l ih=>cases i with
  | zero=>rfl
  | succ i=>simp [ih]
theorem St.yh {zs:List N.β} (hst:St w0 w I (bp N.E u zs::sU N v xs i u::L) R) (hi:xs[i]?=some x):St w0 w I (sR N v (xs.set i (N.upd x zs))::L) R:=by
 obtain ⟨vs,h,hu,h2⟩:=hst.ah.uP
 have e1:N.cs (xs.set i (N.upd x zs)) vs=N.cs xs vs:=by
  rw [xC.cs,FJ hu,N.mu]
  exact Bd (Bl hi hu)
 have e2:N.ps (xs.set i (N.upd x zs)) vs=(N.ps xs vs).set i (bp N.E u zs):=by rw [xC.ps,FJ hu,N.fu]; rfl
 have hlt:i<(N.ps xs vs).length:=(List.getElem?_eq_some_iff.1 (HM (N:=N) hi hu)).1
 have h3:=h2.aD.aD
 have h4:St w0 w I (star (bp N.E u zs) (big ((N.ps xs vs).eraseIdx i) emp)::row N.sz v (N.cs xs vs)::L) R:=h2.ah.aD.join
 have h5:St w0 w I (big (N.ps (xs.set i (N.upd x zs)) vs) emp::row N.sz v (N.cs xs vs)::L) R:=h4.impl fun k hk=>Ju i (by rw [e2]; exact List.getElem?_set_self hlt) (by rw [e2,BP]) hk
 rw [← e1] at h5
 exact h5.ah.yD ⟨by rw [List.length_set]; exact h.1,h.2⟩
theorem St.sZ (hst:St w0 w I (bp N.E u (N.f x)::sU N v xs i u::L) R) (hi:xs[i]?=some x):St w0 w I (sR N v xs::L) R:=by
 have := hst.yh hi
 rwa [N.uu,Bd hi] at this
theorem St.Fe {t:TypeId} (hst:St w0 w I (sU N v xs i u::L) R) (hi:xs[i]?=some x) {n:Nat} (hsv:dQ u' n) (hs:∀ w,(sizeOf t).run P w = .ok 1 w) :
  ∃ w',(Instr.storeAt t (.pointer (some (eZ v (i*N.sz+N.fo)))) u').run P w = .ok () w'∧St w0 w' I (sU N v xs i u'::L) R:=by
 obtain ⟨vs,h,hu,h2⟩:=hst.uP
 have h1:=uF hsv
 have hc:=vb h1
 obtain ⟨w',hr,h3⟩:=h2.Dt (P:=P) (t:=t) (Bl hi hu) N.fo u' (by rw [hc]; exact hs) (by rw [hc]; exact N.hfo) (by rw [hc]; intro v hv; simp at hv; subst hv; exact h1) (cs':=N.mc x u') (by rw [hc]; show (N.mc x u).set N.fo u'=_; exact N.Dd x u u')
 refine ⟨w',hr,?_⟩
 have e1:N.cs xs (vs.set i u')=(N.cs xs vs).set i (N.mc x u'):=DP hi
 have e2:(N.ps xs (vs.set i u')).eraseIdx i=(N.ps xs vs).eraseIdx i:=by rw [xC.ps,DP hi,BP]; rfl
 rw [← e1,← e2] at h3
 refine h3.FT ⟨by rw [List.length_set]; exact h.1,fun a ha=>?_⟩ (List.getElem?_set_self (List.getElem?_eq_some_iff.1 hu).1)
 rcases List.mem_or_eq_of_mem_set ha with h | h
 ·exact ‹okV xs vs›.2 a h
 ·subst h; exact h1
theorem En {sz:Nat} {css:List (List Value)} {I:HL} (hl:∀ c∈css,c.length=sz) (ho:∀ c∈css,∀ v∈c,v.oneCell'=true):bT ((nR sz).rep (eT I)) css css :=
 ⟨rfl, fun i x cs hx hc=>by rw [hx] at hc; cases hc; exact ⟨rfl,hl _ (List.mem_of_getElem? hx),ho _ (List.mem_of_getElem? hx)⟩⟩
theorem St.Cx {sz:Nat} {css:List (List Value)} (hst:St w0 w I (row sz v css::L) R) (ho:∀ c∈css,∀ v∈c,v.oneCell'=true):St w0 w I (bp (nR sz) v css::L) R :=
 St.bo (E:=nR sz) hst (En hst.dy.1 ho)
theorem St.Ft {sz:Nat} {css:List (List Value)} (hst:St w0 w I (bp (nR sz) v css::L) R):St w0 w I (row sz v css::L) R:=by
 obtain ⟨dss,h,h2⟩:=hst.cz
 have e:dss=css:=by
  apply List.ext_getElem?
  intro i
  cases hx:css[i]? with
  | none =>
   have h3:=h.1
   have := List.getElem?_eq_none_iff.1 hx
   exact List.getElem?_eq_none omA
  | some x =>
   obtain ⟨cs,hc,hr⟩:=h.get hx
   rw [hc,hr.1]
 rw [e] at h2
 exact h2
theorem Ah (h:okV xs vs):∀ c∈N.cs xs vs,∀ v∈c,v.oneCell'=true:=fun c hc v hv=>by
 obtain ⟨i,hi⟩:=List.getElem?_of_mem hc
 rw [xC.cs,List.getElem?_zipWith] at hi
 cases hx:xs[i]? with
 | none=>rw [hx] at hi; cases hi
 | some x =>
  cases hu:vs[i]? with
  | none=>rw [hx,hu] at hi; cases hi
  | some u =>
   rw [hx,hu] at hi
   cases hi
   exact N.one x u (h.2 u (List.mem_of_getElem? hu)) v hv
theorem okV.app (h:okV xs vs) (k:okV ys us):okV (xs++ys) (vs++us):=⟨by rw [List.length_append,List.length_append,h.1,k.1],fun u hu=>(List.mem_append.1 hu).elim (h.2 u) (k.2 u)⟩
theorem Lw (h:okV xs vs):N.cs (xs++ys) (vs++us)=N.cs xs vs++N.cs ys us:=List.zipWith_append h.1.symm
theorem LS (h:okV xs vs):N.ps (xs++ys) (vs++us)=N.ps xs vs++N.ps ys us:=List.zipWith_append h.1.symm
theorem St.DY (hst:St w0 w I (bp N.E u (N.f x)::L) R) (e:TypeId):∃ b w',w.alloc (.cells (N.mc x u).toArray e)=w'∧w.heap.size=b∧St w0 w' I (sR N (.slice (some ⟨b,0,none⟩) 1 1) [x]::L) R:=by
 have h1:=uF (hst.jC 0 rfl)
 obtain ⟨b,w',ew,eb,h2⟩:=hst.lits (E:=nR N.sz) (xs:=[N.mc x u]) [N.mc x u] e 1 rfl (En (fun c hc=>by rw [List.mem_singleton.1 hc]; exact N.len x u) (fun c hc=>by rw [List.mem_singleton.1 hc]; exact N.one x u h1))
 refine ⟨b,w',by simpa using ew,eb,?_⟩
 have h3:St w0 w' I (big [bp N.E u (N.f x)] emp::row N.sz (.slice (some ⟨b,0,none⟩) 1 1) [N.mc x u]::L) R:=(h2.Ft.ah.ah.Fc).aD.join
 exact (h3.ah).yD (xs:=[x]) (vs:=[u]) ⟨rfl,fun a ha=>by rw [List.mem_singleton.1 ha]; exact h1⟩
theorem IT {t t' e:TypeId} {inf:TypeInfo} {z:Value} {s:Value} (he:sE P (nR N.sz) t e inf z) (ht':P.underlying t'=some (.slice e)) (hst:St w0 w I (sR N v xs::sR N s ys::L) R)
  (hroom : (xs.length+ys.length)*inf.bytes≤70368744177664) (ty:TypeId) :
  ∃ v' w',(Builtin.append_ #[t,t'] ty #[v,s]).run P w = .ok v' w'∧St w0 w' I (sR N v' (xs++ys)::L) R:=by
 obtain ⟨vs,h1,h2⟩:=hst.sa
 obtain ⟨us,k1,h3⟩:=h2.aD.sa
 have h4:=(h3.aD.Cx (Ah h1)).ah.Cx (Ah k1)
 have hsrc:Src (nR N.sz) w I s (N.cs ys us):=Src.Is h4 0 rfl
 obtain ⟨v',w',hr,h5⟩:=bO (xs:=N.cs xs vs) (ys:=N.cs ys us) he ht' h4.ah hsrc (by rw [zx h1,zx k1]; exact hroom) ty
 refine ⟨v',w',hr,?_⟩
 have h6:=h5.Ft
 rw [← Lw (ys:=ys) (us:=us) h1] at h6
 -- the parts come together
 have h7:St w0 w' I (big (N.ps ys us) emp::big (N.ps xs vs) emp::row N.sz v' (N.cs (xs++ys) (vs++us))::L) R:=(h6.ah.sub.aD.aD).ah.ah |> fun h=>h.ah.ah
 have h8:St w0 w' I (big (N.ps (xs++ys) (vs++us)) emp::row N.sz v' (N.cs (xs++ys) (vs++us))::L) R:=(h7.ah.join).impl fun k hk=>by rw [LS h1]; exact Dm _ _ hk
 exact h8.ah.yD (h1.app k1)
theorem JH {a:Int} (h:okV xs vs) (k:okV ys us):tk (N.cs xs vs) a (N.cs ys us)=tk xs a ys:=by
 simp only [tk,room,zx h,zx k]
theorem Gk {γ δ:Type} {g:α→γ→δ} {vs us:List γ} (a:Int) (h:vs.length=xs.length) (k:us.length=ys.length):List.zipWith g (ins xs a ys) (ins vs a us)=ins (List.zipWith g xs vs) a (List.zipWith g ys us):=by
 unfold ins
 rw [List.zipWith_append (by rw [List.length_take,List.length_take,h]),List.zipWith_append k.symm,← List.take_zipWith,← List.drop_zipWith]
theorem HP {δ:Type} (A B:List δ) (a:Int):(B++A).Perm (ins A a B):=by
 unfold ins
 have h:=List.perm_append_comm_assoc B (A.take a.toNat) (A.drop a.toNat)
 rwa [List.take_append_drop] at h
theorem okV.ins {a:Int} (h:okV xs vs) (k:okV ys us):okV (ins xs a ys) (ins vs a us):=by
 refine ⟨by simp only [Go.V.ins,List.length_append,List.length_take,List.length_drop,h.1,k.1],fun u hu=>?_⟩
 rcases List.mem_append.1 hu with hu | hu
 ·exact h.2 u (List.mem_of_mem_take hu)
 ·rcases List.mem_append.1 hu with hu | hu
  ·exact k.2 u hu
  ·exact h.2 u (List.mem_of_mem_drop hu)
theorem St.JG {s:Value} (hst:St w0 w I (sR N v xs::sR N s ys::L) R):∃ vs us,okV xs vs∧okV ys us∧St w0 w I (bp (nR N.sz) v (N.cs xs vs)::bp (nR N.sz) s (N.cs ys us)::big (N.ps ys us) emp::big (N.ps xs vs) emp::L) R:=by
 obtain ⟨vs,h1,h2⟩:=hst.sa
 obtain ⟨us,k1,h3⟩:=h2.aD.sa
 exact ⟨vs,us,h1,k1,((h3.aD.Cx (Ah h1)).ah.Cx (Ah k1)).ah⟩
theorem St.Ie {a:Int} (hst:St w0 w I (bp (nR N.sz) v (ins (N.cs xs vs) a (N.cs ys us))::big (N.ps ys us) emp::big (N.ps xs vs) emp::L) R) (h:okV xs vs) (k:okV ys us):St w0 w I (sR N v (ins xs a ys)::L) R:=by
 have h6:=hst.Ft
 have e:ins (N.cs xs vs) a (N.cs ys us)=N.cs (ins xs a ys) (ins vs a us):=(Gk a h.1 k.1).symm
 rw [e] at h6
 have h7:St w0 w I (big (N.ps xs vs) emp::big (N.ps ys us) emp::row N.sz v (N.cs (ins xs a ys) (ins vs a us))::L) R:=h6.ah.aD
 have h8:St w0 w I (big (N.ps (ins xs a ys) (ins vs a us)) emp::row N.sz v (N.cs (ins xs a ys) (ins vs a us))::L) R:=(h7.ah.join).impl fun k' hk=>by
  rw [show N.ps (ins xs a ys) (ins vs a us)=ins (N.ps xs vs) a (N.ps ys us) from Gk a h.1 k.1]
  exact HR (HP _ _ a) (Dm _ _ hk)
 exact h8.ah.yD (h.ins k)
end
section
variable {P:Program} {w0 w w':World} {I I':HL} {L L':List SP} {R:SP} {b n:Nat} {xs:List Int} {E:TypeId}
end
section
variable {P:Program} {w0 w:World} {I:HL} {L:List SP} {R:SP} {v x:Value} {sz:Nat}
theorem GY {t t2 ty e:TypeId} {rows sss:List (List Value)} (ht:P.underlying t=some (.slice e)) (hs:∀ w,(sizeOf e).run P w = .ok sz w) (hst:St w0 w I (row sz v rows::L) R)
  (hxs : dQ x sss.length) (hln:∀ c∈sss,c.length=sz) (l k:Nat) {N:Nat} (hN:rows.length=N) (hk1:k≤sss.length) (hk2:l+k≤N) (hk3:k=sss.length∨l+k=N) (hones:∀ v∈(sss.take k).flatten,v.oneCell'=true)
  (hcl : ∀ j y,(sss.take k).flatten[j]?=some y→w.cell? (eZ x j)=some y) :
  ∃ w',(Builtin.copy_ #[t,t2] ty #[dR sz v l N,x]).run P w = .ok (.int .i64 k) w'∧St w0 w' I (row sz v (rows.take l++(sss.take k++rows.drop (l+k)))::L) R:=by
 subst hN
 have hk:Nat.min sss.length (rows.length - l)=k:=by
  show min sss.length (rows.length - l)=k
  omega
 have hlt:(sss.take k).length=k:=by rw [List.length_take,Nat.min_eq_left hk1]
 obtain ⟨w',hrun,hst'⟩:=hst.Ae (P:=P) (nss:=sss.take k) l (by rw [hlt]; omega) (fun cs hc=>hln cs (List.mem_of_mem_take hc)) hones
 rw [hlt] at hst'
 refine ⟨w',?_,hst'⟩
 have hu:∀ w:World,(underlying t).run P w = .ok (.slice e) w:=fun w=>by simp [underlying,ht]
 have hf:=vw (P:=P) (w:=w) (sz:=sz) (css:=sss.take k) hxs (by rw [hlt]; exact hk1) (fun cs hc=>hln cs (List.mem_of_mem_take hc)) hcl
 rw [hlt] at hf
 obtain ⟨_,a,cap,hv,_,_⟩:=hst.dy
 obtain ⟨a',cap',hx,_,_⟩:=hxs
 have hlen:(Builtin.lenOf x).run P w = .ok sss.length w:=by rw [hx]; rfl
 subst hv
 simp only [dR] at hrun ⊢
 simp only [Builtin.copy_,List.getElem?_toArray,List.getElem?_cons_zero,List.getElem?_cons_succ,Sem.run_bind,Sem.run_pure,Result.andThen,hu,hs,hlen,hk,hf]
 revert hrun
 split
 ·rename_i aa n c he
  intro hrun
  simp only [Value.slice.injEq] at he
  rw [he.1]
  simp only [Sem.run_bind,hrun,Result.andThen,Sem.run_pure]
  rfl
 ·rename_i hno
  intro hrun
  cases he:(if cap=l then a else a.map fun x=>x.add (l*sz)) with
  | none =>
   simp only [Sem.run_pure] at hrun
   cases hrun
   rfl
  | some aa=>exact absurd (by rw [he]) (hno aa _ _)
theorem HW {n:Nat} (h:dQ v n):dR sz v 0 n=v:=by
 obtain ⟨a,cap,rfl,h1,h2⟩:=h
 unfold dR
 simp only [Nat.zero_mul,Nat.sub_zero]
 congr 1
 split
 ·rfl
 ·cases a with
  | none=>rfl
  | some a =>
   rcases Nat.eq_zero_or_pos n with h | h
   ·simp [Addr.add]
   ·obtain ⟨b,off,e⟩:=h2 omA
    cases e
    simp [Addr.add]
def cpy {α:Type} (xs ys:List α):List α:=ys.take xs.length++xs.drop ys.length
theorem Dr {α:Type} {E:Ty α} {xs ys:List α} {t t2 ty e:TypeId} (ht:P.underlying t=some (.slice e)) (hs:∀ w,(sizeOf e).run P w = .ok E.sz w) (hst:St w0 w I (bp E v xs::L) R) (hsrc:Src E w I x ys) :
  ∃ w',(Builtin.copy_ #[t,t2] ty #[v,x]).run P w = .ok (.int .i64 ((min ys.length xs.length:Nat):Int)) w'∧St w0 w' I (bp E v (cpy xs ys)::L) R:=by
 obtain ⟨css,hr,h2⟩:=hst.cz
 obtain ⟨hsv,nss,hq,hcl⟩:=hsrc
 have hn:css.length=xs.length:=hr.1.symm
 have hm:nss.length=ys.length:=hq.1.symm
 have hv:dQ v xs.length:=by have:=h2.dy.2; rwa [hn] at this
 obtain ⟨w',h3,h4⟩:=GY (P:=P) (t2:=t2) (ty:=ty) (k:=min ys.length xs.length) ht hs h2 (by rw [hm]; exact hsv) hq.lens 0 hn omA omA omA (fun u hu=>by
  obtain ⟨c,hc,hu⟩:=List.mem_flatten.1 hu
  exact hq.xE u (List.mem_flatten.2 ⟨c,List.mem_of_mem_take hc,hu⟩)) (fun j y hj=>hcl j y (ya _ hj))
 rw [HW hv] at h3
 refine ⟨w',h3,?_⟩
 have e1:nss.take (min ys.length xs.length)=nss.take xs.length:=by
  rcases Nat.le_total ys.length xs.length with h | h
  ·rw [Nat.min_eq_left h,List.take_of_length_le omA,List.take_of_length_le omA]
  ·rw [Nat.min_eq_right h]
 have e2:css.drop (0+min ys.length xs.length)=css.drop ys.length:=by
  rw [Nat.zero_add]
  rcases Nat.le_total ys.length xs.length with h | h
  ·rw [Nat.min_eq_left h]
  ·rw [Nat.min_eq_right h,List.drop_eq_nil_of_le omA,List.drop_eq_nil_of_le omA]
 rw [e1,e2,List.take_zero,List.nil_append] at h4
 exact h4.bo ((hq.take _).app (hr.drop _))
end
section
variable {P:Program} {t t2 k e:TypeId} {w:World}
def lk (a b c:Int):Value:=.agg #[.int .i64 a,.int .i64 b,.int .i64 c]
variable {w0 w':World} {I:HL} {L:List SP} {R:SP} {κ α:Type} {E:Ty α} {kf:κ→Value} {pv u x:Value} {y:κ×List α} {a0 a1 a2 b0 b1 b2:Int}
section
variable {ρ:Operand→Value} {dd:Option Tmp} {ty:TypeId} {ps:String} {af:Array Edge} {g:Option (Nat×Bool)} {m ko xo:Operand} {kv:Value} {v:Value}
end
end
def Gd (ops:Array Oper) (N:Nat) (σ:Nat→Value) (j:Nat) (b:Bool):Prop:=∃ t,(ops[j]?).bind (·.dst)=some t∧Nat.blt t N=true∧σ t = .bool b
section
variable {P:Program} {ops:Array Oper} {Q:Exit→Act→World→Prop} {more:List Oper} {N d j:Nat} {σ:Nat→Value} {o:Oper} {w w':World} {b B want:Bool} {ins:Op} {ty:TypeId} {ps:String} {af:Array Edge} {v:Value}
theorem Gd.on (h:b=B) (hG:Gd ops N σ j b) (hn:(B==want)=true):Region.wanted ⟨some d,ins,ty,ps,af,some (j,want)⟩ (yielded ops (Fr N σ).tmps)=true:=by
 obtain ⟨t,h1,h2,h3⟩:=hG
 exact (av rfl h1 h2 (h3.trans (congrArg Value.bool h))).trans hn
theorem Gd.off (h:b=B) (hG:Gd ops N σ j b) (hn:(B==want)=false):Region.wanted ⟨some d,ins,ty,ps,af,some (j,want)⟩ (yielded ops (Fr N σ).tmps)=false:=by
 obtain ⟨t,h1,h2,h3⟩:=hG
 exact (av rfl h1 h2 (h3.trans (congrArg Value.bool h))).trans hn
def Gu (ops:Array Oper) (N:Nat) (σ:Nat→Value) (j:Nat):Prop:=∃ t,(ops[j]?).bind (·.dst)=some t∧Nat.blt t N=true∧σ t=undef
theorem Gu.off (hG:Gu ops N σ j):Region.wanted ⟨some d,ins,ty,ps,af,some (j,want)⟩ (yielded ops (Fr N σ).tmps)=false:=by
 obtain ⟨t,h1,h2,h3⟩:=hG
 exact CS rfl h1 h2 h3
theorem mz (h:(execOp (ev N σ) ⟨some d,ins,ty,ps,af,none⟩).run P w = .ok (.value v) w) (k:wpList P ops Q more (Fr N (upd σ d v)) w):wpList P ops Q (⟨some d,ins,ty,ps,af,none⟩::more) (Fr N σ) w:=wv v rfl rfl h k
theorem mk (v:Value) (k:wpList P ops Q more (Fr N (upd σ d v)) w) (h:(execOp (ev N σ) ⟨some d,ins,ty,ps,af,none⟩).run P w = .ok (.value v) w:=by kernel_rfl):wpList P ops Q (⟨some d,ins,ty,ps,af,none⟩::more) (Fr N σ) w:=mz h k
theorem gg (hb:b=B) (h:(execOp (ev N σ) ⟨some d,ins,ty,ps,af,some (j,want)⟩).run P w = .ok (.value v) w) (k:wpList P ops Q more (Fr N (upd σ d v)) w) (hG:Gd ops N σ j b:=by exact ⟨_,rfl,rfl,rfl⟩) (hn:(B==want)=true:=by exact rfl) :
  wpList P ops Q (⟨some d,ins,ty,ps,af,some (j,want)⟩::more) (Fr N σ) w:=wv v (hG.on hb hn) rfl h k
theorem gk (v:Value) (hb:b=B) (k:wpList P ops Q more (Fr N (upd σ d v)) w) (h:(execOp (ev N σ) ⟨some d,ins,ty,ps,af,some (j,want)⟩).run P w = .ok (.value v) w:=by kernel_rfl) (hG:Gd ops N σ j b:=by exact ⟨_,rfl,rfl,rfl⟩) (hn:(B==want)=true:=by exact rfl) :
  wpList P ops Q (⟨some d,ins,ty,ps,af,some (j,want)⟩::more) (Fr N σ) w:=wv v (hG.on hb hn) rfl h k
theorem go (hb:b=B) (k:wpList P ops Q more (Fr N (upd σ d undef)) w) (hG:Gd ops N σ j b:=by exact ⟨_,rfl,rfl,rfl⟩) (hn:(B==want)=false:=by exact rfl) :
  wpList P ops Q (⟨some d,ins,ty,ps,af,some (j,want)⟩::more) (Fr N σ) w:=Dh (hG.off hb hn) rfl k
theorem gz (k:wpList P ops Q more (Fr N (upd σ d undef)) w) (hG:Gd ops N σ j (!want):=by exact ⟨_,rfl,rfl,rfl⟩) :
  wpList P ops Q (⟨some d,ins,ty,ps,af,some (j,want)⟩::more) (Fr N σ) w:=Dh (hG.off rfl (by cases want <;> rfl)) rfl k
theorem gu (k:wpList P ops Q more (Fr N (upd σ d undef)) w) (hG:Gu ops N σ j:=by exact ⟨_,rfl,rfl,rfl⟩) :
  wpList P ops Q (⟨some d,ins,ty,ps,af,some (j,want)⟩::more) (Fr N σ) w:=Dh hG.off rfl k
theorem wa {s:Nat} {ob:Obj} (ew:w.alloc ob=w') (eb:w.heap.size=s) (k:wpList P ops Q more (Fr N (upd σ d (.pointer (some ⟨s,0,none⟩)))) w')
  (h : (execOp (ev N σ) ⟨some d,ins,ty,ps,af,none⟩).run P w = .ok (.value (.pointer (some ⟨w.heap.size,0,none⟩))) (w.alloc ob):=by kernel_rfl) :
  wpList P ops Q (⟨some d,ins,ty,ps,af,none⟩::more) (Fr N σ) w:=cK rfl rfl (yC h ew eb) k
theorem mi {κ:IntKind} {n:Int} (h:(execOp (ev N σ) ⟨some d,ins,ty,ps,af,none⟩).run P w = .ok (.value (.int κ n)) w) (k:wpList P ops Q more (Fr N (upd σ d (.int κ n))) w):wpList P ops Q (⟨some d,ins,ty,ps,af,none⟩::more) (Fr N σ) w:=mz h k
theorem gi {κ:IntKind} {n:Int} (hb:b=B) (h:(execOp (ev N σ) ⟨some d,ins,ty,ps,af,some (j,want)⟩).run P w = .ok (.value (.int κ n)) w) (k:wpList P ops Q more (Fr N (upd σ d (.int κ n))) w) (hG:Gd ops N σ j b:=by exact ⟨_,rfl,rfl,rfl⟩) (hn:(B==want)=true:=by exact rfl) :
  wpList P ops Q (⟨some d,ins,ty,ps,af,some (j,want)⟩::more) (Fr N σ) w:=gg hb h k hG hn
theorem mb {c:Bool} (h:(execOp (ev N σ) ⟨some d,ins,ty,ps,af,none⟩).run P w = .ok (.value (.bool c)) w) (k:wpList P ops Q more (Fr N (upd σ d (.bool c))) w):wpList P ops Q (⟨some d,ins,ty,ps,af,none⟩::more) (Fr N σ) w:=mz h k
theorem gb {c:Bool} (hb:b=B) (h:(execOp (ev N σ) ⟨some d,ins,ty,ps,af,some (j,want)⟩).run P w = .ok (.value (.bool c)) w) (k:wpList P ops Q more (Fr N (upd σ d (.bool c))) w) (hG:Gd ops N σ j b:=by exact ⟨_,rfl,rfl,rfl⟩) (hn:(B==want)=true:=by exact rfl) :
  wpList P ops Q (⟨some d,ins,ty,ps,af,some (j,want)⟩::more) (Fr N σ) w:=gg hb h k hG hn
theorem mp {a:Addr} (h:(execOp (ev N σ) ⟨some d,ins,ty,ps,af,none⟩).run P w = .ok (.value (.pointer (some a))) w) (k:wpList P ops Q more (Fr N (upd σ d (.pointer (some a)))) w):wpList P ops Q (⟨some d,ins,ty,ps,af,none⟩::more) (Fr N σ) w:=mz h k
theorem gp {a:Addr} (hb:b=B) (h:(execOp (ev N σ) ⟨some d,ins,ty,ps,af,some (j,want)⟩).run P w = .ok (.value (.pointer (some a))) w) (k:wpList P ops Q more (Fr N (upd σ d (.pointer (some a)))) w) (hG:Gd ops N σ j b:=by exact ⟨_,rfl,rfl,rfl⟩) (hn:(B==want)=true:=by exact rfl) :
  wpList P ops Q (⟨some d,ins,ty,ps,af,some (j,want)⟩::more) (Fr N σ) w:=gg hb h k hG hn
theorem mv (v:Value) (h:(execOp (ev N σ) ⟨some d,ins,ty,ps,af,none⟩).run P w = .ok (.value v) w) (k:wpList P ops Q more (Fr N (upd σ d v)) w):wpList P ops Q (⟨some d,ins,ty,ps,af,none⟩::more) (Fr N σ) w:=mz h k
theorem gv (v:Value) (hb:b=B) (h:(execOp (ev N σ) ⟨some d,ins,ty,ps,af,some (j,want)⟩).run P w = .ok (.value v) w) (k:wpList P ops Q more (Fr N (upd σ d v)) w) (hG:Gd ops N σ j b:=by exact ⟨_,rfl,rfl,rfl⟩) (hn:(B==want)=true:=by exact rfl) :
  wpList P ops Q (⟨some d,ins,ty,ps,af,some (j,want)⟩::more) (Fr N σ) w:=gg hb h k hG hn
variable {C:World→Prop} {Q':Act→Prop} {rest:List Oper}
theorem qz (v:Value) (h:(execOp (ev N σ) ⟨some d,ins,ty,ps,af,none⟩).run P=fun w=>.ok (.value v) w) (k:wpQuiet P ops C Q' rest (Fr N (upd σ d v))):wpQuiet P ops C Q' (⟨some d,ins,ty,ps,af,none⟩::rest) (Fr N σ) :=
 yy rfl rfl (fun w _=>congrFun h w) k
theorem qh (v:Value) (h:∀ w,C w→(execOp (ev N σ) ⟨some d,ins,ty,ps,af,none⟩).run P w = .ok (.value v) w) (k:wpQuiet P ops C Q' rest (Fr N (upd σ d v))):wpQuiet P ops C Q' (⟨some d,ins,ty,ps,af,none⟩::rest) (Fr N σ) :=
 yy rfl rfl h k
theorem qg (v:Value) (hb:b=B) (h:∀ w,C w→(execOp (ev N σ) ⟨some d,ins,ty,ps,af,some (j,want)⟩).run P w = .ok (.value v) w) (k:wpQuiet P ops C Q' rest (Fr N (upd σ d v))) (hG:Gd ops N σ j b:=by exact ⟨_,rfl,rfl,rfl⟩) (hn:(B==want)=true:=by exact rfl) :
  wpQuiet P ops C Q' (⟨some d,ins,ty,ps,af,some (j,want)⟩::rest) (Fr N σ):=yy (hG.on hb hn) rfl h k
theorem qgz (v:Value) (hb:b=B) (h:(execOp (ev N σ) ⟨some d,ins,ty,ps,af,some (j,want)⟩).run P=fun w=>.ok (.value v) w) (k:wpQuiet P ops C Q' rest (Fr N (upd σ d v))) (hG:Gd ops N σ j b:=by exact ⟨_,rfl,rfl,rfl⟩) (hn:(B==want)=true:=by exact rfl) :
  wpQuiet P ops C Q' (⟨some d,ins,ty,ps,af,some (j,want)⟩::rest) (Fr N σ):=yy (hG.on hb hn) rfl (fun w _=>congrFun h w) k
theorem qo (hb:b=B) (k:wpQuiet P ops C Q' rest (Fr N (upd σ d undef))) (hG:Gd ops N σ j b:=by exact ⟨_,rfl,rfl,rfl⟩) (hn:(B==want)=false:=by exact rfl) :
  wpQuiet P ops C Q' (⟨some d,ins,ty,ps,af,some (j,want)⟩::rest) (Fr N σ):=vJ (hG.off hb hn) rfl k
end
section
variable {P:Program} {l:List Oper} {ms wr:List Nat} {Q:Exit→Act→World→Prop} {items:List Nat} {pend U:List (Nat×Value)} {N n d j i:Nat} {σ:Nat→Value} {o:Oper} {w':World} {b B want:Bool} {ins:Op} {ty:TypeId} {ps:String} {af:Array Edge} {v:Value} {C:World→Prop}
theorem sz (v:Value) (i:Nat) (ho:l[i]?=some ⟨some d,ins,ty,ps,af,none⟩) (h:(execOp (ev N σ) ⟨some d,ins,ty,ps,af,none⟩).run P=fun w=>.ok (.value v) w) (k:wpS P l.toArray ms wr Q n (items.erase i) ((i,v)::pend) (Fr N (upd σ d v)) C)
  (ht : tak ms wr items i=some (items.erase i):=by kernel_rfl):wpS P l.toArray ms wr Q (n+1) items pend (Fr N σ) C:=wsr v i ho rfl rfl ht (fun w _=>congrFun h w) k
theorem sh (v:Value) (i:Nat) (ho:l[i]?=some ⟨some d,ins,ty,ps,af,none⟩) (h:∀ w,C w→(execOp (ev N σ) ⟨some d,ins,ty,ps,af,none⟩).run P w = .ok (.value v) w) (k:wpS P l.toArray ms wr Q n (items.erase i) ((i,v)::pend) (Fr N (upd σ d v)) C)
  (ht : tak ms wr items i=some (items.erase i):=by kernel_rfl):wpS P l.toArray ms wr Q (n+1) items pend (Fr N σ) C:=wsr v i ho rfl rfl ht h k
theorem si {κ:IntKind} {m:Int} (i:Nat) (ho:l[i]?=some ⟨some d,ins,ty,ps,af,none⟩) (h:(execOp (ev N σ) ⟨some d,ins,ty,ps,af,none⟩).run P=fun w=>.ok (.value (.int κ m)) w) (k:wpS P l.toArray ms wr Q n (items.erase i) ((i,(.int κ m))::pend) (Fr N (upd σ d (.int κ m))) C)
  (ht : tak ms wr items i=some (items.erase i):=by kernel_rfl):wpS P l.toArray ms wr Q (n+1) items pend (Fr N σ) C:=sz _ i ho h k ht
theorem sb {c:Bool} (i:Nat) (ho:l[i]?=some ⟨some d,ins,ty,ps,af,none⟩) (h:(execOp (ev N σ) ⟨some d,ins,ty,ps,af,none⟩).run P=fun w=>.ok (.value (.bool c)) w) (k:wpS P l.toArray ms wr Q n (items.erase i) ((i,(.bool c))::pend) (Fr N (upd σ d (.bool c))) C)
  (ht : tak ms wr items i=some (items.erase i):=by kernel_rfl):wpS P l.toArray ms wr Q (n+1) items pend (Fr N σ) C:=sz _ i ho h k ht
theorem sp {a:Addr} (i:Nat) (ho:l[i]?=some ⟨some d,ins,ty,ps,af,none⟩) (h:(execOp (ev N σ) ⟨some d,ins,ty,ps,af,none⟩).run P=fun w=>.ok (.value (.pointer (some a))) w) (k:wpS P l.toArray ms wr Q n (items.erase i) ((i,(.pointer (some a)))::pend) (Fr N (upd σ d (.pointer (some a)))) C)
  (ht : tak ms wr items i=some (items.erase i):=by kernel_rfl):wpS P l.toArray ms wr Q (n+1) items pend (Fr N σ) C:=sz _ i ho h k ht
theorem sk (v:Value) (i:Nat) (ho:l[i]?=some ⟨some d,ins,ty,ps,af,none⟩) (k:wpS P l.toArray ms wr Q n (items.erase i) ((i,v)::pend) (Fr N (upd σ d v)) C) (h:∀ w,C w→(execOp (ev N σ) ⟨some d,ins,ty,ps,af,none⟩).run P w = .ok (.value v) w:=by intro _ _; kernel_rfl)
  (ht : tak ms wr items i=some (items.erase i):=by kernel_rfl):wpS P l.toArray ms wr Q (n+1) items pend (Fr N σ) C:=wsr v i ho rfl rfl ht h k
theorem so (i:Nat) (ho:l[i]?=some ⟨some d,ins,ty,ps,af,some (j,want)⟩) (hb:b=B) (k:wpS P l.toArray ms wr Q n (items.erase i) ((i,undef)::pend) (Fr N (upd σ d undef)) C) (ht:tak ms wr items i=some (items.erase i):=by kernel_rfl)
  (hG : Gd l.toArray N σ j b:=by exact ⟨_,rfl,rfl,rfl⟩) (hn:(B==want)=false:=by exact rfl):wpS P l.toArray ms wr Q (n+1) items pend (Fr N σ) C:=BE i _ ht ho rfl (Fi (hG.off hb hn)) k
theorem sq (i:Nat) (ho:l[i]?=some ⟨some d,ins,ty,ps,af,some (j,want)⟩) (k:wpS P l.toArray ms wr Q n (items.erase i) ((i,undef)::pend) (Fr N (upd σ d undef)) C) (ht:tak ms wr items i=some (items.erase i):=by kernel_rfl)
  (hG : Gd l.toArray N σ j (!want):=by exact ⟨_,rfl,rfl,rfl⟩):wpS P l.toArray ms wr Q (n+1) items pend (Fr N σ) C:=BE i _ ht ho rfl (Fi (hG.off rfl (by cases want <;> rfl))) k
theorem su (i:Nat) (ho:l[i]?=some ⟨some d,ins,ty,ps,af,some (j,want)⟩) (k:wpS P l.toArray ms wr Q n (items.erase i) ((i,undef)::pend) (Fr N (upd σ d undef)) C) (ht:tak ms wr items i=some (items.erase i):=by kernel_rfl)
  (hG : Gu l.toArray N σ j:=by exact ⟨_,rfl,rfl,rfl⟩):wpS P l.toArray ms wr Q (n+1) items pend (Fr N σ) C:=BE i _ ht ho rfl (Fi hG.off) k
theorem sgz (v:Value) (i:Nat) (ho:l[i]?=some ⟨some d,ins,ty,ps,af,some (j,want)⟩) (hb:b=B) (h:(execOp (ev N σ) ⟨some d,ins,ty,ps,af,some (j,want)⟩).run P=fun w=>.ok (.value v) w) (k:wpS P l.toArray ms wr Q n (items.erase i) ((i,v)::pend) (Fr N (upd σ d v)) C)
  (ht : tak ms wr items i=some (items.erase i):=by kernel_rfl) (hG:Gd l.toArray N σ j b:=by exact ⟨_,rfl,rfl,rfl⟩) (hn:(B==want)=true:=by exact rfl):wpS P l.toArray ms wr Q (n+1) items pend (Fr N σ) C:=BE i _ ht ho rfl (di (hG.on hb hn) (fun w _=>congrFun h w)) k
theorem sg (v:Value) (i:Nat) (ho:l[i]?=some ⟨some d,ins,ty,ps,af,some (j,want)⟩) (hb:b=B) (h:∀ w,C w→(execOp (ev N σ) ⟨some d,ins,ty,ps,af,some (j,want)⟩).run P w = .ok (.value v) w) (k:wpS P l.toArray ms wr Q n (items.erase i) ((i,v)::pend) (Fr N (upd σ d v)) C)
  (ht : tak ms wr items i=some (items.erase i):=by kernel_rfl) (hG:Gd l.toArray N σ j b:=by exact ⟨_,rfl,rfl,rfl⟩) (hn:(B==want)=true:=by exact rfl):wpS P l.toArray ms wr Q (n+1) items pend (Fr N σ) C:=BE i _ ht ho rfl (di (hG.on hb hn) h) k
theorem sgk (v:Value) (i:Nat) (ho:l[i]?=some ⟨some d,ins,ty,ps,af,some (j,want)⟩) (hb:b=B) (k:wpS P l.toArray ms wr Q n (items.erase i) ((i,v)::pend) (Fr N (upd σ d v)) C) (h:∀ w,C w→(execOp (ev N σ) ⟨some d,ins,ty,ps,af,some (j,want)⟩).run P w = .ok (.value v) w:=by intro _ _; kernel_rfl)
  (ht : tak ms wr items i=some (items.erase i):=by kernel_rfl) (hG:Gd l.toArray N σ j b:=by exact ⟨_,rfl,rfl,rfl⟩) (hn:(B==want)=true:=by exact rfl):wpS P l.toArray ms wr Q (n+1) items pend (Fr N σ) C:=BE i _ ht ho rfl (di (hG.on hb hn) h) k
theorem sy (v:Value) (i:Nat) (ho:l[i]?=some o) (hd:o.dst=some d) (hy:YieldsIn P l.toArray C o v (Fr N σ)) (k:wpS P l.toArray ms wr Q n (items.erase i) ((i,v)::pend) (Fr N (upd σ d v)) C) (ht:tak ms wr items i=some (items.erase i):=by kernel_rfl) :
  wpS P l.toArray ms wr Q (n+1) items pend (Fr N σ) C:=BE i _ ht ho hd hy k
theorem pz (k:kL P l.toArray C (Fr N σ) U) (h:∃ o,l[i]?=some o∧Region.wanted o (yielded l.toArray (Fr N σ).tmps)=true∧∀ w,(execOp (ev N σ) o).run P w = .ok (.value v) w:=by exact ⟨_,rfl,rfl,fun _=>rfl⟩):kL P l.toArray C (Fr N σ) ((i,v)::U):=by
 obtain ⟨o,h1,h2,h3⟩:=h
 exact pkr h1 h2 (fun w _=>h3 w) k
theorem e1 (i:Nat) (ho:l[i]?=some o) (hw:Region.wanted o (yielded l.toArray (Fr N σ).tmps)=true) (h:∀ w,C w→o.wp P (Fr N σ) w (Nx P l ms wr Q i n (items.erase i) pend) (fun _ _ _=>False)) (hr:rdy ms items=[i]:=by kernel_rfl) :
  wpS P l.toArray ms wr Q (n+1) items pend (Fr N σ) C:=iN i hr (nxe _ rfl ho hw h)
theorem nx (ho:l[i]?=some o) (hw:Region.wanted o (yielded l.toArray (Fr N σ).tmps)=true) (h:∀ w,C w→o.wp P (Fr N σ) w (Nx P l ms wr Q i n (items.erase i) pend) (fun _ _ _=>False)):NxE P l ms wr Q n items pend (Fr N σ) C i:=nxe _ rfl ho hw h
def pkp (ks:List Nat) (l:List (Nat×Value)):List (Nat×Value):=l.filter fun p=>ks.any (Nat.beq p.1)
theorem wn {w0:World} {I:HL} {L:List SP} {R:SP} {a':Act} {rest:List Nat} (ks:List Nat) (hst:St w0 w' I L R) (hp:kL P l.toArray (fun w=>St w0 w I L R) a' (pkp ks pend))
  (h : wpS P l.toArray ms wr Q n rest (pkp ks pend) a' (fun w=>St w0 w I L R)) (hf:pend.filter (fun p=>!bef ms p.1 i)=pkp ks pend:=by kernel_rfl):Nx P l ms wr Q i n rest pend a' w':=Ga hst hf hp h
theorem w0n {w0:World} {I:HL} {L:List SP} {R:SP} {a':Act} {rest:List Nat} (hst:St w0 w' I L R)
  (h : wpS P l.toArray ms wr Q n rest [] a' (fun w=>St w0 w I L R)) (hf:pend.filter (fun p=>!bef ms p.1 i)=[]:=by kernel_rfl):Nx P l ms wr Q i n rest pend a' w':=Ga hst hf aT h
end
theorem bs {p:Prop} {α:Type} {b:Bool} {x y:Option α} {r:α} (hm:(bif b then x else y)=some r) (h1:b=true→x=some r→p) (h2:b=false→y=some r→p):p:=by
 cases b
 ·exact h2 rfl hm
 ·exact h1 rfl hm
section
variable {P:Program} {N:Nat} {σ:Nat→Value} {w:World}
theorem rc {t:Nat} {v:Value} {rs:List ResultVar} {vs:List Value} (h:ev N σ (.tmp t)=v) (k:RVs P N σ w rs vs):RVs P N σ w (.tmp t::rs) (v::vs):=ea h k
theorem c0 {f:FuncId} {fn:Func} {c:Code} {args:List Value} {R:Ending→World→Prop} (hf:P.funcs[f]?=some fn) (hb:fn.body=some c) (hN:fn.ntmps=N) (h:c.wp P (bodyPost P fn R) (Fr N (ini args)) w) (hl:Nat.ble args.length N=true:=by exact rfl):Calls P f args.toArray w R :=
 Dy hf hb hN (Nat.le_of_ble_eq_true hl) h
end
def ups (σ:Nat→Value):List Nat→List Value→Nat→Value
 | t::ts,v::vs=>ups (upd σ t v) ts vs
 | _,_=>σ
def fz (N:Nat) (ts:List Nat) (vs:List Value) (a:Act):Prop:=∃ σ,a=Fr N (ups σ ts vs)
theorem GD (σ:Nat→Value):∀ ts:List Nat,ups σ ts (ts.map σ)=σ
 | []=>rfl
 | t::ts=>by
  have h:upd σ t (σ t)=σ:=by
   funext i
   unfold upd
   cases hb:Nat.beq i t with
   | true=>have:=Nat.eq_of_beq_eq_true hb; subst this; rfl
   | false=>rfl
  show ups (upd σ t (σ t)) ts (ts.map σ)=σ
  rw [h]; exact GD σ ts
theorem fy {N:Nat} {σ:Nat→Value} {ts:List Nat} {vs:List Value} (h:ts.map σ=vs):fz N ts vs (Fr N σ):=⟨σ,by rw [← h,GD]⟩
theorem oJ {vs:List Value} (n:Nat) (h:(vs.take n).all (·.oneCell')=true) (k:∀ x∈vs.drop n,x.oneCell'=true):∀ x∈vs,x.oneCell'=true:=fun x hx=>by
 rw [← List.take_append_drop n vs] at hx
 rcases List.mem_append.1 hx with h1 | h1
 ·exact List.all_eq_true.1 h x h1
 ·exact k x h1
theorem rg {P:Program} {N:Nat} {σ:Nat→Value} {w:World} {Q:Exit→Act→World→Prop} {l:List Oper} {id:Nat} {w0:World} {I:HL} {L:List SP} {R:SP} (hst:St w0 w I L R) (n:Nat) (ms wr:List Nat) (hm:P.follows .mixedOrders=true)
  (h : wpS P l.toArray ms wr Q n (List.range n) [] (Fr N σ) (fun w=>St w0 w I L R)) (hn:l.length=n:=by exact rfl) (hs:ur .any l []=ms:=by kernel_rfl) (hc:chk .any l.toArray wr=true:=by kernel_rfl):(Code.region id l.toArray true).wp P Q (Fr N σ) w :=
 CW hst n _ ms wr hn rfl hs hm hc h
theorem sj {α:Type} {a b:α} (h:some a=some b):a=b:=some_inj h
theorem bn {α β:Type} {x:Option α} {k:α→Option β} {r:β} (h:x.bind k=some r):∃ t,x=some t∧k t=some r:=bind_some h
theorem dI {P:Program} {N:Nat} {σ:Nat→Value} {w:World} {fn:Func} {R:Ending→World→Prop} {rs:List ResultVar} (vs:List Value) (hr:fn.results=rs.toArray) (hv:RVs P N σ w rs vs) (h:R (.returned (Av vs)) w):bodyPost P fn R .ret (Fr N σ) w:=JI hr hv h
theorem nls {n:Nat}:n<n+1:=Nat.lt_succ_self n
theorem lr {I:HL}:I.le I:=HL.le.refl I
section
variable {P:Program} {ops:Array Oper} {Q:Exit→Act→World→Prop} {rest:List Oper} {N b o t:Nat} {σ:Nat→Value} {w w0:World} {I:HL} {R:SP} {L:List SP} {cs:List Value} {ins:Op} {ty:TypeId} {ps:String} {af:Array Edge} {K:Act→World→Prop}
theorem bxk {vs:List Value} (hst:St w0 w I (cells b cs::L) R) (hx:execOp (ev N σ) ⟨none,ins,ty,ps,af,none⟩=(Instr.storeAt t (.pointer (some ⟨b,0,none⟩)) (.agg vs.toArray) >>= fun _=>(pure Next.skip:Sem Next))) (hs:∀ w,(sizeOf t).run P w = .ok (Value.agg vs.toArray).cells.size w)
  (hv : ∀ v∈(Value.agg vs.toArray).cells.toList,v.oneCell'=true) (k:∀ w',St w0 w' I (cells b vs::L) R→wpList P ops Q rest (Fr N σ) w') (hl:Nat.ble (0+(Value.agg vs.toArray).cells.toList.length) cs.length=true:=by kernel_rfl) (hcs:iK cs 0 (Value.agg vs.toArray).cells.toList=vs:=by kernel_rfl) :
  wpList P ops Q (⟨none,ins,ty,ps,af,none⟩::rest) (Fr N σ) w:=by
 obtain ⟨w',h1,h2⟩:=hst.bx (P:=P) (t:=t) vs hs hl hv hcs
 exact yF rfl rfl (by rw [hx]; exact rn h1) (k w' h2)
theorem bxe {vs:List Value} (hst:St w0 w I (cells b cs::L) R) (hx:execOp (ev N σ) ⟨none,ins,ty,ps,af,none⟩=(Instr.storeAt t (.pointer (some ⟨b,0,none⟩)) (.agg vs.toArray) >>= fun _=>(pure Next.skip:Sem Next))) (hs:∀ w,(sizeOf t).run P w = .ok (Value.agg vs.toArray).cells.size w)
  (hv : ∀ v∈(Value.agg vs.toArray).cells.toList,v.oneCell'=true) (k:∀ w',St w0 w' I (cells b vs::L) R→K (Fr N σ) w') (hl:Nat.ble (0+(Value.agg vs.toArray).cells.toList.length) cs.length=true:=by kernel_rfl) (hcs:iK cs 0 (Value.agg vs.toArray).cells.toList=vs:=by kernel_rfl) :
  Oper.wp P ⟨none,ins,ty,ps,af,none⟩ (Fr N σ) w K (fun _ _ _=>False):=by
 obtain ⟨w',h1,h2⟩:=hst.bx (P:=P) (t:=t) vs hs hl hv hcs
 exact tu rfl (by rw [hx]; exact rn h1) (k w' h2)
theorem byk (x:Value) (hst:St w0 w I (cells b cs::L) R) (hx:execOp (ev N σ) ⟨none,ins,ty,ps,af,none⟩=(Instr.storeAt t (.pointer (some ⟨b,o,none⟩)) x >>= fun _=>(pure Next.skip:Sem Next))) (hs:∀ w,(sizeOf t).run P w = .ok x.cells.size w)
  (hv : ∀ v∈x.cells.toList,v.oneCell'=true) (k:∀ w',St w0 w' I (cells b (iK cs o x.cells.toList)::L) R→wpList P ops Q rest (Fr N σ) w') (hl:Nat.ble (o+x.cells.toList.length) cs.length=true:=by kernel_rfl) :
  wpList P ops Q (⟨none,ins,ty,ps,af,none⟩::rest) (Fr N σ) w:=by
 obtain ⟨w',h1,h2⟩:=hst.by_ (P:=P) (t:=t) _ o x hs hl hv rfl
 exact yF rfl rfl (by rw [hx]; exact rn h1) (k w' h2)
theorem bye (x:Value) (hst:St w0 w I (cells b cs::L) R) (hx:execOp (ev N σ) ⟨none,ins,ty,ps,af,none⟩=(Instr.storeAt t (.pointer (some ⟨b,o,none⟩)) x >>= fun _=>(pure Next.skip:Sem Next))) (hs:∀ w,(sizeOf t).run P w = .ok x.cells.size w)
  (hv : ∀ v∈x.cells.toList,v.oneCell'=true) (k:∀ w',St w0 w' I (cells b (iK cs o x.cells.toList)::L) R→K (Fr N σ) w') (hl:Nat.ble (o+x.cells.toList.length) cs.length=true:=by kernel_rfl) :
  Oper.wp P ⟨none,ins,ty,ps,af,none⟩ (Fr N σ) w K (fun _ _ _=>False):=by
 obtain ⟨w',h1,h2⟩:=hst.by_ (P:=P) (t:=t) _ o x hs hl hv rfl
 exact tu rfl (by rw [hx]; exact rn h1) (k w' h2)
theorem b1k (x:Value) (hst:St w0 w I (cells b cs::L) R) (hx:execOp (ev N σ) ⟨none,ins,ty,ps,af,none⟩=(Instr.storeAt t (.pointer (some ⟨b,o,none⟩)) x >>= fun _=>(pure Next.skip:Sem Next))) (h1:x.oneCell'=true) (hs:∀ w,(sizeOf t).run P w = .ok 1 w)
  (k : ∀ w',St w0 w' I (cells b (iK cs o [x])::L) R→wpList P ops Q rest (Fr N σ) w') (hl:Nat.ble (o+1) cs.length=true:=by kernel_rfl) :
  wpList P ops Q (⟨none,ins,ty,ps,af,none⟩::rest) (Fr N σ) w:=by
 obtain ⟨w',h2,h3⟩:=hst.Ca (P:=P) (t:=t) o x h1 hs hl rfl
 exact yF rfl rfl (by rw [hx]; exact rn h2) (k w' h3)
theorem b1e (x:Value) (hst:St w0 w I (cells b cs::L) R) (hx:execOp (ev N σ) ⟨none,ins,ty,ps,af,none⟩=(Instr.storeAt t (.pointer (some ⟨b,o,none⟩)) x >>= fun _=>(pure Next.skip:Sem Next))) (h1:x.oneCell'=true) (hs:∀ w,(sizeOf t).run P w = .ok 1 w)
  (k : ∀ w',St w0 w' I (cells b (iK cs o [x])::L) R→K (Fr N σ) w') (hl:Nat.ble (o+1) cs.length=true:=by kernel_rfl) :
  Oper.wp P ⟨none,ins,ty,ps,af,none⟩ (Fr N σ) w K (fun _ _ _=>False):=by
 obtain ⟨w',h2,h3⟩:=hst.Ca (P:=P) (t:=t) o x h1 hs hl rfl
 exact tu rfl (by rw [hx]; exact rn h2) (k w' h3)
end
theorem kca {P:Program} {f:FuncId} {vs:Array Value} {w:World} {V:Value} {S:World→Prop} {K:Value→World→Prop} (h:Calls P f vs w fun e w'=>e = .returned V∧S w') (k:∀ w',S w'→K V w'):Calls P f vs w fun e w'=>∃ v,e = .returned v∧K v w' :=
 h.mono fun _ w' q=>⟨V,q.1,k w' q.2⟩
theorem kcb {P:Program} {f:FuncId} {vs:Array Value} {w:World} {α:Type} {V:α→Value} {S:α→World→Prop} {K:Value→World→Prop} (h:Calls P f vs w fun e w'=>∃ x,e = .returned (V x)∧S x w') (k:∀ x w',S x w'→K (V x) w'):Calls P f vs w fun e w'=>∃ v,e = .returned v∧K v w' :=
 h.mono fun _ w' q=>by obtain ⟨x,h1,h2⟩:=q; exact ⟨V x,h1,k x w' h2⟩
theorem bw {P:Program} {N:Nat} {σ:Nat→Value} {w:World} {Q:Exit→Act→World→Prop} {α:Type} {b:Bool} {x y:Option α} {r:α} {c:Operand} {A B:Code} (hm:(bif b then x else y)=some r) (hc:ev N σ c = .bool b) (h1:b=true→x=some r→A.wp P Q (Fr N σ) w) (h2:b=false→y=some r→B.wp P Q (Fr N σ) w):(Code.cond c A B).wp P Q (Fr N σ) w:=by
 cases b
 ·exact cJ hc (h2 rfl hm)
 ·exact eG hc (h1 rfl hm)
theorem ww {P:Program} {Q:Exit→Act→World→Prop} {a:Act} {w:World} {id:Nat} {l:List Oper} {y:Code} (h:wpList P l.toArray (Exit.then (fun a w=>y.wp P Q a w) Q) l a w):(Code.seq (Code.region id l.toArray false) y).wp P Q a w:=wp_seq (wrl h)
theorem nt {P:Program} {ops:Array Oper} {Q:Exit→Act→World→Prop} {K:Act→World→Prop} {N:Nat} {σ:Nat→Value} {w:World} (h:K (Fr N σ) w):wpList P ops (Exit.then K Q) [] (Fr N σ) w:=dv (tn h)
theorem oS {v:Value} {n:Nat} (h:dQ v n):v.oneCell'=true:=uF h
section
variable {P:Program} {ρ:Operand→Value} {w:World} {dd:Option Tmp} {ty:TypeId} {ps:String} {af:Array Edge} {g:Option (Nat×Bool)}
theorem Kp {t e:TypeId} {j k:IntKind} {a0 a1 a2 a3 b0 b1 b2 b3:Int} (ht:P.underlying t=some (.array 4 e)) (ue:P.underlying e=some (.int j)) (hs:∀ w,(sizeOf e).run P w = .ok 1 w) (hA:∀ w,(isAgg e).run P w = .ok false w) (d:Nat) (w:World) :
  (Op.equalIn (d+2) t (.agg #[.int k a0,.int k a1,.int k a2,.int k a3]) (.agg #[.int k b0,.int k b1,.int k b2,.int k b3])).run P w = .ok ((a0==b0)&&(a1==b1)&&(a2==b2)&&(a3==b3)) w:=by
 have hu:∀ w:World,(underlying t).run P w = .ok (.array 4 e) w:=fun w=>by simp [underlying,ht]
 have p:∀ (x0 x1 x2 x3:Value) (w:World),(part e #[x0,x1,x2,x3] 0).run P w = .ok x0 w∧(part e #[x0,x1,x2,x3] 1).run P w = .ok x1 w∧(part e #[x0,x1,x2,x3] 2).run P w = .ok x2 w∧(part e #[x0,x1,x2,x3] 3).run P w = .ok x3 w:=fun x0 x1 x2 x3 w=>by
  simp [part,Sem.run_bind,hA,Result.andThen]
 have p0:=fun x0 x1 x2 x3 w=>(p x0 x1 x2 x3 w).1
 have p1:=fun x0 x1 x2 x3 w=>(p x0 x1 x2 x3 w).2.1
 have p2:=fun x0 x1 x2 x3 w=>(p x0 x1 x2 x3 w).2.2.1
 have p3:=fun x0 x1 x2 x3 w=>(p x0 x1 x2 x3 w).2.2.2
 rw [Op.equalIn]
 cases h0:(a0==b0) <;> cases h1:(a1==b1) <;> cases h2:(a2==b2) <;> cases h3:(a3==b3) <;>
  simp [hu,hs,Std.Legacy.Range.forIn_eq_forIn_range',Std.Legacy.Range.size,List.range',p0,p1,p2,p3,eq_int ue,Sem.run_bind,Result.andThen,h0,h1,h2,h3]
theorem HU {t t2 e:TypeId} {x y:Operand} {j k:IntKind} {a0 a1 a2 a3 b0 b1 b2 b3:Int} (hx:ρ x = .agg #[.int k a0,.int k a1,.int k a2,.int k a3]) (hy:ρ y = .agg #[.int k b0,.int k b1,.int k b2,.int k b3]) (hg:P.eqGuardType P.depth t=false) (ht:P.underlying t=some (.array 4 e)) (ue:P.underlying e=some (.int j)) (hs:∀ w,(sizeOf e).run P w = .ok 1 w) (hA:∀ w,(isAgg e).run P w = .ok false w) :
  (execOp ρ ⟨dd,.binOp .neq t x y t2,ty,ps,af,g⟩).run P w = .ok (.value (.bool (!((a0==b0)&&(a1==b1)&&(a2==b2)&&(a3==b3))))) w:=by
 refine qE ?_
 rw [hx,hy]
 have he:=fun w=>Kp (k:=k) (a0:=a0) (a1:=a1) (a2:=a2) (a3:=a3) (b0:=b0) (b1:=b1) (b2:=b2) (b3:=b3) ht ue hs hA 9998 w
 simp [eqGuard,binOp,Op.equal,Op.maxDepth,Sem.run_bind,run_program,hg,he,Result.andThen]
end
class Un (P:Program) (S:TypeId) where
 U : TypeDesc
 h : P.underlying S=some U
class Sz (P:Program) (t:TypeId) (n:outParam Nat):Prop where
 h : ∀ w,(sizeOf t).run P w = .ok n w
class Ag (P:Program) (t:TypeId) (b:outParam Bool):Prop where
 h : ∀ w,(isAgg t).run P w = .ok b w
class FoC (P:Program) (S:TypeId) (f:Nat) (o:outParam Nat):Prop where
 h : ∃ fs fd n,P.underlying S=some (.struct fs)∧fs[f]?=some fd∧(∀ w,(sizeOf fd.type).run P w = .ok (n+1) w)∧fd.offset=o
theorem fd {P:Program} {S:TypeId} {f o n:Nat} {fs:Array Field} {fd:Field} (hS:P.underlying S=some (.struct fs)) (hf:fs[f]?=some fd) (hn:∀ w,(sizeOf fd.type).run P w = .ok (n+1) w) (ho:fd.offset=o:=by rfl):FoC P S f o:=⟨_,_,_,hS,hf,hn,ho⟩
theorem fI {P:Program} {S:TypeId} {f o:Nat} [h:FoC P S f o]:FoC P S f o:=h
theorem uI {P:Program} {S:TypeId} [h:Un P S]:P.underlying S=some h.U:=h.h
theorem sI {P:Program} {t:TypeId} {n:Nat} [h:Sz P t n]:∀ w,(sizeOf t).run P w = .ok n w:=h.h
theorem aI {P:Program} {t:TypeId} {b:Bool} [h:Ag P t b]:∀ w,(isAgg t).run P w = .ok b w:=h.h
section
variable {P:Program} {ρ:Operand→Value} {w:World} {dd:Option Tmp} {ty:TypeId} {ps:String} {af:Array Edge} {g:Option (Nat×Bool)} {S:TypeId} {x:Operand} {f b o o' k r:Nat} {V:Value}
theorem xF (hx:ρ x = .pointer (some ⟨b,o,none⟩)) (hF:FoC P S f k) (ho:o+k=o'):(execOp ρ ⟨dd,.fieldAddr S x f,ty,ps,af,g⟩).run P w = .ok (.value (.pointer (some ⟨b,o',none⟩))) w:=by
 obtain ⟨fs,fd,n,h1,h2,h3,rfl⟩:=hF; exact KE hx h1 h2 h3 ho
theorem xG (hx:ρ x = .pointer (some (eZ V (r+o)))) (hF:FoC P S f k) (ho:o+k=o'):(execOp ρ ⟨dd,.fieldAddr S x f,ty,ps,af,g⟩).run P w = .ok (.value (.pointer (some (eZ V (r+o'))))) w:=by
 obtain ⟨fs,fd,n,h1,h2,h3,rfl⟩:=hF; exact GG hx h1 h2 h3 ho
end
section
variable {P:Program} {ops:Array Oper} {Q:Exit→Act→World→Prop} {more:List Oper} {l:List Oper} {ms wr:List Nat} {items:List Nat} {pend U:List (Nat×Value)} {N n d i:Nat} {σ:Nat→Value} {w:World} {ty:TypeId} {ps:String} {af:Array Edge} {C:World→Prop} {S:TypeId} {x:Operand} {f p q r o:Nat}
theorem mF (hx:ev N σ x = .pointer (some ⟨p,q,none⟩)) (hF:FoC P S f o) (k:wpList P ops Q more (Fr N (upd σ d (.pointer (some ⟨p,q+o,none⟩)))) w):wpList P ops Q (⟨some d,.fieldAddr S x f,ty,ps,af,none⟩::more) (Fr N σ) w:=mz (xF hx hF rfl) k
theorem sF (i:Nat) (ho:l[i]?=some ⟨some d,.fieldAddr S x f,ty,ps,af,none⟩) (hx:ev N σ x = .pointer (some ⟨p,q,none⟩)) (hF:FoC P S f o) (k:wpS P l.toArray ms wr Q n (items.erase i) ((i,.pointer (some ⟨p,q+o,none⟩))::pend) (Fr N (upd σ d (.pointer (some ⟨p,q+o,none⟩)))) C)
  (ht : tak ms wr items i=some (items.erase i):=by kernel_rfl):wpS P l.toArray ms wr Q (n+1) items pend (Fr N σ) C:=wsr _ i ho rfl rfl ht (fun w _=>xF hx hF rfl) k
theorem pF (ho:l[i]?=some ⟨some d,.fieldAddr S x f,ty,ps,af,none⟩) (hx:ev N σ x = .pointer (some ⟨p,q,none⟩)) (hF:FoC P S f o) (k:kL P l.toArray C (Fr N σ) U) (hr:q+o=r:=by exact rfl):kL P l.toArray C (Fr N σ) ((i,.pointer (some ⟨p,r,none⟩))::U):=pkr ho rfl (fun w _=>xF hx hF hr) k
end
theorem tz {α:Type} {cs:List α}:(cs.drop 0).take cs.length=cs:=by simp
theorem krA {p:Prop} (h:p:=by kernel_rfl):p:=h
theorem riA {p:Prop} (h:p:=by rintro _ rfl; rfl):p:=h
theorem olA {p:Prop} (h:p:=by first | omega | (simp only [List.length_append,List.length_take,List.length_drop]; omega)):p:=h
theorem bk {α β:Type} {x:Option α} {k:α→Option β} {r:β} {G:Prop} (h:x.bind k=some r) (g:∀ t,x=some t→k t=some r→G):G:=by
 obtain ⟨t,h1,h2⟩:=bind_some h
 exact g t h1 h2
section
variable {P:Program} {ρ:Operand→Value} {w:World} {dd:Option Tmp} {ty:TypeId} {ps:String} {af:Array Edge} {g:Option (Nat×Bool)} {x:Operand} {a:Addr} {v:Value} {t:TypeId} {cs:List Value} {n N i:Nat} {σ:Nat→Value}
theorem xL (hx:ρ x = .pointer (some a)) (hc:w.cell? a=some v) [hA:Ag P t false]:(execOp ρ ⟨dd,.load t x,ty,ps,af,g⟩).run P w = .ok (.value v) w:=CL hx hA.h hc
theorem xN (hx:ρ x = .pointer (some a)) (hc:∀ j v,cs[j]?=some v→w.cell? (a.add j)=some v) [hA:Ag P t true] [hs:Sz P t n] (hn:cs.length=n:=by exact rfl):(execOp ρ ⟨dd,.load t x,ty,ps,af,g⟩).run P w = .ok (.value (.agg cs.toArray)) w:=KX hx hA.h (hn ▸ hs.h) hc
theorem rN {u:Nat} (h:ev N σ (.tmp u) = .pointer (some a)) (hc:∀ j v,cs[j]?=some v→w.cell? (a.add j)=some v) [hA:Ag P t true] [hs:Sz P t n] (hn:cs.length=n:=by exact rfl):RV P N σ w (.cell u t) (.agg cs.toArray):=KU h hA.h (hn ▸ hs.h) hc
theorem mL {ops:Array Oper} {Q:Exit→Act→World→Prop} {more:List Oper} {d:Nat} (hx:ev N σ x = .pointer (some a)) (hc:w.cell? a=some v) (k:wpList P ops Q more (Fr N (upd σ d v)) w) [hA:Ag P t false]:wpList P ops Q (⟨some d,.load t x,ty,ps,af,none⟩::more) (Fr N σ) w:=mz (CL hx hA.h hc) k
variable {l:List Oper} {ms wr:List Nat} {Q:Exit→Act→World→Prop} {items:List Nat} {pend U:List (Nat×Value)} {d:Nat} {C:World→Prop}
theorem sL (i:Nat) (ho:l[i]?=some ⟨some d,.load t x,ty,ps,af,none⟩) (hx:ev N σ x = .pointer (some a)) (hc:∀ {w},C w→w.cell? a=some v) (k:wpS P l.toArray ms wr Q n (items.erase i) ((i,v)::pend) (Fr N (upd σ d v)) C) [hA:Ag P t false] (ht:tak ms wr items i=some (items.erase i):=by kernel_rfl) :
  wpS P l.toArray ms wr Q (n+1) items pend (Fr N σ) C:=wsr v i ho rfl rfl ht (fun w hw=>CL hx hA.h (hc hw)) k
theorem pL (ho:l[i]?=some ⟨some d,.load t x,ty,ps,af,none⟩) (hx:ev N σ x = .pointer (some a)) (hc:∀ {w},C w→w.cell? a=some v) (k:kL P l.toArray C (Fr N σ) U) [hA:Ag P t false]:kL P l.toArray C (Fr N σ) ((i,v)::U):=pkr ho rfl (fun w hw=>CL hx hA.h (hc hw)) k
variable {fn:Func} {R:Ending→World→Prop} {κ:IntKind} {m:Int} {b:Bool} {u:Nat} {r:ResultVar}
theorem prI (hr:fn.results = #[r]) (hv:RV P N σ w r v) (h:R (.returned v) w):bodyPost P fn R .ret (Fr N σ) w:=dI [v] hr (ea hv bl) h
theorem pI (hr:fn.results = #[.tmp u]) (hv:ev N σ (.tmp u) = .int κ m) (h:R (.returned (.int κ m)) w):bodyPost P fn R .ret (Fr N σ) w:=prI hr hv h
theorem pB (hr:fn.results = #[.tmp u]) (hv:ev N σ (.tmp u) = .bool b) (h:R (.returned (.bool b)) w):bodyPost P fn R .ret (Fr N σ) w:=prI hr hv h
theorem pP (hr:fn.results = #[.tmp u]) (hv:ev N σ (.tmp u) = .pointer (some a)) (h:R (.returned (.pointer (some a))) w):bodyPost P fn R .ret (Fr N σ) w:=prI hr hv h
end
section
variable {P:Program} {f:FuncId} {vs:Array Value} {w w0:World} {V:Value} {K:Value→World→Prop} {I:HL} {L:List SP} {R A B:SP} {α:Type} {F:α→Value} {I':α→HL} {A' B':α→SP} {L':α→List SP} {R':SP}
theorem kcO (h:Calls P f vs w fun e w'=>e = .returned V∧St w0 w' I [] (big L R)) (k:∀ w',St w0 w' I L R→K V w'):Calls P f vs w fun e w'=>∃ v,e = .returned v∧K v w':=kca h fun w' q=>k w' q.of0
theorem kcI (h:Calls P f vs w fun e w'=>e = .returned V∧St w0 w' I [A] (big L R)) (k:∀ w',St w0 w' I (A::L) R→K V w'):Calls P f vs w fun e w'=>∃ v,e = .returned v∧K v w':=kca h fun w' q=>k w' q.of1
theorem kdI (h:Calls P f vs w fun e w'=>∃ x,e = .returned (F x)∧St w0 w' I [A' x] (big L R)) (k:∀ x w',St w0 w' I (A' x::L) R→K (F x) w'):Calls P f vs w fun e w'=>∃ v,e = .returned v∧K v w':=kcb h fun x w' q=>k x w' q.of1
theorem kdJ (h:Calls P f vs w fun e w'=>∃ x,e = .returned (F x)∧St w0 w' I [A' x,B' x] (big L R)) (k:∀ x w',St w0 w' I (A' x::B' x::L) R→K (F x) w'):Calls P f vs w fun e w'=>∃ v,e = .returned v∧K v w':=kcb h fun x w' q=>k x w' q.of2
end
def aj := @wp_seq
def al := @wp_skip
def ar := @wp_ret
def au := @wp_block
def bH := @wp_exit
def hl (w:World):HL:=fun i=>w.heap[i]?
theorem St.start (w:World):St w w (hl w) [] emp:=⟨Env.refl w,fun _ _ h=>h,fun _=>none,trivial,fun _ _ h=>by simp at h,fun _=>.inl rfl⟩
theorem St.below {W W':World} {I:HL} {L:List SP} {R:SP} (h:St W W' I L R) (hI:(hl W).le I):Below W.heap.size W W':=by
 refine ⟨h.env.os,h.env.tape,h.env.output,h.env.size,fun k hk=>?_⟩
 have h1:(hl W) k=some W.heap[k]:=Array.getElem?_eq_getElem hk
 rw [h.imm _ _ (hI _ _ h1)]
 exact h1.symm
section
variable {H:Type} {enc:TypeId×Value→H} {P:Program}
theorem xP (hlo:laidOutB P=true) {W W':World} (hb:Below W.heap.size W W'):∀ {ts:List TypeId} {vs:List Value} {ds:List (DataW H)} {ps:List MemPlace},
  ts.all (fun t=>P.readableRec t&&decide (t<P.types.size))=true→DataW.TrodAll enc P W 0 (fun _=>true) true ts vs ds ps→(∀ x∈ps,x.block<W.heap.size) →
  DataW.TrodAll enc P W' 0 (fun b=>decide (b<W.heap.size)) true ts vs ds ps
 | [],[],[],ps,_,h,_=>h
 | t::ts,v::vs,d::ds,ps,hr,h,hlt=>by
  obtain ⟨p,q,h1,h2,rfl⟩:=h
  simp only [List.all_cons,Bool.and_eq_true,decide_eq_true_eq] at hr
  exact ⟨p,q,Below.trod hlo hr.1.1 hr.1.2 h1 hb (fun x hx=>hlt x (by simp [hx])),xP hlo hb hr.2 h2 (fun x hx=>hlt x (by simp [hx])),rfl⟩
 | [],_::_,_,_,_,h,_=>h.elim
 | [],[],_::_,_,_,h,_=>h.elim
 | _::_,[],_,_,_,h,_=>h.elim
 | _::_,_::_,[],_,_,h,_=>h.elim
theorem CO {W:World} {sp:Nat→Bool} {gs:List (DataW H)} {q:List MemPlace} (h:DataW.TrodVars enc P W sp [] gs q):gs=[]∧q=[]:=by
 cases gs with
 | nil=>exact ⟨rfl,h⟩
 | cons d ds=>exact h.elim
theorem Jp {f:Func} {s:ChangeSpec} {apart fresh handsOn:Bool} {W W':World} {args:Array Value} {ds gs:List (DataW H)} {before:List MemPlace} {tb:TypeId}
  (hW : DataW.Whole enc P f.params.toList s.vars apart W args.toList ds gs before) (hlo:laidOutB P=true)
  (hts : f.params.toList.all (fun t=>P.readableRec t&&decide (t<P.types.size))=true) (hv:s.vars=[])
  (hrt : f.resultTypes = #[tb]) (hb:P.underlying tb=some .bool)
  (hfn : (s.fn H ds).results=[.lit (.bool true)]∧(s.fn H ds).args=ds∧(s.fn H ds).vars=[]) (hB:Below W.heap.size W W') :
  s.post enc P f apart fresh handsOn false W args (.bool true) W':=by
 have hlt:=fun p hp=>hW.lt p hp
 have hW0:=hW
 obtain ⟨p,q,hA,hV,rfl,hz,hn⟩:=hW
 rw [hv] at hV
 obtain ⟨rfl,rfl⟩:=CO hV
 refine ⟨ds,[],p++[],[],p,[],hW0,?_,?_,?_,World.keptBut_mono (fun x hx=>hx.elim) (hB.frame (fun _=>False)),fun h=>by cases h⟩
 ·rw [List.append_nil,hfn.1,hrt]
  refine ⟨[],[],⟨1,?_⟩,rfl,rfl⟩
  simp [Value.cells,DataW.trod,hb]
 ·rw [List.append_nil,hfn.2.1]
  exact xP hlo hB hts hA (fun x hx=>hlt x (by simp [hx]))
 ·rw [List.append_nil,hfn.2.2,hv]
  rfl
end
theorem CV (a:Addr) (m n:Nat):(a.add m).add n=a.add (m+n):=by
 unfold Addr.add
 by_cases h1:m=0 <;> by_cases h2:n=0 <;> simp [h1,h2,Nat.add_assoc]
def Rds {α:Type} (P:Program) (W:World) (E:Ty α) (e:TypeId) (ok:α→Prop):Prop :=
 ∀ (H:Type) (enc:TypeId×Value→H) (sp:Nat→Bool) (fuel:Nat) (cs:List Value) (y:DataW H×List MemPlace),DataW.trod enc P W 0 sp true fuel e cs=some y→∃ x,E.rep (eT (hl W)) x cs∧ok x
section
variable {P:Program} {W:World} {e t:TypeId} {α:Type} {E:Ty α} {ok:α→Prop}
theorem FD {k:IntKind} (he:P.underlying e=some (.int k)):Rds P W (cr k) e (fun n=>(Lit.int k n).wf=true):=by
 intro H enc sp fuel cs y h
 obtain ⟨n,h1,_,h3⟩:=DataW.trod_int he h
 exact ⟨n,h1,h3⟩
theorem HG (ht:P.underlying t=some (.slice e)) (hc:P.cellsOf e=E.sz) (hpos:0<E.sz) (he:Rds P W E e ok):Rds P W (eC E) t (fun xs=>xs.length≤maxLen∧∀ x∈xs,ok x):=by
 intro H enc sp fuel cs y h
 rcases DataW.trod_slice ht h with ⟨rfl,_⟩ | ⟨a,len,cap,elems,rest,n,rfl,rfl,_,h1,h2,h3,h4,h5,_,_⟩
 ·exact ⟨[],⟨_,rfl,dc,rfl⟩,by simp,by simp⟩
 ·rw [hc] at h5
  -- each element
  have hel:∀ i,i<len→∃ cs x,W.cells? 0 (a.add (i*E.sz)) E.sz=some cs∧E.rep (eT (hl W)) x cs∧ok x:=by
   intro i hi
   have h6:=h5 i hi
   rw [List.getElem?_eq_getElem omA] at h6
   cases hcs:W.cells? 0 (a.add (i*E.sz)) E.sz with
   | none=>rw [hcs] at h6; cases h6
   | some cs =>
    rw [hcs] at h6
    obtain ⟨x,hx,hok⟩:=he H enc sp n cs _ h6
    exact ⟨cs,x,rfl,hx,hok⟩
  -- all of them
  have hall:∀ m,m≤len→∃ css xs,xs.length=m∧bT (E.rep (eT (hl W))) xs css∧(∀ x∈xs,ok x)∧∀ i cs,css[i]?=some cs→W.cells? 0 (a.add (i*E.sz)) E.sz=some cs:=by
   intro m
   induction m with
   | zero=>intro _; exact ⟨[],[],rfl,bT.nil,by simp,by simp⟩
   | succ m ih =>
    intro hm
    obtain ⟨css,xs,g1,g2,g3,g4⟩:=ih omA
    obtain ⟨cs,x,k1,k2,k3⟩:=hel m omA
    refine ⟨css++[cs],xs++[x],by simp [g1],g2.app (bT.one k2),?_,?_⟩
    ·intro z hz
     rcases List.mem_append.1 hz with hz | hz
     ·exact g3 z hz
     ·simp at hz; subst hz; exact k3
    ·intro i c hi
     have hl:=g2.1
     by_cases hlt:i<css.length
     ·rw [List.getElem?_append_left hlt] at hi
      exact g4 i c hi
     ·rw [List.getElem?_append_right omA] at hi
      have : i=m:=by
       have := (List.getElem?_eq_some_iff.1 hi).1
       simp at this; omega
      subst this
      have e0:i - css.length=0:=by omega
      rw [e0] at hi
      simp at hi; subst hi
      exact k1
  obtain ⟨css,xs,g1,g2,g3,g4⟩:=hall len (Nat.le_refl _)
  have hlen:css.length=len:=by rw [← g2.1]; exact g1
  refine ⟨xs,⟨_,rfl,⟨css,⟨g2.lens,some a,cap,by rw [hlen],by rw [hlen]; exact h2,fun hne=>?_⟩,g2⟩,rfl⟩,by omega,g3⟩
  -- the block
  have h0:0<css.length:=List.length_pos_iff.2 hne
  have hc0:=g4 0 css[0] (List.getElem?_eq_getElem h0)
  have hcell:∀ k x,css.flatten[k]?=some x→W.cell? (a.add k)=some x:=by
   intro k x hk
   obtain ⟨i,o,cs,q1,q2,rfl⟩:=lu g2.lens hk
   have hcs:=g4 i cs q1
   obtain ⟨_,r2,r3⟩:=World.cells?_some hcs
   have ho:o<E.sz:=by
    have := (List.getElem?_eq_some_iff.1 q2).1
    rw [g2.lens cs (List.mem_of_getElem? q1)] at this
    exact this
   have := r3 o ho
   rw [q2] at this
   rw [← this]
   rw [CV]
  obtain ⟨b,off,sp'⟩:=a
  have hf0:css.flatten[0]?=some (css[0][0]'(by rw [g2.lens _ (List.getElem_mem h0)]; exact hpos)):=by
   have := za g2.lens (List.getElem?_eq_getElem h0) (o:=0) (List.getElem?_eq_getElem (by rw [g2.lens _ (List.getElem_mem h0)]; exact hpos))
   simpa using this
  have hA:=hcell 0 _ hf0
  have hsp:sp'=none:=by
   simp only [Addr.add,if_true,World.cell?] at hA
   cases sp' with
   | none=>rfl
   | some s=>revert hA; split <;> simp
  subst hsp
  cases hblk:W.heap[b]? with
  | none=>simp [Addr.add,World.cell?,hblk] at hA
  | some o =>
   cases o with
   | cells c E' fr =>
    refine ⟨b,off,c,E',fr,rfl,hblk,fun k x hk=>?_⟩
    have := hcell k x hk
    rw [gG] at this
    rwa [wZ hblk] at this
   | _=>simp [Addr.add,World.cell?,hblk] at hA
theorem BD {base:Nat} {v:Value} (ht:P.underlying t=some (.slice e)) (h:Value.okWide P W .any base t v):v.cells.toList=[v]:=by
 simp only [Value.okWide,ht,Cell.okWide] at h
 cases v <;> simp_all [Cell.ok,Value.cells]
theorem Rds.ro {ok:List α→Prop} (h:Rds P W (eC E) t ok) {base:Nat} {H:Type} {enc:TypeId×Value→H} {v:Value} {d:DataW H} {ps:List MemPlace} (hu:P.underlying t=some (.slice e)) (hw:Value.okWide P W .any base t v)
  (ht : DataW.Trod enc P W 0 (fun _=>true) true t v d ps):∃ xs,Ro E (hl W) v xs∧ok xs:=by
 obtain ⟨fuel,h1⟩:=ht
 obtain ⟨xs,⟨u,h2,h3,h4⟩,h5⟩:=h H enc _ fuel _ _ h1
 refine ⟨xs,?_,h5⟩
 rw [BD hu hw] at h2
 simp at h2
 rw [h2]; exact h3
theorem Fq {base:Nat} {v:Value} {k:IntKind} (ht:P.underlying t=some (.int k)∨P.underlying t=some .bool∨P.underlying t=some (.float .f64)∨P.underlying t=some .string) (h:Value.okWide P W .any base t v):v.cells.toList=[v]:=by
 rcases ht with ht | ht | ht | ht <;> simp only [Value.okWide,ht,Cell.okWide] at h <;> cases v <;> simp_all [Cell.ok,Value.cells]
theorem Rds.val {ok:α→Prop} (h:Rds P W E t ok) {H:Type} {enc:TypeId×Value→H} {v:Value} {d:DataW H} {ps:List MemPlace}
  (ht : DataW.Trod enc P W 0 (fun _=>true) true t v d ps):∃ x,E.rep (eT (hl W)) x v.cells.toList∧ok x:=by
 obtain ⟨fuel,h1⟩:=ht
 exact h H enc _ fuel _ _ h1
end
theorem dW {S R:Type} {body:S→Option (S ⊕ R)} (st:Nat→S) (n:Nat) (r:R) (hstep:∀ i,i<n→body (st i)=some (.inl (st (i+1)))) (hend:body (st n)=some (.inr r)):bA body (st 0)=some r:=by
 have key:∀ k,k≤n→bA body (st (n - k))=some r:=by
  intro k
  induction k with
  | zero=>intro _; rw [fJ,Nat.sub_zero,hend]; rfl
  | succ k ih =>
   intro hk
   rw [fJ,hstep (n - (k+1)) omA]
   have e:n - (k+1)+1=n - k:=by omega
   rw [e]
   exact ih omA
 simpa using key n (Nat.le_refl n)
theorem qW {S R:Type} {body:S→Option (S ⊕ R)} (Inv:S→Prop) (m:S→Nat) (Q:R→Prop)
  (h : ∀ s,Inv s→(∃ s',body s=some (.inl s')∧Inv s'∧m s'<m s)∨∃ r,body s=some (.inr r)∧Q r):∀ {s:S},Inv s→∃ r,bA body s=some r∧Q r:=by
 have key:∀ k s,m s≤k→Inv s→∃ r,bA body s=some r∧Q r:=by
  intro k
  induction k with
  | zero =>
   intro s hk hs
   rcases h s hs with ⟨s',_,_,h3⟩ | ⟨r,h1,h2⟩
   ·omega
   ·exact ⟨r,by rw [fJ,h1]; rfl,h2⟩
  | succ k ih =>
   intro s hk hs
   rcases h s hs with ⟨s',h1,h2,h3⟩ | ⟨r,h1,h2⟩
   ·obtain ⟨r,h4,h5⟩:=ih s' omA h2
    exact ⟨r,by rw [fJ,h1]; exact h4,h5⟩
   ·exact ⟨r,by rw [fJ,h1]; rfl,h2⟩
 intro s hs
 exact key (m s) s (Nat.le_refl _) hs
theorem wO {α:Type} {xs:List α} (i:Nat):dC xs (i:Int)=xs[i]?:=by simp [dC]
theorem bD {α:Type} {xs:List α} {i:Nat} (h:i<xs.length):dC xs (i:Int)=some xs[i]:=by rw [wO,List.getElem?_eq_getElem h]
theorem room_le {α β:Type} {xs:List α} {ys:List β} (h:xs.length+ys.length≤1073741824):room xs ys=true:=by simpa [room] using h
theorem dl {α:Type} {b:Bool} {x:Option α} (h:b=true):gd b x=x:=by simp [gd,h]
theorem yx {i j:Nat} (h:i+j≤4294967296):IntKind.i64.wrap (jq .u64 (IntKind.u64.wrap (IntKind.i64.wrap ((i:Int)+(j:Int)))) (1:Int))=(((i+j) / 2:Nat):Int):=by
 have e1:IntKind.i64.wrap ((i:Int)+(j:Int))=((i+j:Nat):Int):=wrap_add h
 have e2:IntKind.u64.wrap (((i+j:Nat):Int))=((i+j:Nat):Int):=jV omA omA
 rw [e1,e2]
 have e3:jq .u64 (((i+j:Nat):Int)) (1:Int)=(((i+j) / 2:Nat):Int):=by
  unfold jq
  rw [show (2:Int) ^ (min (Int.toNat 1) IntKind.u64.bits)=2 from by decide,Int.fdiv_eq_ediv_of_nonneg _ omA]
  omega
 rw [e3,wrap_i64] <;> omega
theorem uG {α:Type} {p:α→Bool}:∀ {l:List α} {k:Nat},k≤l.length→(∀ a (h:a<l.length),a<k→p l[a]=true)→(∀ (h:k<l.length),p l[k]=false)→(l.takeWhile p).length=k
 | [],k,hk,_,_=>by simp at hk; simp [hk]
 | x::l,0,_,_,h2=>by
  have := h2 siA
  simp only [List.getElem_cons_zero] at this
  simp [this]
 | x::l,k+1,hk,h1,h2=>by
  have h0:=h1 0 siA omA
  simp only [List.getElem_cons_zero] at h0
  rw [List.takeWhile_cons,h0]
  simp only [if_true,List.length_cons]
  rw [uG (l:=l) (k:=k) (by simpa using hk) (fun a ha hak=>by
   have := h1 (a+1) (by simpa using ha) omA
   simpa using this) (fun h=>by
   have := h2 (by simpa using h)
   simpa using this)]
def lb {α:Type} (p:α→Bool) (l:List α):Nat:=(l.takeWhile p).length
def Ahd {α:Type} (p:α→Bool) (l:List α):Prop:=∀ a b (ha:a<l.length) (hb:b<l.length),a<b→p l[b]=true→p l[a]=true
theorem Ce {α:Type} (p:α→Bool) (l:List α):lb p l≤l.length:=(List.takeWhile_prefix p).length_le
theorem Jc {α:Type} {p:α→Bool} {l:List α} {a:Nat} (h:a<lb p l):p (l[a]'(Nat.lt_of_lt_of_le h (Ce p l)))=true:=by
 have hl:a<(l.takeWhile p).length:=h
 have e:(l.takeWhile p)[a]=l[a]'(Nat.lt_of_lt_of_le h (Ce p l)):=(List.takeWhile_prefix p).getElem hl
 rw [← e]
 exact List.all_eq_true.1 (List.all_takeWhile (p:=p) (l:=l)) _ (List.getElem_mem hl)
theorem HZ {α:Type} {p:α→Bool}:∀ {l:List α} {x:α},l[lb p l]?=some x→p x=false
 | [],x,h=>by simp at h
 | y::l,x,h=>by
  cases hy:p y with
  | false =>
   have e:lb p (y::l)=0:=by simp [lb,hy]
   rw [e] at h
   simp at h; subst h; exact hy
  | true =>
   have e:lb p (y::l)=lb p l+1:=by simp [lb,hy]
   rw [e] at h
   exact HZ (l:=l) (by simpa using h)
theorem It {α:Type} {p:α→Bool} {l:List α} (h:lb p l<l.length):p l[lb p l]=false:=HZ (List.getElem?_eq_getElem h)
theorem uB {α R:Type} {L:Int×Int→Option ((Int×Int) ⊕ Int)} (l:List α) (p:α→Bool) (hn:l.length≤1073741824) (hp:Ahd p l)
  (h1 : ∀ (i j k:Nat) (hk:k<l.length),i<j→k=(i+j) / 2→j≤l.length→L ((j:Int),(i:Int))=some (.inl (bif p l[k] then ((j:Int),((k+1:Nat):Int)) else ((k:Int),(i:Int)))))
  (h2 : ∀ i j:Nat,¬ i<j→L ((j:Int),(i:Int))=some (.inr (i:Int))):bA L ((l.length:Int),(0:Int))=some ((lb p l:Nat):Int):=by
 have key:=qW (body:=L) (Inv:=fun s=>∃ i j:Nat,s=((j:Int),(i:Int))∧i≤j∧j≤l.length∧(∀ a (h:a<l.length),a<i→p l[a]=true)∧(∀ a (h:a<l.length),j≤a→p l[a]=false))
  (m := fun s=>(s.1 - s.2).toNat) (Q:=fun r=>r=((lb p l:Nat):Int)) (fun s hs=>by
   obtain ⟨i,j,rfl,g1,g2,g3,g4⟩:=hs
   by_cases hij:i<j
   ·have hk:(i+j) / 2<l.length:=by omega
    refine .inl ⟨_,h1 i j _ hk hij rfl g2,?_,?_⟩
    ·cases hb:p l[(i+j) / 2] with
     | true =>
      refine ⟨(i+j) / 2+1,j,rfl,by omega,g2,fun a ha hak=>?_,g4⟩
      by_cases e:a=(i+j) / 2
      ·subst e; exact hb
      ·exact hp a _ ha hk omA hb
     | false =>
      refine ⟨i,(i+j) / 2,rfl,by omega,by omega,g3,fun a ha hak=>?_⟩
      by_cases e:a=(i+j) / 2
      ·subst e; exact hb
      ·cases hc:p l[a] with
       | false=>rfl
       | true=>rw [hp _ a hk ha omA hc] at hb; cases hb
    ·cases hb:p l[(i+j) / 2] with
     | true=>simp only [cond_true]; omega
     | false=>simp only [cond_false]; omega
   ·refine .inr ⟨_,h2 i j hij,?_⟩
    have hij':i=j:=by omega
    subst hij'
    rw [show lb p l=i from uG g2 g3 fun h=>g4 i h (Nat.le_refl _)]) (s:=((l.length:Int),(0:Int))) ⟨0,l.length,rfl,by omega,by omega,fun a _ h=>by omega,fun a h1 h2=>by omega⟩
 obtain ⟨r,h3,h4⟩:=key
 rw [h3,h4]
theorem gh {i n:Nat} (h:i<n):decide ((i:Int)<(n:Int))=true:=by simpa using h
theorem zF (n:Nat):decide ((n:Int)<(n:Int))=false:=by simp
theorem cm {i:Nat} (h:i≤4294967295):IntKind.i64.wrap ((i:Int)+(1:Int))=((i+1:Nat):Int):=wrap_add (a:=i) (b:=1) omA
theorem gC {α:Type} {xs:List α} {x:α} (h:xs.length≤1073741823):room xs [x]=true:=room_le (by simp only [List.length_cons,List.length_nil]; omega)
section
variable {α β R:Type}
theorem yg {body:Int→Option (Int ⊕ R)} (l:List α) (q:α→Bool) (f:Nat→α→R) (no:R)
  (h1 : ∀ (i:Nat) (h:i<l.length),body (i:Int)=some (bif q l[i] then .inr (f i l[i]) else .inl ((i+1:Nat):Int)))
  (h2 : body (l.length:Int)=some (.inr no)):∃ r,bA body (0:Int)=some r∧((∃ (i:Nat) (h:i<l.length),q l[i]=true∧(∀ (j:Nat) (hj:j<i),q (l[j]'omA)=false)∧r=f i l[i])∨((∀ x∈l,q x=false)∧r=no)):=by
 have h:=qW (body:=body) (Inv:=fun s=>∃ i:Nat,s=(i:Int)∧i≤l.length∧∀ (j:Nat) (hj:j<l.length),j<i→q l[j]=false) (m:=fun s=>((l.length:Int) - s).toNat)
  (Q := fun r=>(∃ (i:Nat) (h:i<l.length),q l[i]=true∧(∀ (j:Nat) (hj:j<i),q (l[j]'omA)=false)∧r=f i l[i])∨((∀ x∈l,q x=false)∧r=no)) (fun s hs=>by
   obtain ⟨i,rfl,h3,h4⟩:=hs
   by_cases hi:i<l.length
   ·cases hq:q l[i] with
    | true=>exact .inr ⟨_,by rw [h1 i hi,hq,cond_true],.inl ⟨i,hi,hq,fun j hj=>h4 j omA hj,rfl⟩⟩
    | false =>
     refine .inl ⟨_,by rw [h1 i hi,hq,cond_false],⟨i+1,rfl,hi,fun j hj hji=>?_⟩,by omega⟩
     by_cases e:j=i
     ·subst e; exact hq
     ·exact h4 j hj omA
   ·have e:i=l.length:=by omega
    subst e
    refine .inr ⟨_,h2,.inr ⟨fun x hx=>?_,rfl⟩⟩
    obtain ⟨j,hj,rfl⟩:=List.mem_iff_getElem.1 hx
    exact h4 j hj hj) (s:=(0:Int)) ⟨0,rfl,Nat.zero_le _,fun j _ h=>by omega⟩
 exact h
theorem rH {body:Int→Option (Int ⊕ R)} (l:List α) (q:α→Bool) (yes no:R)
  (h1 : ∀ (i:Nat) (h:i<l.length),body (i:Int)=some (bif q l[i] then .inr yes else .inl ((i+1:Nat):Int)))
  (h2 : body (l.length:Int)=some (.inr no)):bA body (0:Int)=some (bif l.any q then yes else no):=by
 obtain ⟨r,h3,h4⟩:=yg l q (fun _ _=>yes) no h1 h2
 rw [h3]
 rcases h4 with ⟨i,hi,hq,_,rfl⟩ | ⟨hall,rfl⟩
 ·have : l.any q=true:=List.any_eq_true.2 ⟨l[i],List.getElem_mem hi,hq⟩
  rw [this]; rfl
 ·have : l.any q=false:=List.any_eq_false.2 fun x hx=>by rw [hall x hx]; simp
  rw [this]; rfl
theorem yL {body:Int→Option (Int ⊕ Int)} (l:List α) (q:α→Bool)
  (h1 : ∀ (i:Nat) (h:i<l.length),body (i:Int)=some (bif q l[i] then .inr (i:Int) else .inl ((i+1:Nat):Int)))
  (h2 : body (l.length:Int)=some (.inr (-1))):∃ z,bA body (0:Int)=some z∧decide (z≥(0:Int))=l.any q:=by
 obtain ⟨r,h3,h4⟩:=yg l q (fun i _=>(i:Int)) (-1) h1 h2
 refine ⟨r,h3,?_⟩
 rcases h4 with ⟨i,hi,hq,_,rfl⟩ | ⟨hall,rfl⟩
 ·have : l.any q=true:=List.any_eq_true.2 ⟨l[i],List.getElem_mem hi,hq⟩
  rw [this]; simp
 ·have : l.any q=false:=List.any_eq_false.2 fun x hx=>by rw [hall x hx]; simp
  rw [this]; rfl
theorem Cv {body:Int→Option (Int ⊕ R)} (l:List α) (q:α→Bool) (f:α→R) (no:R)
  (h1 : ∀ (i:Nat) (h:i<l.length),body (i:Int)=some (bif q l[i] then .inr (f l[i]) else .inl ((i+1:Nat):Int)))
  (h2 : body (l.length:Int)=some (.inr no)):bA body (0:Int)=some (match l.find? q with | some x=>f x | none=>no):=by
 obtain ⟨r,h3,h4⟩:=yg l q (fun _ x=>f x) no h1 h2
 rw [h3]
 rcases h4 with ⟨i,hi,hq,hj,rfl⟩ | ⟨hall,rfl⟩
 ·have : l.find? q=some l[i]:=List.find?_eq_some_iff_getElem.2 ⟨hq,i,hi,rfl,fun j hji=>by rw [hj j hji]; rfl⟩
  rw [this]
 ·have : l.find? q=none:=List.find?_eq_none.2 fun x hx=>by rw [hall x hx]; simp
  rw [this]
theorem nZ {body:List β×Int→Option ((List β×Int) ⊕ R)} (l:List α) (q:α→Bool) (f:α→β) (fin:List β→R)
  (h1 : ∀ (i:Nat) (h:i<l.length) (out:List β),out.length≤i→body (out,(i:Int))=some (.inl (bif q l[i] then out++[f l[i]] else out,((i+1:Nat):Int))))
  (h2 : ∀ out:List β,out.length≤l.length→body (out,(l.length:Int))=some (.inr (fin out))):bA body ([],(0:Int))=some (fin ((l.filter q).map f)):=by
 have hb:∀ i,(((l.take i).filter q).map f).length≤i:=fun i=>by
  rw [List.length_map]
  have := List.length_filter_le q (l.take i)
  rw [List.length_take] at this; omega
 have h:=dW (body:=body) (fun i=>(((l.take i).filter q).map f,(i:Int))) l.length (fin ((l.filter q).map f)) (fun i hi=>by
  rw [h1 i hi _ (hb i),List.take_succ_eq_append_getElem hi,List.filter_append,List.map_append]
  congr 3
  cases hq:q l[i] <;> simp [hq]) (by
  have := h2 ((l.filter q).map f) (by have:=hb l.length; rwa [List.take_length] at this)
  rw [List.take_length]; exact this)
 simpa using h
end
section
variable {α:Type} {k:α→Int}
def iF (k:α→Int) (l:List α):Prop:=l.Pairwise fun a b=>k a<k b
def lo (k:α→Int) (s:Int) (x:α):Bool:=decide (k x<s)
theorem iF.lt {l:List α} (h:iF k l) {a b:Nat} (ha:a<l.length) (hb:b<l.length) (hab:a<b):k l[a]<k l[b]:=List.pairwise_iff_getElem.1 h a b ha hb hab
theorem iF.ahd {l:List α} (h:iF k l) (s:Int):Ahd (lo k s) l:=fun a b ha hb hab hp=>by
 have := h.lt ha hb hab
 simp only [lo,decide_eq_true_eq] at hp ⊢
 omega
def pl (k:α→Int) (s:Int) (l:List α):Nat:=lb (lo k s) l
def hit (k:α→Int) (s:Int) (l:List α):Bool:=match l[pl k s l]? with | some x=>k x==s | none=>false
theorem ze (k:α→Int) (s:Int) (l:List α):pl k s l≤l.length:=Ce _ _
theorem FG {s:Int} {l:List α} {a:Nat} (h:a<l.length) (hp:a<pl k s l):k l[a]<s:=by
 have := Jc (p:=lo k s) (l:=l) hp
 simpa [lo] using this
theorem Gl {s:Int} {l:List α} (hr:iF k l) {a:Nat} (h:a<l.length) (hp:pl k s l≤a):s≤k l[a]:=by
 have hpl:pl k s l<l.length:=by omega
 have h1:lo k s l[pl k s l]=false:=It (p:=lo k s) (l:=l) hpl
 have h2:s≤k l[pl k s l]:=by simpa [lo] using h1
 rcases Nat.eq_or_lt_of_le hp with e | e
 ·subst e; exact h2
 ·have := hr.lt hpl h e
  omega
def jK (k:α→Int) (s:Int) (l:List α):Option α:=bif hit k s l then l[pl k s l]? else none
theorem my {s:Int} {l:List α} (h:hit k s l=true):∃ hk:pl k s l<l.length,k l[pl k s l]=s∧jK k s l=some l[pl k s l]:=by
 unfold jK
 rw [h,cond_true]
 unfold hit at h
 cases e:l[pl k s l]? with
 | none=>rw [e] at h; cases h
 | some x =>
  rw [e] at h
  obtain ⟨hk,hx⟩:=List.getElem?_eq_some_iff.1 e
  exact ⟨hk,by rw [hx]; exact eq_of_beq h,by rw [hx]⟩
theorem MK {l:List α} (hr:iF k l) {a:Nat} (ha:a<l.length):pl k (k l[a]) l=a:=by
 have h1:pl k (k l[a]) l≤a:=by
  rcases Nat.lt_or_ge a (pl k (k l[a]) l) with h | h
  ·have := FG ha h; omega
  ·exact h
 have hk:pl k (k l[a]) l<l.length:=by omega
 rcases Nat.eq_or_lt_of_le h1 with h | h
 ·exact h
 ·have h3:=hr.lt hk ha h
  have h4:=Gl (s:=k l[a]) hr hk (Nat.le_refl _)
  omega
theorem nk {s:Int} {l:List α} (hr:iF k l) {x:α}:jK k s l=some x↔x∈l∧k x=s:=by
 constructor
 ·intro h
  cases hh:hit k s l with
  | false=>simp [jK,hh] at h
  | true =>
   obtain ⟨hk,h1,h2⟩:=my hh
   rw [h2] at h
   cases h
   exact ⟨List.getElem_mem hk,h1⟩
 ·rintro ⟨hx,hs⟩
  obtain ⟨a,ha,rfl⟩:=List.mem_iff_getElem.1 hx
  subst hs
  have h2:=MK hr ha
  have hh:hit k (k l[a]) l=true:=by
   unfold hit
   rw [h2,List.getElem?_eq_getElem ha]
   simp
  unfold jK
  rw [hh,cond_true,h2,List.getElem?_eq_getElem ha]
theorem zo {s:Int} {l:List α} (hr:iF k l):jK k s l=none↔∀ x∈l,k x≠s:=by
 constructor
 ·intro h x hx hs
  rw [(nk hr).2 ⟨hx,hs⟩] at h; cases h
 ·intro h
  cases e:jK k s l with
  | none=>rfl
  | some x=>exact absurd ((nk hr).1 e).2 (h x ((nk hr).1 e).1)
theorem Io (s:Int) (l:List α):hit k s l=(jK k s l).isSome:=by
 cases h:hit k s l with
 | false=>simp [jK,h]
 | true=>obtain ⟨_,_,e⟩:=my h; rw [e]; rfl
def pr (k:α→Int) (s:Int) (l:List α):Nat:=bif hit k s l then pl k s l+1 else pl k s l
def mZ (k:α→Int) (l:List α) (x:α):List α:=l.take (pl k (k x) l)++x::l.drop (pr k (k x) l)
def rU (k:α→Int) (s:Int) (l:List α):List α:=l.take (pl k s l)++l.drop (pr k s l)
theorem Gi {s:Int} {l:List α}:∀ x∈l.take (pl k s l),k x<s:=by
 intro x hx
 obtain ⟨a,ha,rfl⟩:=List.mem_iff_getElem.1 hx
 rw [List.getElem_take]
 rw [List.length_take] at ha
 exact FG omA omA
theorem CJ {s:Int} {l:List α} (hr:iF k l):∀ x∈l.drop (pr k s l),s<k x:=by
 intro x hx
 obtain ⟨a,ha,rfl⟩:=List.mem_iff_getElem.1 hx
 rw [List.length_drop] at ha
 rw [List.getElem_drop]
 have hlt:pr k s l+a<l.length:=by omega
 cases hh:hit k s l with
 | true =>
  obtain ⟨hk,h1,h2⟩:=my hh
  have e:pr k s l=pl k s l+1:=by simp [pr,hh]
  have := hr.lt hk hlt omA
  omega
 | false =>
  have e:pr k s l=pl k s l:=by simp [pr,hh]
  have h1:=Gl (s:=s) hr hlt omA
  have h2:k l[pr k s l+a]≠s:=fun h=>by
   have : jK k s l=none:=by simp [jK,hh]
   exact (zo hr).1 this _ (List.getElem_mem hlt) h
  omega
theorem tH {l:List α} (hr:iF k l) (x:α):iF k (mZ k l x):=by
 have h1:iF k (l.take (pl k (k x) l)):=List.Pairwise.sublist (List.take_sublist _ _) hr
 have h2:iF k (l.drop (pr k (k x) l)):=List.Pairwise.sublist (List.drop_sublist _ _) hr
 refine List.pairwise_append.2 ⟨h1,List.pairwise_cons.2 ⟨CJ hr,h2⟩,fun a ha b hb=>?_⟩
 have h3:=Gi a ha
 rcases List.mem_cons.1 hb with rfl | hb
 ·exact h3
 ·have := CJ hr b hb; omega
theorem lW {s:Int} {l:List α} (hr:iF k l):l.filter (fun x=>k x !=s)=rU k s l:=by
 unfold rU
 have h1:(l.take (pl k s l)).filter (fun x=>k x !=s)=l.take (pl k s l):=List.filter_eq_self.2 fun x hx=>by have:=Gi x hx; simp; omega
 have h2:(l.drop (pr k s l)).filter (fun x=>k x !=s)=l.drop (pr k s l):=List.filter_eq_self.2 fun x hx=>by have:=CJ hr x hx; simp; omega
 cases hh:hit k s l with
 | false =>
  have e:pr k s l=pl k s l:=by simp [pr,hh]
  rw [e] at h2 ⊢
  conv => lhs; rw [← List.take_append_drop (pl k s l) l]
  rw [List.filter_append,h1,h2]
 | true =>
  obtain ⟨hk,h3,h4⟩:=my hh
  have e:pr k s l=pl k s l+1:=by simp [pr,hh]
  rw [e] at h2 ⊢
  conv => lhs; rw [← List.take_append_drop (pl k s l) l]
  rw [List.filter_append,h1,List.drop_eq_getElem_cons hk,List.filter_cons,h2]
  simp [h3]
theorem BN {l:List α} (hr:iF k l) (s:Int):iF k (rU k s l):=by
 rw [← lW hr]; exact List.Pairwise.sublist List.filter_sublist hr
theorem sl {l:List α} (hr:iF k l) (x:α):(mZ k l x).Perm (x::l.filter (fun y=>k y !=k x)):=by
 rw [lW hr]
 exact List.perm_middle
theorem lx {l:List α} (hr:iF k l) (x y:α):y∈mZ k l x↔y=x∨(y∈l∧k y≠k x):=by
 rw [(sl hr x).mem_iff,List.mem_cons,List.mem_filter]
 simp
theorem wS {l:List α} (hr:iF k l) (x:α):(mZ k l x).length≤l.length+1:=by
 rw [(sl hr x).length_eq,List.length_cons]
 have := List.length_filter_le (fun y:α=>k y !=k x) l
 omega
theorem Bn {l:List α} (hr:iF k l) (s:Int):(rU k s l).length≤l.length:=by
 rw [← lW hr]; exact List.length_filter_le _ _
theorem Es:∀ {l m:List α},iF k l→iF k m→(∀ x,x∈l↔x∈m)→l=m
 | [],[],_,_,_=>rfl
 | [],y::m,_,_,h=>by have:=(h y).2 siA; cases this
 | x::l,[],_,_,h=>by have:=(h x).1 siA; cases this
 | x::l,y::m,hl,hm,h=>by
  obtain ⟨l1,l2⟩:=List.pairwise_cons.1 hl
  obtain ⟨m1,m2⟩:=List.pairwise_cons.1 hm
  have e:x=y:=by
   rcases List.mem_cons.1 ((h x).1 siA) with e | e
   ·exact e
   ·rcases List.mem_cons.1 ((h y).2 siA) with e2 | e2
    ·exact e2.symm
    ·have := l1 y e2; have:=m1 x e; omega
  subst e
  rw [Es l2 m2 fun z=>⟨fun hz=>?_,fun hz=>?_⟩]
  ·rcases List.mem_cons.1 ((h z).1 (by simp [hz])) with e | e
   ·subst e; have:=l1 z hz; omega
   ·exact e
  ·rcases List.mem_cons.1 ((h z).2 (by simp [hz])) with e | e
   ·subst e; have:=m1 z hz; omega
   ·exact e
theorem tX:iF k []:=List.Pairwise.nil
theorem Al {l:List α} {x:α} (h:hit k (k x) l=true):l.set (pl k (k x) l) x=mZ k l x:=by
 obtain ⟨hk,_,_⟩:=my h
 unfold mZ
 have e:pr k (k x) l=pl k (k x) l+1:=by simp [pr,h]
 rw [e,List.set_eq_take_append_cons_drop,if_pos hk]
theorem wQ {l:List α} {x:α} (h:hit k (k x) l=false):ins l ((pl k (k x) l:Nat):Int) [x]=mZ k l x:=by
 unfold mZ ins
 have e:pr k (k x) l=pl k (k x) l:=by simp [pr,h]
 rw [e,Int.toNat_natCast]; rfl
theorem wj {l:List α} {x:α} (s:Int) (hl:l.length≤1073741823):tk l ((pl k s l:Nat):Int) [x]=true:=by
 have := ze k s l
 simp only [tk,room,List.length_cons,List.length_nil]
 simp; omega
theorem Gf {l:List α} {s:Int} (h:hit k s l=true):del l ((pl k s l:Nat):Int) ((pl k s l+1:Nat):Int)=rU k s l:=by
 unfold rU del
 have e:pr k s l=pl k s l+1:=by simp [pr,h]
 rw [e,Int.toNat_natCast,Int.toNat_natCast]
end
def cnt (n:Nat) (f:Nat→Bool):Nat:=((List.range n).filter f).length
def msk (m:Nat):Nat→Nat
 | 0=>0
 | k+1=>m+256*msk m k
def S1 (k x:Nat):Nat:=((x >>> 1) &&& msk 0x55 k)+(x &&& msk 0x55 k)
def S2 (k x:Nat):Nat:=((x >>> 2) &&& msk 0x33 k)+(x &&& msk 0x33 k)
def S3 (k x:Nat):Nat:=((x >>> 4)+x) &&& msk 0x0f k
def c1 (b:Nat):Nat:=((b >>> 1) &&& 0x55)+(b &&& 0x55)
def c2 (b:Nat):Nat:=((b >>> 2) &&& 0x33)+(b &&& 0x33)
def P (k x:Nat):Nat:=S3 k (S2 k (S1 k x))
def o1 (a:Int):Int:=IntKind.u64.wrap ((Jm .u64 (jq .u64 a (1:Int)) (6148914691236517205:Int))+(Jm .u64 a (6148914691236517205:Int)))
def o2 (a:Int):Int:=IntKind.u64.wrap ((Jm .u64 (jq .u64 a (2:Int)) (3689348814741910323:Int))+(Jm .u64 a (3689348814741910323:Int)))
def o3 (a:Int):Int:=Jm .u64 (IntKind.u64.wrap ((jq .u64 a (4:Int))+a)) (1085102592571150095:Int)
def o4 (k a:Int):Int:=IntKind.u64.wrap (a+jq .u64 a k)
def zI (x:Int):Prop:=0≤x∧x<256
def leB (n v:Nat):List Int:=(List.range n).map fun i=>((v / 256 ^ i%256:Nat):Int)
def vW:List Int→Nat
 | []=>0
 | x::xs=>x.toNat+256*vW xs
theorem dA (n v:Nat):(leB n v).length=n:=by simp [leB]
theorem Ds (n v:Nat):leB (n+1) v=leB n v++[((v / 256 ^ n%256:Nat):Int)]:=by simp [leB,List.range_succ]
theorem Ia {n v:Nat}:∀ x∈leB n v,zI x:=by
 intro x hx
 simp only [leB,List.mem_map] at hx
 obtain ⟨i,_,rfl⟩:=hx
 have : v / 256 ^ i%256<256:=Nat.mod_lt _ deA
 exact ⟨by omega,by omega⟩
theorem Cs (xs:List Int) (x:Int):vW (xs++[x])=vW xs+256 ^ xs.length*x.toNat:=by
 induction xs with
 | nil=>simp [vW]
 | cons y ys ih =>
  simp only [List.cons_append,vW,ih,List.length_cons,Nat.pow_succ]
  rw [Nat.mul_add,← Nat.mul_assoc,Nat.mul_comm 256 (256 ^ ys.length)]
  omega
theorem KP {xs:List Int} (h:∀ x∈xs,zI x):vW xs<256 ^ xs.length:=by
 induction xs with
 | nil=>simp [vW]
 | cons y ys ih =>
  have h1:=ih fun x hx=>h x (by simp [hx])
  have h2:=h y siA
  simp only [vW,List.length_cons,Nat.pow_succ]
  obtain ⟨h3,h4⟩:=h2
  omega
theorem Jn (n v:Nat):vW (leB n v)=v%256 ^ n:=by
 induction n with
 | zero=>simp [leB,vW,Nat.mod_one]
 | succ n ih =>
  rw [Ds,Cs,ih,dA,Int.toNat_natCast]
  rw [Nat.mod_pow_succ]
theorem El {n v:Nat} (h:v<256 ^ n):vW (leB n v)=v:=by rw [Jn,Nat.mod_eq_of_lt h]
theorem CX (i:Nat):(256:Nat) ^ i=2 ^ (8*i):=by rw [Nat.pow_mul]
theorem Kw {acc i x:Nat} (h:acc<256 ^ i) (hx:x<256) (hi:i<8):bOr .u64 (acc:Int) (Hq .u64 (x:Int) ((8*i:Nat):Int))=((acc+256 ^ i*x:Nat):Int):=by
 have h8:(256:Nat) ^ i≤256 ^ 7:=Nat.pow_le_pow_right deA omA
 have e8:(256:Nat) ^ 7=72057594037927936:=by decide
 have hb:256 ^ i*x<18446744073709551616:=by
  have : 256 ^ i*x≤256 ^ 7*255:=Nat.mul_le_mul h8 omA
  rw [e8] at this; omega
 have hs:256 ^ i*x+256 ^ i≤18446744073709551616:=by
  have : 256 ^ i*(x+1)≤256 ^ 7*256:=Nat.mul_le_mul h8 omA
  rw [e8] at this
  rw [Nat.mul_add] at this; omega
 have h1:Hq .u64 (x:Int) ((8*i:Nat):Int)=((256 ^ i*x:Nat):Int):=by
  unfold Hq
  have e:min (((8*i:Nat):Int).toNat) IntKind.u64.bits=8*i:=by
   rw [Int.toNat_natCast]
   show min (8*i) 64=8*i
   omega
  have e2:(x:Int)*2 ^ (8*i)=((256 ^ i*x:Nat):Int):=by
   rw [CX]
   push_cast
   exact Int.mul_comm _ _
  rw [e,e2,jV] <;> omega
 rw [h1,Ld,uL,uL]
 have h2:(BitVec.ofNat 64 acc ||| BitVec.ofNat 64 (256 ^ i*x)).toNat=acc+256 ^ i*x:=by
  rw [BitVec.toNat_or,BitVec.toNat_ofNat,BitVec.toNat_ofNat]
  have e:2 ^ 64=18446744073709551616:=by decide
  rw [e,Nat.mod_eq_of_lt omA,Nat.mod_eq_of_lt hb,Nat.or_comm,CX,← Nat.two_pow_add_eq_or_of_lt (by rw [← CX]; exact h)]
  omega
 rw [h2,jV] <;> omega
theorem JA (v i:Nat) (hi:i<8):IntKind.u8.wrap (jq .u64 (v:Int) ((8*i:Nat):Int))=((v / 256 ^ i%256:Nat):Int):=by
 unfold jq
 have e:min (((8*i:Nat):Int).toNat) IntKind.u64.bits=8*i:=by
  rw [Int.toNat_natCast]
  show min (8*i) 64=8*i
  omega
 have e2:((2:Int) ^ (8*i))=((256 ^ i:Nat):Int):=by
  rw [CX]; push_cast; rfl
 rw [e,e2,Int.fdiv_eq_ediv_of_nonneg _ (Int.natCast_nonneg _),AH]
 rw [← Int.natCast_ediv]
 exact (Int.natCast_emod _ 256).symm
theorem DS (x:ByteArray):∀ (n i:Nat) (r:List UInt8),x.size - i=n→ByteArray.toList.loop x i r=r.reverse++x.data.toList.drop i:=by
 intro n
 induction n with
 | zero =>
  intro i r h
  rw [ByteArray.toList.loop]
  have : ¬ i<x.size:=by omega
  rw [if_neg this]
  have hl:x.data.toList.length≤i:=by
   have : x.data.toList.length=x.size:=Array.length_toList
   omega
  rw [List.drop_eq_nil_of_le hl,List.append_nil]
 | succ n ih =>
  intro i r h
  rw [ByteArray.toList.loop]
  have hi:i<x.size:=by omega
  have hl:i<x.data.toList.length:=by rw [Array.length_toList]; exact hi
  rw [if_pos hi,ih (i+1) _ omA,List.reverse_cons,List.append_assoc,List.drop_eq_getElem_cons hl]
  have hg:x.get! i=x.data.toList[i]:=by
   have : i<x.data.size:=hi
   show x.data[i]! = _
   rw [getElem!_pos x.data i this,Array.getElem_toList]
  rw [hg]; rfl
theorem zU (x:ByteArray):x.toList=x.data.toList:=by
 rw [ByteArray.toList,DS x x.size 0 [] omA]; simp
theorem AJ (xs:List Int):(ly xs).data.toList=xs.map fun n=>UInt8.ofNat n.toNat:=by
 have key:∀ (xs:List Int) (s:ByteArray),(xs.foldl (fun s n=>s.push (UInt8.ofNat n.toNat)) s).data.toList=s.data.toList++xs.map fun n=>UInt8.ofNat n.toNat:=by
  intro xs
  induction xs with
  | nil=>intro s; simp
  | cons x xs ih=>intro s; rw [List.foldl_cons,ih]; simp [ByteArray.push]
 rw [ly,key]; simp
theorem Hh {a b:List Int} (ha:∀ x∈a,zI x) (hb:∀ x∈b,zI x):sEq (ly a) (ly b)=decide (a=b):=by
 unfold sEq
 rw [zU,zU,AJ,AJ]
 have inj:∀ {a b:List Int},(∀ x∈a,zI x)→(∀ x∈b,zI x)→(a.map fun n=>UInt8.ofNat n.toNat)=(b.map fun n=>UInt8.ofNat n.toNat)→a=b:=by
  intro a
  induction a with
  | nil=>intro b _ _ h; cases b with
   | nil=>rfl
   | cons=>simp at h
  | cons x a ih =>
   intro b ha hb h
   cases b with
   | nil=>simp at h
   | cons y b =>
    simp only [List.map_cons,List.cons.injEq] at h
    have h1:=ha x siA
    have h2:=hb y siA
    have h3:=congrArg UInt8.toNat h.1
    simp only [UInt8.toNat_ofNat'] at h3
    obtain ⟨a1,a2⟩:=h1
    obtain ⟨b1,b2⟩:=h2
    have e1:(2:Nat) ^ 8=256:=by decide
    rw [e1] at h3
    have : x=y:=by omega
    rw [this,ih (fun x hx=>ha x (by simp [hx])) (fun x hx=>hb x (by simp [hx])) h.2]
 by_cases h:a=b
 ·subst h; simp
 ·have : ¬ (a.map fun n=>UInt8.ofNat n.toNat)=(b.map fun n=>UInt8.ofNat n.toNat):=fun e=>h (inj ha hb e)
  simp [h,this]
theorem sr (x:ByteArray):sEq x x=true:=by simp [sEq]
end Go.V
