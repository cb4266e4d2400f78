/-
  A part of a proof about the given program; what is proved is said where each theorem stands.
-/
import Derived.Test.YtiejbbcpihpgpaaGreatDoorPartE
namespace Go.Proofs
end Go.Proofs
set_option linter.unusedSimpArgs false
set_option linter.unusedVariables false
set_option maxRecDepth 100000
set_option maxHeartbeats 2000000
namespace Go.Proofs.YtiejbbcpihpgpaaGreatDoor.Ab
open Go.Proofs
@[simp] abbrev dL.c (x:dL):List C:=[.d (.str x.dM),.d (.int .i64 x.jO),.d (.slc 4 (dC x.fU))]
@[simp] abbrev dL.o (x:dL):List C:=[.d (.str x.dM),.d (.int .i64 x.jO),.own 1 4 (dC x.fU)]
def bL (l:List dL):List (List D):=l.map dL.row
@[simp] theorem aMs (l:List dL):(bL l).length=l.length:=by simp [bL]
@[simp] theorem aUZ (l:List dL) (i:Nat):(bL l)[i]?=(l[i]?).map dL.row:=by simp [bL]
def dL.cost (x:dL):Nat:=x.dM.length+(x.fU.length+dF eK.cost x.fU)
def dL.ok (x:dL):Prop:=x.dM.length<=maxLen/\aX x.jO/\x.fU.length<=maxLen/\(∀ y,y∈x.fU->y.ok)
structure rX where
 iF:List dL
 deriving DecidableEq
@[simp] abbrev rX.row (x:rX):List D:=[.slc 3 (bL x.iF)]
@[simp] abbrev rX.c (x:rX):List C:=[.d (.slc 3 (bL x.iF))]
@[simp] abbrev rX.o (x:rX):List C:=[.own 2 3 (bL x.iF)]
def rX.cost (x:rX):Nat:=(x.iF.length+dF dL.cost x.iF)
def rX.ok (x:rX):Prop:=x.iF.length<=maxLen/\(∀ y,y∈x.iF->y.ok)
structure xA where
 oH:List UInt8
 jF:List UInt8
 deriving DecidableEq
@[simp] abbrev xA.row (x:xA):List D:=[.slc 1 (aB x.oH),.slc 1 (aB x.jF)]
@[simp] abbrev xA.c (x:xA):List C:=[.d (.slc 1 (aB x.oH)),.d (.slc 1 (aB x.jF))]
@[simp] abbrev xA.o (x:xA):List C:=[.own 0 1 (aB x.oH),.own 0 1 (aB x.jF)]
def xA.cost (x:xA):Nat:=x.oH.length+x.jF.length
def xA.ok (x:xA):Prop:=x.oH.length<=maxLen/\x.jF.length<=maxLen
structure aV where
 aD:aS
 iJ:List dE
 lI:List fM
 nB:rX
 gS:dZ
 iA:eB
 gY:xA
 jK:Int
 deriving DecidableEq
@[simp] abbrev aV.row (x:aV):List D:=[.int .i64 x.aD.cT,.int .i64 x.aD.bJ,.int .i64 x.aD.fL,.slc 7 (cA x.aD.aE.aG),.slc 6 (bG x.aD.bA.aP),.slc 2 (dG x.aD.bT.bE),.int .i64 x.aD.bT.gT,.int .i64 x.aD.bT.bF,.slc 3 (gM x.aD.bO.cF),.slc 2 (dW x.aD.bI),.slc 2 (cV x.iJ),.slc 4 (kP x.lI),.slc 3 (bL x.nB.iF),.int .i64 x.gS.jK,.int .i64 x.gS.bJ,.slc 6 (jA x.gS.cS),.int .i64 x.iA.jO,.int .i64 x.iA.sN,.slc 7 (fD x.iA.dY),.slc 1 (aB x.gY.oH),.slc 1 (aB x.gY.jF),.int .i64 x.jK]
@[simp] abbrev aV.c (x:aV):List C:=[.d (.int .i64 x.aD.cT),.d (.int .i64 x.aD.bJ),.d (.int .i64 x.aD.fL),.d (.slc 7 (cA x.aD.aE.aG)),.d (.slc 6 (bG x.aD.bA.aP)),.d (.slc 2 (dG x.aD.bT.bE)),.d (.int .i64 x.aD.bT.gT),.d (.int .i64 x.aD.bT.bF),.d (.slc 3 (gM x.aD.bO.cF)),.d (.slc 2 (dW x.aD.bI)),.d (.slc 2 (cV x.iJ)),.d (.slc 4 (kP x.lI)),.d (.slc 3 (bL x.nB.iF)),.d (.int .i64 x.gS.jK),.d (.int .i64 x.gS.bJ),.d (.slc 6 (jA x.gS.cS)),.d (.int .i64 x.iA.jO),.d (.int .i64 x.iA.sN),.d (.slc 7 (fD x.iA.dY)),.d (.slc 1 (aB x.gY.oH)),.d (.slc 1 (aB x.gY.jF)),.d (.int .i64 x.jK)]
@[simp] abbrev aV.o (x:aV):List C:=[.d (.int .i64 x.aD.cT),.d (.int .i64 x.aD.bJ),.d (.int .i64 x.aD.fL),.own 1 7 (cA x.aD.aE.aG),.own 0 6 (bG x.aD.bA.aP),.own 0 2 (dG x.aD.bT.bE),.d (.int .i64 x.aD.bT.gT),.d (.int .i64 x.aD.bT.bF),.own 0 3 (gM x.aD.bO.cF),.own 0 2 (dW x.aD.bI),.own 1 2 (cV x.iJ),.own 0 4 (kP x.lI),.own 2 3 (bL x.nB.iF),.d (.int .i64 x.gS.jK),.d (.int .i64 x.gS.bJ),.own 1 6 (jA x.gS.cS),.d (.int .i64 x.iA.jO),.d (.int .i64 x.iA.sN),.own 0 7 (fD x.iA.dY),.own 0 1 (aB x.gY.oH),.own 0 1 (aB x.gY.jF),.d (.int .i64 x.jK)]
def aV.cost (x:aV):Nat:=x.aD.cost+(x.iJ.length+dF dE.cost x.iJ)+(x.lI.length+dF fM.cost x.lI)+x.nB.cost+x.gS.cost+x.iA.cost+x.gY.cost
def aV.ok (x:aV):Prop:=x.aD.ok/\x.iJ.length<=maxLen/\(∀ y,y∈x.iJ->y.ok)/\x.lI.length<=maxLen/\(∀ y,y∈x.lI->y.ok)/\x.nB.ok/\x.gS.ok/\x.iA.ok/\x.gY.ok/\aX x.jK
def vR:List UInt8->Nat
 |[]=>0
 |x::t=>x.toNat % 128+128*vR t
def yS (u:Nat):List UInt8:=if u<128 then [UInt8.ofNat u] else UInt8.ofNat (128+u % 128)::yS (u / 128)
termination_by u
decreasing_by omega
def zig (x:Int):Nat:=if x<0 then (-2*x-1).toNat else (2*x).toNat
def rD (u:Nat):Int:=if u % 2=1 then -((u / 2:Nat):Int)-1 else ((u / 2:Nat):Int)
def yT (x:Int):List UInt8:=yS (zig x)
theorem aOh (a:List UInt8) (x:UInt8):vR (a++[x])=vR a+(x.toNat % 128)*128 ^ a.length:=by
 induction a with
 |nil=>simp [vR]
 |cons y a ih=>simp only [List.cons_append,vR,ih,List.length_cons,Nat.pow_succ,Nat.mul_add];rw [Nat.mul_comm 128 (_*_),Nat.mul_assoc];omega
theorem aSm (a:List UInt8):vR a<128 ^ a.length:=by
 induction a with
 |nil=>simp [vR]
 |cons y a ih=>simp only [vR,List.length_cons,Nat.pow_succ];omega
theorem aOg {l:List UInt8} {i:Nat} {x:UInt8} (h:l[i]?=some x):vR (l.take (i+1))=vR (l.take i)+(x.toNat % 128)*128 ^ i:=by
 have hi:=(List.getElem?_eq_some_iff.1 h).1
 rw [List.take_add_one,h,Option.toList_some,aOh,List.length_take,Nat.min_eq_left (by omega)]
def mM (l:List UInt8):Option (Int×Nat):=
 match (l.take 6).findIdx? (fun x=>decide (x.toNat<128)) with
 |none=>none
 |some i=>
  let p:=l.take (i+1)
  let x:=rD (vR p)
  if yT x=p/\-1099511627776<=x/\x<=1099511627776 then some (x,i+1) else none
theorem aSI (x:Nat) {k:Nat} (h:k<=64):(x:Int).fdiv (2 ^ (min k 64))=((x / 2 ^ k:Nat):Int):=by
 rw [Nat.min_eq_left h,Int.fdiv_eq_ediv_of_nonneg _ (by exact Int.le_of_lt (Int.pow_pos (by omega)))]
 rw [show ((2:Int) ^ k)=((2 ^ k:Nat):Int) by simp]
 exact (Int.natCast_ediv _ _).symm
theorem aOE {a b:List UInt8} {i:Nat} {x y:UInt8} (hx:a[i]?=some x) (hy:b[i]?=some y) (h:a.take i=b.take i):(x=y->a.take (i+1)=b.take (i+1))/\(x≠y->a≠b):=by
 constructor
 ·intro e
  rw [List.take_add_one,List.take_add_one,hx,hy,h,e]
 ·intro e e2
  subst e2
  rw [hx] at hy
  exact e (Option.some.inj hy)
theorem aES (a b:List UInt8) (ha:a.length<=70368744177664) (hb:b.length<=70368744177664):aC PP GG 216 [.d (.slc 1 (aB a)),.d (.slc 1 (aB b))] (.d (.bool (decide (a=b)))) [none,none]:=by
 refine cv Tryz.func216 [.d (.bool (decide (a=b)))] ?_
 refine u_1 ?_
 refine aCg 10 (decide (a.length≠b.length)) ?_
 refine aO rfl (fun h=>aN ?_) (fun h=>aQ ?_)
 ·refine u_5 ?_
  simp at h
  have:decide (a=b)=false:=decide_eq_false fun e=>h (e ▸ rfl)
  exact u_8 this
 simp at h
 refine u_3 ?_
 refine aU (bH (fun n st=>∃ i:Nat,n=a.length-i/\i<=a.length/\a.take i=b.take i ∧
  st=⟨[],[(0,.d (.slc 1 (aB a))),(1,.d (.slc 1 (aB b))),(5,.d (.int .i64 i))],[],0⟩) _ ⟨0,rfl,by omega,rfl,rfl⟩ ?_)
 rintro n st ⟨i,rfl,hi,ht,rfl⟩
 refine u_3 ?_
 refine aO rfl (fun h2=>aQ ?_) (fun h2=>cR ?_)
 ·simp at h2
  have hx:=List.getElem?_eq_getElem h2
  have hy:=List.getElem?_eq_getElem (show i<b.length by omega)
  generalize a[i]=x at hx
  generalize b[i]'_=y at hy
  have hst:=aOE hx hy ht
  refine aN (aU (aN ?_))
  have he:((x.toNat:Int) != (y.toNat:Int))=!decide (x=y):=by
   rw [Bool.eq_iff_iff];simp only [bne_iff_ne,ne_eq,Bool.not_eq_true',decide_eq_false_iff_not]
   exact not_congr ⟨fun h=>UInt8.toNat_inj.1 (by omega),fun h=>by rw [h]⟩
  refine aB5 25 (!decide (x=y)) (fun K hK=>?_) ?_
  ·simp [hx,hy,he]
   repeat' (first|exact hK _ _ (by clear hK;first|omega|(exact decide_eq_false (by omega))|(exact decide_eq_true (by omega))|(exact (decide_eq_true (by omega)).symm)|(exact (decide_eq_false (by omega)).symm)|(exact decide_eq_decide.2 (by omega))|(simp only [<-decide_not];exact decide_eq_decide.2 (by omega))|(simp [*];done)|(simp [*];omega)|(simp_all;done)|(simp_all;omega)|(rw [Bool.eq_iff_iff];simp at *;omega))|(with_reducible refine aJ (fun _=>?_) (fun _=>?_)<;>simp [hx,hy,he])|with_reducible refine And.intro ?_ ?_|with_reducible exact aL rfl|with_reducible assumption|omega)
  refine aO rfl (fun h3=>aN ?_) (fun h3=>aQ ?_)
  ·simp at h3
   refine u_5 ?_
   have:decide (a=b)=false:=decide_eq_false (hst.2 h3)
   exact u_8 this
  simp at h3
  refine u_5 ?_
  exact ⟨a.length-(i+1),by omega,i+1,rfl,h2,hst.1 h3,by simp [gc,bP,cI,gcV,gcO,dS,cU,eH,aY,bR,bU,dU];exact aA (by omega) (by omega)⟩
 ·simp at h2
  rw [List.take_of_length_le h2,List.take_of_length_le (by omega)] at ht
  rw [if_pos rfl]
  refine u_1 ?_
  have:decide (a=b)=true:=decide_eq_true ht
  exact u_8 this
def beN (x:Nat):Nat->List UInt8
 |0=>[]
 |n+1=>UInt8.ofNat (x / 2 ^ (8*n))::beN x n
theorem aUt (q:Nat):IntKind.u8.wrap (q:Int)=((UInt8.ofNat q).toNat:Int):=by
 rw [IntKind.wrap_u8,UInt8.toNat_ofNat'];omega
theorem zE (x n:Nat) (hx:x<9223372036854775808) (hn:n<=8):
  aC PP GG 132 [.d (.int .i64 x),.d (.int .i64 n)] (.own 0 1 (aB (beN x n))) [none,none]:=by
 refine cv Tryz.func132 [.own 0 1 (aB (beN x n))] ?_
 have hw0:IntKind.i64.wrap ((n:Int)-1)=(n:Int)-1:=aA (by omega) (by omega)
 refine u_1 ?_
 refine u_6 @sP.eq_1 ?_
 refine aUG hw0 ?_
 refine aU (bH (fun m st=>∃ (i:Nat) (p:List UInt8),m=i/\i<=n/\p++beN x i=beN x n/\p.length=n-i ∧
  st=⟨[],[(0,.d (.int .i64 x)),(5,.sl 0),(6,.d (.int .i64 ((i:Int)-1)))],[(0,.arr 0 0 1 (aB p))],1⟩) _ ⟨n,[],rfl,by omega,rfl,by simp,by simp [gc,bP,cI,gcV,gcO,dS,cU,eH,aY,bR,bU,dU,aB]⟩ ?_)
 rintro m st ⟨i,p,rfl,hi,hp,hpl,rfl⟩
 refine aCg 11 (decide (0<m)) ?_
 refine aO rfl (fun h2=>aQ ?_) (fun h2=>cR ?_)
 ·simp at h2
  obtain ⟨k,rfl⟩:∃ k,m=k+1:=⟨m-1,by omega⟩
  obtain ⟨q,hq⟩:∃ q:Nat,x / 2 ^ (8*k)=q:=⟨_,rfl⟩
  have hql:q<9223372036854775808:=by rw [<-hq];exact Nat.lt_of_le_of_lt (Nat.div_le_self _ _) hx
  have f0:((k+1:Nat):Int)-1=k:=by omega
  have f4:IntKind.i64.wrap (8*(k:Int))=8*k:=aA (by omega) (by omega)
  have f4b:IntKind.u64.wrap (8*(k:Int))=8*k:=by rw [IntKind.wrap_u64];omega
  have f5:(8*(k:Int)).toNat=8*k:=by omega
  have f8:(0:Int)<=8*(k:Int):=by omega
  have f1:=aSI x (show 8*k<=64 by omega)
  rw [hq] at f1
  have f7:=aKf q
  have f3:IntKind.u8.wrap ((q:Int) % 256)=((UInt8.ofNat q).toNat:Int):=by rw [IntKind.wrap_u8,UInt8.toNat_ofNat'];omega
  have f6:IntKind.i64.wrap ((k:Int)-1)=(k:Int)-1:=aA (by omega) (by omega)
  have hp2:p++[UInt8.ofNat q]++beN x k=beN x n:=by rw [<-hp];simp [beN,hq]
  generalize UInt8.ofNat q=b at f3 hp2
  rw [f0]
  refine aN (aU ?_)
  refine u_2 (Y8 f4 f4b f8 f5 f1 f7 f3 @aM.eq_1) ?_
  refine u_2 f6 ?_
  exact ⟨k,by omega,k,p++[b],rfl,by omega,hp2,by simp;omega,by simp [gc,bP,cI,gcV,gcO,dS,cU,eH,aY,bR,bU,dU,aB]⟩
 ·simp at h2
  subst h2
  rw [if_pos rfl]
  have e:p=beN x n:=by simpa [beN] using hp
  subst e
  refine u_1 ?_
  exact u_7
theorem aEx:∀ (n u:Nat),u<128 ^ n->0<n->(yS u).length<=n
 |0,_,_,h=>absurd h (by omega)
 |n+1,u,hu,_=>by
  rw [yS]
  split
  ·simp
  ·rename_i h
   rw [Nat.pow_succ] at hu
   have hn:0<n:=by
    rcases Nat.eq_zero_or_pos n with rfl|h0
    ·simp at hu;omega
    ·exact h0
   have:=aEx n (u / 128) (by omega) hn
   simp only [List.length_cons];omega
theorem aFO {o p:List UInt8} {u v:Nat} (h:p++yS u=o++yS v) (hu:128<=u):p++[UInt8.ofNat (128+u % 128)]++yS (u / 128)=o++yS v:=by
 rw [<-h]
 conv=>rhs;rw [yS,if_neg (by omega)]
 simp
theorem aHX {o p:List UInt8} {u v:Nat} (h:p++yS u=o++yS v) (hu:u<128):p++[UInt8.ofNat u]=o++yS v:=by
 rw [<-h,yS,if_pos hu]
theorem aSh {x:Int} (h:x<0):-2*x-1=((zig x:Nat):Int):=by unfold zig;rw [if_pos h];omega
theorem aSg {x:Int} (h:¬x<0):2*x=((zig x:Nat):Int):=by unfold zig;rw [if_neg h];omega
theorem aC0 (x:Int) (h1:-4398046511104<=x) (h2:x<=4398046511104):
  aC PP GG 185 [.d (.int .i64 x)] (.own 0 1 (aB (if -1099511627776<=x/\x<=1099511627776 then yT x else []))) [none]:=by
 refine cv Tryz.func185 [.own 0 1 (aB (if -1099511627776<=x/\x<=1099511627776 then yT x else []))] ?_
 have ci:aC PP GG 20 [.d (.int .i64 x),.d (.int .i64 (-1099511627776)),.d (.int .i64 1099511627776)] (.d (.bool (inB x (-1099511627776) 1099511627776))) [none,none,none]:=bD _ _ _
 have hi:inB x (-1099511627776) 1099511627776=decide (-1099511627776<=x/\x<=1099511627776):=by unfold inB;rw [Bool.eq_iff_iff];simp
 generalize inB x (-1099511627776) 1099511627776=q at ci hi
 have w1:IntKind.i64.wrap (2*x)=2*x:=aA (by omega) (by omega)
 have w2:IntKind.i64.wrap (-2*x)=-2*x:=aA (by omega) (by omega)
 have w3:IntKind.i64.wrap (-2*x-1)=-2*x-1:=aA (by omega) (by omega)
 have hz:zig x<=8796093022208:=by unfold zig;split<;>omega
 refine u_1 ?_
 refine u_6 @sP.eq_1 ?_
 refine aD4 (Z1 ci) ?_
 refine aO rfl (fun h=>aN ?_) (fun h=>aQ ?_)
 ·refine u_5 ?_
  have hq:¬(-1099511627776<=x/\x<=1099511627776):=by intro hh;rw [decide_eq_true hh] at hi;subst hi;simp at h
  rw [if_neg hq]
  exact u_8 @aB.eq_1
 have hq:-1099511627776<=x/\x<=1099511627776:=by
  apply Classical.byContradiction;intro hh;rw [decide_eq_false hh] at hi;subst hi;simp at h
 rw [if_pos hq]
 clear ci h hi
 refine u_6 w1 ?_
 refine qK [3,4] (fun st=>st=⟨[],[(3,.sl 0),(4,.d (.int .i64 (zig x)))],[(0,.arr 0 0 1 [])],1⟩) ?_ ?_
 ·refine u_1 ?_
  refine aO rfl (fun h=>?_) (fun h=>aQ ?_)
  ·simp at h
   have hq:=aSh h
   rw [hq] at w3
   refine u_2 (Y3 w2 w3 hq) ?_
   simp [gc,bP,cI,gcV,gcO,dS,cU,eH,aY,bR,bU,dU]
  ·simp at h
   have hq:=aSg (show ¬x<0 by omega)
   simp [gc,bP,cI,gcV,gcO,dS,cU,eH,aY,bR,bU,dU,hq]
 rintro st rfl
 generalize hv:zig x=v at hz
 refine aN (aU (bH (fun n st=>∃ (u:Nat) (p:List UInt8),n=u/\u<=v/\p++yS u=yS v/\p.length<=v-u ∧
  st=⟨[],[(3,.sl 0),(4,.d (.int .i64 u))],[(0,.arr 0 0 1 (aB p))],1⟩) _ ⟨v,[],rfl,by omega,rfl,by simp,rfl⟩ ?_))
 rintro n st ⟨u,p,rfl,hu,hp,hpl,rfl⟩
 refine aCg 17 (decide (127<n)) ?_
 refine aO rfl (fun h=>aQ ?_) (fun h=>cR ?_)
 ·simp at h
  have hst:=aFO (o:=[]) hp (by omega)
  rw [List.nil_append] at hst
  have f1:(n:Int).tmod 128=((n % 128:Nat):Int):=rfl
  have f2:(n:Int).tdiv 128=((n / 128:Nat):Int):=rfl
  have f3:IntKind.i64.wrap (128+((n % 128:Nat):Int))=((128+n % 128:Nat):Int):=by rw [aA (by omega) (by omega)];omega
  have f4:IntKind.u8.wrap ((128+n % 128:Nat):Int)=((UInt8.ofNat (128+n % 128)).toNat:Int):=aUt _
  have hd:n / 128<n:=by omega
  generalize UInt8.ofNat (128+n % 128)=b at hst f4
  generalize 128+n % 128=r at f3 f4
  generalize n % 128=r' at f1 f3
  generalize n / 128=m at hst f2 hd
  have f5:IntKind.i64.wrap (m:Int)=m:=aA (by omega) (by omega)
  refine aU (aN ?_)
  refine u_2 (Y4 f1 f3 f4 @aM.eq_1) ?_
  refine u_2 (Y2 f2 f5) ?_
  exact ⟨m,by omega,m,p++[b],rfl,by omega,hst,by simp;omega,by simp [gc,bP,cI,gcV,gcO,dS,cU,eH,aY,bR,bU,dU,aB]⟩
 ·simp at h
  have hst:=aHX (o:=[]) hp (by omega)
  rw [List.nil_append] at hst
  have f3:IntKind.u8.wrap (n:Int)=((UInt8.ofNat n).toNat:Int):=aUt n
  generalize UInt8.ofNat n=b at hst f3
  have e:aB (yT x)=aB p++[[.int .u8 b.toNat]]:=by unfold yT;rw [hv,<-hst,aA0];rfl
  rw [if_pos rfl,e]
  refine u_6 (Y2 f3 @aM.eq_1) ?_
  exact u_7
theorem aMa {l:List UInt8} (h:∀ j x,j<6->l[j]?=some x->128<=x.toNat):mM l=none:=by
 have:(l.take 6).findIdx? (fun x=>decide (x.toNat<128))=none:=by
  rw [List.findIdx?_eq_none_iff]
  intro x hx
  obtain ⟨j,hj⟩:=List.mem_iff_getElem?.1 hx
  rw [List.getElem?_take] at hj
  split at hj
  ·rename_i h6
   have:=h j x h6 hj
   exact decide_eq_false (by omega)
  ·cases hj
 unfold mM
 rw [this]
theorem aQe {l:List UInt8} {i:Nat} {x:UInt8} (hi:i<6) (hx:l[i]?=some x) (hlt:x.toNat<128) (h:∀ j y,j<i->l[j]?=some y->128<=y.toNat):
  mM l=if yT (rD (vR (l.take (i+1))))=l.take (i+1)/\-1099511627776<=rD (vR (l.take (i+1)))/\rD (vR (l.take (i+1)))<=1099511627776 then some (rD (vR (l.take (i+1))),i+1) else none:=by
 have hil:=(List.getElem?_eq_some_iff.1 hx).1
 have:(l.take 6).findIdx? (fun x=>decide (x.toNat<128))=some i:=by
  rw [List.findIdx?_eq_some_iff_getElem]
  refine ⟨by rw [List.length_take];omega,?_,?_⟩
  ·rw [List.getElem_take,(List.getElem?_eq_some_iff.1 hx).2];exact decide_eq_true hlt
  ·intro j hj
   rw [List.getElem_take]
   have:=h j _ hj (List.getElem?_eq_getElem (by omega))
   simp;omega
 unfold mM
 rw [this]
theorem aGL (i:Nat):(128:Nat) ^ i=2 ^ (7*i):=by rw [Nat.pow_mul]
theorem aD2 {l:List UInt8} {i:Nat} (h:i<=7):vR (l.take i)<2 ^ (7*i):=by
 have h1:=aSm (l.take i)
 rw [aGL] at h1
 refine Nat.lt_of_lt_of_le h1 (Nat.pow_le_pow_right (by omega) ?_)
 rw [List.length_take];omega
theorem aOP {i:Nat} (h:i<=7):2 ^ (7*i)<=562949953421312:=by
 have:=Nat.pow_le_pow_right (show 2>0 by omega) (show 7*i<=49 by omega)
 omega
theorem aL8 {u:Nat} (h:¬u % 2=1):rD u=((u / 2:Nat):Int):=by unfold rD;rw [if_neg h]
theorem aOj {u:Nat} (h:u % 2=1):rD u=-((u / 2:Nat):Int)-1:=by unfold rD;rw [if_pos h]
theorem aKi (u:Nat):-((u / 2:Nat):Int)-1<=rD u/\rD u<=((u / 2:Nat):Int):=by unfold rD;split<;>omega
theorem aSL {g i s:Nat} (h:g*2 ^ (7*i)=s) (hi:i<=7) (hs:s<9223372036854775808):IntKind.i64.wrap ((g:Int)*2 ^ (min (7*i) 64))=(s:Int):=by
 rw [Nat.min_eq_left (by omega),show ((g:Int)*2 ^ (7*i))=((g*2 ^ (7*i):Nat):Int) by simp,h]
 exact aA (by omega) (by omega)
theorem vC {b l:List UInt8} {a:Nat} (h:b.drop a=l) (k:Nat):((aB b).take (a+k)).drop a=aB (l.take k):=by
 unfold aB
 rw [<-List.map_take,<-List.map_drop,<-h,List.drop_take,Nat.add_sub_cancel_left]
theorem aBi (b:List UInt8) (a:Nat) (t:Option (Int×Nat)) (ht:mM (b.drop a)=t) (hb:b.length<=1000000) (ha:a<=1000000):
  aC PP GG 236 [.d (.slc 1 (aB b)),.d (.int .i64 a)] (.tup [.d (.int .i64 ((t.map (·.1)).getD 0)),.d (.int .i64 ((t.map fun p=>((a+p.2:Nat):Int)).getD 0)),.d (.bool t.isSome)]) [none,none]:=by
 refine cv Tryz.func236 [.d (.int .i64 ((t.map (·.1)).getD 0)),.d (.int .i64 ((t.map fun p=>((a+p.2:Nat):Int)).getD 0)),.d (.bool t.isSome)] ?_
 obtain ⟨l,hl⟩:∃ l,b.drop a=l:=⟨_,rfl⟩
 rw [hl] at ht
 have hlen:l.length=b.length-a:=by rw [<-hl,List.length_drop]
 have hget:∀ i,b[a+i]?=l[i]?:=fun i=>by rw [<-hl,List.getElem?_drop]
 refine u_1 ?_
 refine aCg 18 (decide (b.length<=a)) ?_
 refine aO rfl (fun h=>aN ?_) (fun h=>aQ ?_)
 ·simp at h
  have e:l=[]:=List.eq_nil_of_length_eq_zero (by omega)
  subst e
  have e2:mM []=none:=rfl
  rw [e2] at ht
  subst ht
  refine u_5 ?_
  exact u_7
 simp at h
 have hw7:IntKind.i64.wrap ((b.length:Int)-a)=((b.length-a:Nat):Int):=by rw [aA (by omega) (by omega)];omega
 refine u_1 ?_
 refine u_3 ?_
 refine aU (bH (fun n st=>∃ (i u:Nat),n=6-i/\i<=6/\(∀ j y,j<i->l[j]?=some y->128<=y.toNat)/\(i<=l.length)/\u=vR (l.take i) ∧
  st=⟨[],[(0,.d (.slc 1 (aB b))),(1,.d (.int .i64 a)),(7,.d (.int .i64 u)),(8,.d (.int .i64 i))],[],0⟩) _ ⟨0,0,rfl,by omega,fun j y hj=>by omega,by omega,rfl,rfl⟩ ?_)
 rintro n st ⟨i,u,rfl,hi,hbig,hil,hu,rfl⟩
 refine aP4 hw7 28 (decide (i<6/\i<b.length-a)) ?_
 refine aO rfl (fun h=>aQ ?_) (fun h=>cR ?_)
 ·simp at h
  have hx:=List.getElem?_eq_getElem (show i<l.length by omega)
  generalize l[i]'_=x at hx
  obtain ⟨p,hpa⟩:∃ p,a+i=p:=⟨_,rfl⟩
  have hbx:b[p]?=some x:=by rw [<-hpa,hget,hx]
  have hxl:=x.toNat_lt
  have hut:=aOg hx
  rw [<-hu,aGL] at hut
  have hub:=aD2 (l:=l) (i:=i) (by omega)
  rw [<-hu] at hub
  have hub2:=aD2 (l:=l) (i:=i+1) (by omega)
  have hp49:=aOP (i:=i+1) (by omega)
  have hp42:2 ^ (7*(i+1))<=4398046511104:=by
   have:=Nat.pow_le_pow_right (show 2>0 by omega) (show 7*(i+1)<=42 by omega)
   omega
  have hcut:=vC hl (i+1)
  obtain ⟨pl,hpl⟩:∃ pl,l.take (i+1)=pl:=⟨_,rfl⟩
  have hpll:pl.length<=1000000:=by rw [<-hpl,List.length_take];omega
  obtain ⟨v,hv⟩:∃ v,vR pl=v:=⟨_,rfl⟩
  have hstep:=fun hlt=>aQe h.1 hx hlt hbig
  rw [ht,hpl,hv] at hstep
  rw [hpl,hv] at hut hub2
  rw [hpl] at hcut
  obtain ⟨s,hs⟩:∃ s,x.toNat % 128*2 ^ (7*i)=s:=⟨_,rfl⟩
  have hsb:s<9223372036854775808:=by omega
  rw [hs] at hut
  have f2:IntKind.i64.wrap (x.toNat:Int)=x.toNat:=aA (by omega) (by omega)
  have f3:IntKind.i64.wrap ((a:Int)+i)=p:=by rw [aA (by omega) (by omega)];omega
  have f4:IntKind.i64.wrap (7*(i:Int))=7*i:=aA (by omega) (by omega)
  have f4b:IntKind.u64.wrap (7*(i:Int))=7*i:=by rw [IntKind.wrap_u64];omega
  have f5:(7*(i:Int)).toNat=7*i:=by omega
  have f6:(0:Int)<=7*(i:Int):=by omega
  have f7:=aSL hs (show i<=7 by omega) hsb
  have f8:IntKind.i64.wrap ((u:Int)+s)=v:=by rw [aA (by omega) (by omega)];omega
  have f9:(x.toNat:Int).tmod 128=((x.toNat % 128:Nat):Int):=rfl
  have hvs:v<4398046511104:=by omega
  clear hsb hub hub2 hp49 hs hp42
  have g1:(v:Int).tdiv 2=((v / 2:Nat):Int):=rfl
  have g2:(v:Int).tmod 2=((v % 2:Nat):Int):=rfl
  have hur:=aKi v
  have e1:=@aL8 v
  have e2:=@aOj v
  obtain ⟨m,hm⟩:∃ m,v / 2=m:=⟨_,rfl⟩
  rw [hm] at g1 hur e1 e2
  have g3:IntKind.i64.wrap (m:Int)=m:=aA (by omega) (by omega)
  refine aN (aU (aN ?_))
  generalize hg:x.toNat % 128=g at f9 f7
  refine u_2 (Y3 hbx f2 f3) ?_
  refine u_6 (Y7 f9 f4 f4b f5 f6 f7 f8) ?_
  refine aCg 47 (decide (127<x.toNat)) ?_
  refine aO rfl (fun h3=>cR ?_) (fun h3=>aQ ?_)
  ·simp at h3
   refine u_5 ?_
   refine ⟨6-(i+1),by omega,i+1,v,rfl,by omega,?_,by omega,by rw [hpl,hv],?_⟩
   ·intro j y hj hy
    by_cases e:j=i
    ·subst e;rw [hx] at hy;cases hy;omega
    ·exact hbig j y (by omega) hy
   ·simp [gc,bP,cI,gcV,gcO,dS,cU,eH,aY,bR,bU,dU]
    exact aA (by omega) (by omega)
  simp at h3
  have hst:=hstep (by omega)
  clear hstep
  refine u_6 (Y2 g1 g3) ?_
  refine qK [0,1,8,10] (fun st=>st=⟨[],[(0,.d (.slc 1 (aB b))),(1,.d (.int .i64 a)),(8,.d (.int .i64 i)),(10,.d (.int .i64 (rD v)))],[],0⟩) ?_ ?_
  ·refine aWs g2 52 (decide (v % 2=1)) ?_
   refine aO rfl (fun h4=>?_) (fun h4=>aQ ?_)
   ·simp at h4
    have e:=e2 h4
    have g4:IntKind.i64.wrap (-(m:Int))=-(m:Int):=aA (by omega) (by omega)
    have g5:IntKind.i64.wrap (-(m:Int)-1)=rD v:=by rw [aA (by omega) (by omega),e]
    refine u_2 (Y2 g4 g5) ?_
    simp [gc,bP,cI,gcV,gcO,dS,cU,eH,aY,bR,bU,dU]
   ·simp at h4
    have e:=e1 (show ¬v % 2=1 by omega)
    simp [gc,bP,cI,gcV,gcO,dS,cU,eH,aY,bR,bU,dU,e]
  rintro st rfl
  generalize hz:rD v=z at hst hur
  have cp:=aC0 z (by omega) (by omega)
  obtain ⟨w,hw⟩:∃ w,(if -1099511627776<=z/\z<=1099511627776 then yT z else [])=w:=⟨_,rfl⟩
  rw [hw] at cp
  have hwl:w.length<=1000000:=by
   rw [<-hw]
   split
   ·have hzl:zig z<128 ^ 10:=by unfold zig;split<;>omega
    have:=aEx 10 (zig z) hzl (by omega)
    unfold yT;omega
   ·simp
  have cs:=aES w pl (by omega) (by omega)
  have hq2:decide (w=pl)=decide (yT z=pl/\-1099511627776<=z/\z<=1099511627776):=by
   apply decide_eq_decide.2
   rw [<-hw]
   constructor
   ·intro e
    split at e
    ·rename_i hr;exact ⟨e,hr⟩
    ·exfalso
     have:=congrArg List.length e
     rw [<-hpl,List.length_take] at this
     simp at this;omega
   ·rintro ⟨e,hr⟩
    rw [if_pos hr];exact e
  generalize hqq:decide (w=pl)=q at cs hq2
  have f10:IntKind.i64.wrap ((p:Int)+1)=((a+(i+1):Nat):Int):=by rw [aA (by omega) (by omega)];omega
  have f11:a+(i+1)<=b.length:=by omega
  have hcut2:List.drop a (List.take (a+(i+1)) (aB b))=aB pl:=hcut
  generalize hpp:a+(i+1)=pe at f10 f11 hcut2
  refine aWr (Y3 f3 f10 hcut2) (Z2 cp cs) ?_
  refine aO rfl (fun h5=>aN ?_) (fun h5=>aQ ?_)
  ·simp at h5
   subst h5
   have hno:=of_decide_eq_false hq2.symm
   rw [if_neg hno] at hst
   subst hst
   refine u_5 ?_
   exact u_7
  ·simp at h5
   subst h5
   have hno:=of_decide_eq_true hq2.symm
   rw [if_pos hno] at hst
   subst hst
   have f12:((pe:Nat):Int)=((a+(i+1):Nat):Int):=by omega
   refine u_6 (Y3 f3 f10 f12) ?_
   exact u_7
 ·simp at h
  have hn:t=none:=by
   rw [<-ht]
   apply aMa
   intro j y hj hy
   have:=(List.getElem?_eq_some_iff.1 hy).1
   exact hbig j y (by omega) hy
  subst hn
  rw [if_pos rfl]
  refine u_1 ?_
  exact u_7
theorem oM {l:List UInt8} {x:Int} {k:Nat} (h:mM l=some (x,k)):l.take k=yT x/\k<=l.length/\0<k/\-1099511627776<=x/\x<=1099511627776:=by
 unfold mM at h
 split at h
 ·cases h
 ·rename_i i hi
  rw [List.findIdx?_eq_some_iff_getElem] at hi
  have hl:=hi.1
  rw [List.length_take] at hl
  dsimp only at h
  split at h
  ·rename_i hc
   cases h
   exact ⟨hc.1.symm,by omega,by omega,hc.2.1,hc.2.2⟩
  ·cases h
def oL (b:List UInt8) (a:Nat):Nat->Option (List Int×Nat)
 |0=>some ([],a)
 |n+1=>match oL b a n with
  |none=>none
  |some (xs,a')=>match mM (b.drop a') with
   |none=>none
   |some (x,k)=>some (xs++[x],a'+k)
def mW (b:List UInt8) (a:Nat):Nat->Option (List (List UInt8)×Nat)
 |0=>some ([],a)
 |n+1=>match mW b a n with
  |none=>none
  |some (ts,a')=>match mM (b.drop a') with
   |none=>none
   |some (x,k)=>if 0<=x/\x<=((b.length-(a'+k):Nat):Int) then some (ts++[(b.drop (a'+k)).take x.toNat],a'+k+x.toNat) else none
theorem aKm {b:List UInt8} {a i:Nat} (h:oL b a i=none):∀ n,i<=n->oL b a n=none:=by
 intro n hn
 induction n with
 |zero=>
  have:i=0:=by omega
  subst this;exact h
 |succ n ih=>
  by_cases e:i=n+1
  ·subst e;exact h
  ·have:=ih (by omega)
   simp only [oL,this]
theorem aCW {b:List UInt8} {a i:Nat} (h:mW b a i=none):∀ n,i<=n->mW b a n=none:=by
 intro n hn
 induction n with
 |zero=>
  have:i=0:=by omega
  subst this;exact h
 |succ n ih=>
  by_cases e:i=n+1
  ·subst e;exact h
  ·have:=ih (by omega)
   simp only [mW,this]
def aHY (s:List UInt8):List UInt8:=yT s.length++s
theorem yO {b:List UInt8} {a k:Nat} {p:List UInt8} (h:(b.drop a).take k=p):b.take (a+k)=b.take a++p:=by
 rw [List.take_add,h]
theorem aCY {b:List UInt8} {a:Nat} (ha:a<=b.length):∀ {n:Nat} {xs:List Int} {a':Nat},oL b a n=some (xs,a') →
  xs.length=n/\a<=a'/\a'<=b.length/\b.take a'=b.take a++(xs.map yT).flatten/\∀ x,x∈xs->-1099511627776<=x/\x<=1099511627776
 |0,xs,a',h=>by cases h;exact ⟨rfl,Nat.le_refl _,ha,by simp,fun x hx=>by simp at hx⟩
 |n+1,xs,a',h=>by
  simp only [oL] at h
  split at h
  ·cases h
  ·rename_i ys c hy
   obtain ⟨h1,h2,h3,h4,h5⟩:=aCY ha hy
   split at h
   ·cases h
   ·rename_i x k hx
    cases h
    obtain ⟨g1,g2,g3,g4,g5⟩:=oM hx
    rw [List.length_drop] at g2
    refine ⟨by simp [h1],by omega,by omega,?_,?_⟩
    ·rw [yO g1,h4];simp
    ·intro z hz
     rcases List.mem_append.1 hz with hz|hz
     ·exact h5 z hz
     ·simp at hz;subst hz;exact ⟨g4,g5⟩
theorem aCX {b:List UInt8} {a:Nat} (ha:a<=b.length):∀ {n:Nat} {ts:List (List UInt8)} {a':Nat},mW b a n=some (ts,a') →
  ts.length=n/\a<=a'/\a'<=b.length/\b.take a'=b.take a++(ts.map aHY).flatten/\∀ t,t∈ts->t.length<=b.length
 |0,xs,a',h=>by cases h;exact ⟨rfl,Nat.le_refl _,ha,by simp,fun x hx=>by simp at hx⟩
 |n+1,xs,a',h=>by
  simp only [mW] at h
  split at h
  ·cases h
  ·rename_i ys c hy
   obtain ⟨h1,h2,h3,h4,h5⟩:=aCX ha hy
   split at h
   ·cases h
   ·rename_i x k hx
    split at h
    ·rename_i hr
     cases h
     obtain ⟨g1,g2,g3,g4,g5⟩:=oM hx
     rw [List.length_drop] at g2
     have hl:((b.drop (c+k)).take x.toNat).length=x.toNat:=by rw [List.length_take,List.length_drop];omega
     refine ⟨by simp [h1],by omega,by omega,?_,?_⟩
     ·rw [yO (k:=x.toNat) rfl,yO g1,h4]
      have hp:aHY ((b.drop (c+k)).take x.toNat)=yT x++(b.drop (c+k)).take x.toNat:=by
       unfold aHY;rw [hl,show ((x.toNat:Nat):Int)=x by omega]
      simp [hp]
     ·intro z hz
      rcases List.mem_append.1 hz with hz|hz
      ·exact h5 z hz
      ·simp at hz;subst hz;rw [hl];omega
    ·cases h
abbrev Rec:=Int×List Int×List (List UInt8)
def aRP (b:List UInt8):Option Rec:=
 if 3<=b.length/\b.length<=4000 then
  match mM (b.drop 1) with
  |none=>none
  |some (n,k)=>if 0<=n/\n<=40 then
   match oL b (1+k) n.toNat with
   |none=>none
   |some (xs,a)=>match mM (b.drop a) with
    |none=>none
    |some (m,k2)=>if 0<=m/\m<=40 then
     match mW b (a+k2) m.toNat with
     |none=>none
     |some (ts,a2)=>if a2=b.length/\mN (b.headD 0).toNat xs ts=true then some ((b.headD 0).toNat,xs,ts) else none
     else none
   else none
 else none
theorem aQH {x:Int} (h1:-1099511627776<=x) (h2:x<=1099511627776):(yT x).length<=10:=by
 have hz:zig x<128 ^ 10:=by unfold zig;split<;>omega
 exact aEx 10 _ hz (by omega)
theorem sJ {k:Int} {xs:List Int} {ts:List (List UInt8)} (h:mN k xs ts=true):xs.length<=40/\ts.length<=40/\(∀ x,x∈xs->-1099511627776<=x/\x<=1099511627776)/\∀ t,t∈ts->t.length<=300:=by
 simp only [mN,aC7,vX,Bool.and_eq_true,decide_eq_true_eq,List.all_eq_true] at h
 obtain ⟨_,h1,h2,h3,h4⟩:=h
 exact ⟨by omega,by omega,h3,fun t ht=>by have:=h4 t ht;omega⟩
theorem nO {b:List UInt8} {a:Nat} (h:mM (b.drop a)=none) (hb:b.length<=1000000) (ha:a<=1000000):
  aC PP GG 236 [.d (.slc 1 (aB b)),.d (.int .i64 a)] (.tup [.d (.int .i64 0),.d (.int .i64 0),.d (.bool false)]) [none,none]:=aBi b a none h hb ha
theorem nN {b:List UInt8} {a c k:Nat} {x:Int} (h:mM (b.drop a)=some (x,k)) (e:a+k=c) (hb:b.length<=1000000) (ha:a<=1000000):
  aC PP GG 236 [.d (.slc 1 (aB b)),.d (.int .i64 a)] (.tup [.d (.int .i64 x),.d (.int .i64 c),.d (.bool true)]) [none,none]:=by
 subst e;exact aBi b a (some (x,k)) h hb ha
def oF:Option Rec->List C
 |none=>[.d (.int .i64 0),.own 0 1 [],.own 0 1 []]
 |some (k,xs,ts)=>[.d (.int .i64 k),.own 0 1 (bM xs),.own 0 1 (aK ts)]
theorem aKn {b:List UInt8} {a i c:Nat} {xs:List Int} (h:oL b a i=some (xs,c)):(mM (b.drop c)=none->oL b a (i+1)=none)/\∀ x k d,mM (b.drop c)=some (x,k)->c+k=d->oL b a (i+1)=some (xs++[x],d):=by
 constructor
 ·intro e;simp only [oL,h,e]
 ·rintro x k d e rfl;simp only [oL,h,e]
theorem aKl {b:List UInt8} {a i c:Nat} {ts:List (List UInt8)} (h:mW b a i=some (ts,c)):(mM (b.drop c)=none->mW b a (i+1)=none) ∧
  ∀ x k d,mM (b.drop c)=some (x,k)->c+k=d->(¬(0<=x/\x<=((b.length-d:Nat):Int))->mW b a (i+1)=none)/\(0<=x/\x<=((b.length-d:Nat):Int)->mW b a (i+1)=some (ts++[(b.drop d).take x.toNat],d+x.toNat)):=by
 constructor
 ·intro e;simp only [mW,h,e]
 ·rintro x k d e rfl
  constructor
  ·intro g;simp only [mW,h,e];rw [if_neg g]
  ·intro g;simp only [mW,h,e];rw [if_pos g]
theorem aBj (b:List UInt8) (r:Option Rec) (hr:aRP b=r) (hb:b.length<=1000000):
  aC PP GG 215 [.d (.slc 1 (aB b))] (.tup [.agg (oF r),.d (.bool r.isSome)]) [none]:=by
 refine cv Tryz.func215 [.agg (oF r),.d (.bool r.isSome)] ?_
 unfold aRP at hr
 have cl:aC PP GG 20 [.d (.int .i64 (b.length:Nat)),.d (.int .i64 3),.d (.int .i64 4000)] (.d (.bool (inB (b.length:Nat) 3 4000))) [none,none,none]:=bD _ _ _
 have hi:inB (b.length:Nat) 3 4000=decide (3<=b.length/\b.length<=4000):=by unfold inB;rw [Bool.eq_iff_iff];simp;omega
 generalize inB (b.length:Nat) 3 4000=q at cl hi
 refine u_1 ?_
 refine u_1 ?_
 refine aD4 (Z1 cl) ?_
 refine aO rfl (fun h=>aN ?_) (fun h=>aQ ?_)
 ·simp at h
  subst h
  rw [if_neg (of_decide_eq_false hi.symm)] at hr
  subst hr
  refine u_5 ?_
  exact u_8 (Y2 @oF.eq_1 @oF.eq_2)
 simp at h
 subst h
 have hlen:=of_decide_eq_true hi.symm
 rw [if_pos hlen] at hr
 clear cl hi
 cases hbe:b with
 |nil=>rw [hbe] at hlen;simp at hlen
 |cons y tl=>
 have hy:b[0]?=some y:=by rw [hbe];rfl
 have hhd:b.headD 0=y:=by rw [hbe];rfl
 rw [<-hbe]
 have hyl:=y.toNat_lt
 have hyw:IntKind.i64.wrap (y.toNat:Int)=y.toNat:=aA (by omega) (by omega)
 rw [hhd] at hr
 refine u_6 (Y2 hy hyw) ?_
 refine kX 5 1 rfl rfl rfl ?_
 refine kX 5 2 rfl rfl rfl ?_
 cases ht:mM (b.drop 1) with
 |none=>
  rw [ht] at hr
  dsimp only at hr
  subst hr
  have c1:aC PP GG 236 [.d (.slc 1 (aB b)),.d (.int .i64 1)] (.tup [.d (.int .i64 0),.d (.int .i64 0),.d (.bool false)]) [none,none]:=nO (a:=1) ht hb (by omega)
  refine oK (Z1 c1) ?_
  refine u_3 ?_
  refine aO rfl (fun h=>aN ?_) (fun h=>?_)
  ·refine u_5 ?_
   exact u_8 (Y2 @oF.eq_1 @oF.eq_2)
  ·cases h
 |some p=>
 obtain ⟨n,k⟩:=p
 rw [ht] at hr
 dsimp only at hr
 obtain ⟨a1,a2,a3,a4,a5⟩:=oM ht
 rw [List.length_drop] at a2
 obtain ⟨a,ha⟩:∃ a,1+k=a:=⟨_,rfl⟩
 have c1:aC PP GG 236 [.d (.slc 1 (aB b)),.d (.int .i64 1)] (.tup [.d (.int .i64 n),.d (.int .i64 a),.d (.bool true)]) [none,none]:=nN (a:=1) ht ha hb (by omega)
 rw [ha] at hr
 have cn:aC PP GG 20 [.d (.int .i64 n),.d (.int .i64 0),.d (.int .i64 40)] (.d (.bool (inB n 0 40))) [none,none,none]:=bD _ _ _
 have hin:inB n 0 40=decide (0<=n/\n<=40):=by unfold inB;rw [Bool.eq_iff_iff];simp
 generalize inB n 0 40=q at cn hin
 refine oK (Z1 c1) ?_
 refine aD4 (Z1 cn) ?_
 refine aO rfl (fun h=>aN ?_) (fun h=>aQ ?_)
 ·simp at h
  subst h
  rw [if_neg (of_decide_eq_false hin.symm)] at hr
  subst hr
  refine u_5 ?_
  exact u_8 (Y2 @oF.eq_1 @oF.eq_2)
 simp at h
 subst h
 have hnr:=of_decide_eq_true hin.symm
 rw [if_pos hnr] at hr
 clear cn hin
 refine u_3 ?_
 refine aU (bH (fun m st=>∃ (i c:Nat) (xs:List Int),m=n.toNat-i/\i<=n.toNat/\oL b a i=some (xs,c) ∧
  st=⟨[],[(0,.d (.slc 1 (aB b))),(2,.ptr 0 0),(4,.ptr 1 0),(5,.ptr 2 0),(6,.d (.int .i64 n)),(7,.d (.int .i64 c)),(9,.d (.int .i64 i))],[(0,.box [.d (.int .i64 0),.nil 0 1,.nil 0 1]),(1,.box [.d (.int .i64 0),.nil 0 1,.nil 0 1]),(2,.box [.d (.int .i64 y.toNat),.sl 3,.sl 4]),(3,.arr 0 0 1 (bM xs)),(4,.arr 0 0 1 [])],5⟩) _
  ⟨0,a,[],rfl,by omega,rfl,by simp [gc,bP,cI,gcV,gcO,dS,cU,eH,aY,bR,bU,dU,bM]⟩ ?_)
 rintro m st ⟨i,c,xs,rfl,hi,hx,rfl⟩
 obtain ⟨x1,x2,x3,x4,x5⟩:=aCY (by omega) hx
 refine aCg 41 (decide (i<n.toNat)) ?_
 refine aO rfl (fun h2=>aQ ?_) (fun h2=>cR ?_)
 ·simp at h2
  have hnx:=aKn hx
  refine aN (aU (aN ?_))
  refine u_5 ?_
  cases htx:mM (b.drop c) with
  |none=>
   rw [aKm (hnx.1 htx) _ (by omega)] at hr
   dsimp only at hr
   subst hr
   have c2:=nO htx hb (by omega)
   refine oK (Z1 c2) ?_
   refine u_3 ?_
   refine aO rfl (fun h=>aN ?_) (fun h=>?_)
   ·refine u_5 ?_
    exact u_8 (Y2 @oF.eq_1 @oF.eq_2)
   ·cases h
  |some p=>
   obtain ⟨x,k'⟩:=p
   obtain ⟨d1,d2,d3,d4,d5⟩:=oM htx
   rw [List.length_drop] at d2
   obtain ⟨d,hd⟩:∃ d,c+k'=d:=⟨_,rfl⟩
   have c2:=nN htx hd hb (by omega)
   have hst:=hnx.2 x k' d htx hd
   refine oK (Z1 c2) ?_
   refine u_3 ?_
   refine aO rfl (fun h=>?_) (fun h=>aQ ?_)
   ·cases h
   refine u_2 (Y2 @sP.eq_1 @aM.eq_1) ?_
   refine u_5 ?_
   refine ⟨n.toNat-(i+1),by omega,i+1,d,xs++[x],rfl,by omega,hst,?_⟩
   simp [gc,bP,cI,gcV,gcO,dS,cU,eH,aY,bR,bU,dU,bM]
   exact aA (by omega) (by omega)
 simp at h2
 rw [if_pos rfl]
 have hin:i=n.toNat:=by omega
 subst hin
 rw [hx] at hr
 dsimp only at hr
 clear h2
 cases htm:mM (b.drop c) with
 |none=>
  rw [htm] at hr
  dsimp only at hr
  subst hr
  have c3:=nO htm hb (by omega)
  refine u_1 ?_
  refine oK (Z1 c3) ?_
  refine u_3 ?_
  refine aO rfl (fun h=>aN ?_) (fun h=>?_)
  ·refine u_5 ?_
   exact u_8 (Y2 @oF.eq_1 @oF.eq_2)
  ·cases h
 |some p=>
 obtain ⟨mm,k2⟩:=p
 rw [htm] at hr
 dsimp only at hr
 obtain ⟨g1,g2,g3,g4,g5⟩:=oM htm
 rw [List.length_drop] at g2
 obtain ⟨e,he⟩:∃ e,c+k2=e:=⟨_,rfl⟩
 have c3:=nN htm he hb (by omega)
 rw [he] at hr
 have cn:aC PP GG 20 [.d (.int .i64 mm),.d (.int .i64 0),.d (.int .i64 40)] (.d (.bool (inB mm 0 40))) [none,none,none]:=bD _ _ _
 have hin:inB mm 0 40=decide (0<=mm/\mm<=40):=by unfold inB;rw [Bool.eq_iff_iff];simp
 generalize inB mm 0 40=q at cn hin
 refine u_1 ?_
 refine oK (Z1 c3) ?_
 refine aD4 (Z1 cn) ?_
 refine aO rfl (fun h=>aN ?_) (fun h=>aQ ?_)
 ·simp at h
  subst h
  rw [if_neg (of_decide_eq_false hin.symm)] at hr
  subst hr
  refine u_5 ?_
  exact u_8 (Y2 @oF.eq_1 @oF.eq_2)
 simp at h
 subst h
 have hmr:=of_decide_eq_true hin.symm
 rw [if_pos hmr] at hr
 clear cn hin
 refine u_3 ?_
 refine aU (bH (fun m st=>∃ (i c:Nat) (ts:List (List UInt8)),m=mm.toNat-i/\i<=mm.toNat/\mW b e i=some (ts,c) ∧
  st=⟨[],[(0,.d (.slc 1 (aB b))),(2,.ptr 0 0),(4,.ptr 1 0),(5,.ptr 2 0),(7,.d (.int .i64 c)),(11,.d (.int .i64 mm)),(12,.d (.int .i64 i))],[(0,.box [.d (.int .i64 0),.nil 0 1,.nil 0 1]),(1,.box [.d (.int .i64 0),.nil 0 1,.nil 0 1]),(2,.box [.d (.int .i64 y.toNat),.sl 3,.sl 4]),(3,.arr 0 0 1 (bM xs)),(4,.arr 0 0 1 (aK ts))],5⟩) _
  ⟨0,e,[],rfl,by omega,rfl,by simp [gc,bP,cI,gcV,gcO,dS,cU,eH,aY,bR,bU,dU,aK]⟩ ?_)
 rintro m st ⟨i,c',ts,rfl,hi,hx2,rfl⟩
 obtain ⟨y1,y2,y3,y4,y5⟩:=aCX (by omega) hx2
 refine aCg 77 (decide (i<mm.toNat)) ?_
 refine aO rfl (fun h2=>aQ ?_) (fun h2=>cR ?_)
 ·simp at h2
  have hnx:=aKl hx2
  refine aN (aU (aN ?_))
  refine u_5 ?_
  cases htx:mM (b.drop c') with
  |none=>
   rw [aCW (hnx.1 htx) _ (by omega)] at hr
   dsimp only at hr
   subst hr
   have c2:=nO htx hb (by omega)
   refine oK (Z1 c2) ?_
   refine u_3 ?_
   refine aO rfl (fun h=>aN ?_) (fun h=>?_)
   ·refine u_5 ?_
    exact u_8 (Y2 @oF.eq_1 @oF.eq_2)
   ·cases h
  |some p=>
   obtain ⟨x,k'⟩:=p
   obtain ⟨d1,d2,d3,d4,d5⟩:=oM htx
   rw [List.length_drop] at d2
   obtain ⟨d,hd⟩:∃ d,c'+k'=d:=⟨_,rfl⟩
   have c2:=nN htx hd hb (by omega)
   have hst:=hnx.2 x k' d htx hd
   have hw1:IntKind.i64.wrap ((b.length:Int)-d)=((b.length-d:Nat):Int):=by rw [aA (by omega) (by omega)];omega
   generalize hbl:b.length-d=bl at hw1 hst
   refine oK (Z1 c2) ?_
   refine aP4 hw1 100 (!decide (0<=x/\x<=(bl:Int))) ?_
   refine aO rfl (fun h=>aN ?_) (fun h=>aQ ?_)
   ·rw [Bool.not_eq_true',decide_eq_false_iff_not] at h
    rw [aCW (hst.1 h) _ (by omega)] at hr
    dsimp only at hr
    subst hr
    refine u_5 ?_
    exact u_8 (Y2 @oF.eq_1 @oF.eq_2)
   rw [Bool.not_eq_false',decide_eq_true_eq] at h
   have hst2:=hst.2 h
   obtain ⟨s,hs⟩:∃ s:Nat,x.toNat=s:=⟨_,rfl⟩
   have hxs:x=s:=by omega
   subst hxs
   rw [hs] at hst2
   have hcut:=vC (l:=b.drop d) rfl s
   obtain ⟨z,hz⟩:∃ z,(b.drop d).take s=z:=⟨_,rfl⟩
   rw [hz] at hcut hst2
   obtain ⟨ds,hds⟩:∃ ds,d+s=ds:=⟨_,rfl⟩
   rw [hds] at hcut hst2
   have hw2:IntKind.i64.wrap ((d:Int)+s)=ds:=by rw [aA (by omega) (by omega)];omega
   refine aSz (Y5 hw2 hcut @eP @sP.eq_1 @aM.eq_1) ?_
   refine u_2 hw2 ?_
   refine u_5 ?_
   refine ⟨mm.toNat-(i+1),by omega,i+1,ds,ts++[z],rfl,by omega,hst2,?_⟩
   simp [gc,bP,cI,gcV,gcO,dS,cU,eH,aY,bR,bU,dU,aK]
   exact aA (by omega) (by omega)
 simp at h2
 rw [if_pos rfl]
 have hin:i=mm.toNat:=by omega
 rw [<-hin,hx2] at hr
 dsimp only at hr
 have cr:=pI y.toNat xs ts (by omega) (by omega)
 generalize mN y.toNat xs ts=q at cr hr
 obtain ⟨u,hu⟩:∃ u,decide (c'=b.length)=u:=⟨_,rfl⟩
 have he2:((c':Int) != (b.length:Int))=!u:=by rw [<-hu,Bool.eq_iff_iff];simp;omega
 cases u with
 |false=>
  rw [if_neg (fun h=>of_decide_eq_false hu h.1)] at hr
  subst hr
  refine aUG he2 ?_
  refine aO rfl (fun h=>aN ?_) (fun h=>?_)
  ·refine u_5 ?_
   exact u_8 (Y2 @oF.eq_1 @oF.eq_2)
  ·cases h
 |true=>
  have hcb:=of_decide_eq_true hu
  refine aWq he2 (Z1 cr) ?_
  refine aO rfl (fun h=>aN ?_) (fun h=>aQ ?_)
  ·simp at h
   subst h
   rw [if_neg (by simp)] at hr
   subst hr
   refine u_5 ?_
   exact u_8 (Y2 @oF.eq_1 @oF.eq_2)
  ·simp at h
   subst h
   rw [if_pos ⟨hcb,rfl⟩] at hr
   subst hr
   refine u_1 ?_
   exact u_8 (Y2 @oF.eq_1 @oF.eq_2)
def aIt (b:List UInt8) (a:Nat):Except Int (Rec×Nat):=
 let rest:=b.drop a
 if rest.length<2 then .error 1 else
 let n:=256*(rest[0]?.getD 0).toNat+(rest[1]?.getD 0).toNat
 if ¬(3<=n/\n<=4000) then .error 2 else
 if rest.length<n+6 then .error 1 else
 match aRP ((rest.drop 2).take n) with
 |none=>.error 2
 |some r=>if beN (rZ ((rest.drop 2).take n) % 4294967296).toNat 4=(rest.drop (2+n)).take 4 then .ok (r,a+(n+6)) else .error 2
def aBe (b:List UInt8):Nat->Nat->List Rec->List Rec×Nat×Int
 |0,a,l=>(l,a,0)
 |n+1,a,l=>if a<b.length then
   match aIt b a with
   |.error c=>(l,a,c)
   |.ok (r,a')=>aBe b n a' (l++[r])
  else (l,a,0)
def aBd (b:List UInt8):List Rec×Nat×Int:=if b.length<=40000 then aBe b b.length 0 [] else ([],0,2)
theorem aOC {b:List UInt8} {n a:Nat} {l:List Rec} (h:b.length<=a):aBe b n a l=(l,a,0):=by
 cases n with
 |zero=>rfl
 |succ n=>simp only [aBe];rw [if_neg (by omega)]
def aHU (r:Rec):List D:=[.int .i64 r.1,.slc 1 (bM r.2.1),.slc 1 (aK r.2.2)]
def vS (l:List Rec):List (List D):=l.map aHU
@[simp] theorem aWL (l:List Rec):(vS l).length=l.length:=by simp [vS]
theorem vI (b:List UInt8) (l:List Rec) (a:Nat) (c:Int) (hr:aBd b=(l,a,c)) (hb:b.length<=1000000):
  aC PP GG 172 [.d (.slc 1 (aB b))] (.tup [.own 1 3 (vS l),.d (.int .i64 a),.d (.int .i64 c)]) [none]:=by
 refine cv Tryz.func172 [.own 1 3 (vS l),.d (.int .i64 a),.d (.int .i64 c)] ?_
 unfold aBd at hr
 refine u_1 ?_
 refine aCg 13 (decide (40000<b.length)) ?_
 refine aO rfl (fun h=>aN ?_) (fun h=>aQ ?_)
 ·simp at h
  rw [if_neg (by omega)] at hr
  cases hr
  refine u_5 ?_
  exact u_8 @vS.eq_1
 simp at h
 rw [if_pos (by omega)] at hr
 refine u_6 @sP.eq_1 ?_
 refine u_1 ?_
 refine aN (aU (bH (fun m st=>∃ (p:Nat) (ls:List Rec),aBe b m p ls=(l,a,c)/\p<=b.length/\b.length<=p+m/\ls.length<=p ∧
  st=⟨[],[(0,.d (.slc 1 (aB b))),(5,.sl 0),(6,.d (.int .i64 p))],[(0,.arr 0 1 3 (vS ls))],1⟩) _
  ⟨0,[],hr,by omega,by omega,by simp,by simp [gc,bP,cI,gcV,gcO,dS,cU,eH,aY,bR,bU,dU,vS]⟩ ?_))
 rintro m st ⟨p,ls,hs,hp,hpm,hll,rfl⟩
 refine aCg 18 (decide (p<b.length)) ?_
 refine aO rfl (fun h2=>aQ ?_) (fun h2=>cR ?_)
 ·simp at h2
  obtain ⟨m,rfl⟩:∃ k,m=k+1:=⟨m-1,by omega⟩
  simp only [aBe] at hs
  rw [if_pos h2] at hs
  obtain ⟨rest,hrest⟩:∃ rest,b.drop p=rest:=⟨_,rfl⟩
  have hrl:rest.length=b.length-p:=by rw [<-hrest,List.length_drop]
  unfold aIt at hs
  rw [hrest] at hs
  dsimp only at hs
  have f10:IntKind.i64.wrap ((b.length:Int)-p)=(rest.length:Int):=by rw [aA (by omega) (by omega)];omega
  refine aU (aN ?_)
  refine u_2 f10 ?_
  refine aCg 24 (decide (rest.length<2)) ?_
  refine aO rfl (fun h3=>aN ?_) (fun h3=>aQ ?_)
  ·simp at h3
   rw [if_pos h3] at hs
   cases hs
   refine u_5 ?_
   exact u_7
  simp at h3
  rw [if_neg (by omega)] at hs
  have hx0:=List.getElem?_eq_getElem (show 0<rest.length by omega)
  have hx1:=List.getElem?_eq_getElem (show 1<rest.length by omega)
  generalize rest[0]'_=x0 at hx0
  generalize rest[1]'_=x1 at hx1
  rw [hx0,hx1] at hs
  simp only [Option.getD_some] at hs
  have hl0:=x0.toNat_lt
  have hl1:=x1.toNat_lt
  obtain ⟨n,hn⟩:∃ n,256*x0.toNat+x1.toNat=n:=⟨_,rfl⟩
  rw [hn] at hs
  have hb0:b[p]?=some x0:=by rw [<-hx0,<-hrest,List.getElem?_drop,Nat.add_zero]
  obtain ⟨p1,hp1⟩:∃ p1,p+1=p1:=⟨_,rfl⟩
  have hb1:b[p1]?=some x1:=by rw [<-hx1,<-hrest,List.getElem?_drop,hp1]
  have fp1:IntKind.i64.wrap ((p:Int)+1)=(p1:Int):=by rw [aA (by omega) (by omega)];omega
  have f0:IntKind.i64.wrap (x0.toNat:Int)=x0.toNat:=aA (by omega) (by omega)
  have f1:IntKind.i64.wrap (x1.toNat:Int)=x1.toNat:=aA (by omega) (by omega)
  obtain ⟨z,hz⟩:∃ z,256*x0.toNat=z:=⟨_,rfl⟩
  have f2:IntKind.i64.wrap (256*(x0.toNat:Int))=(z:Int):=by rw [aA (by omega) (by omega)];omega
  have f3:IntKind.i64.wrap ((z:Int)+x1.toNat)=(n:Int):=by rw [aA (by omega) (by omega)];omega
  have ci:aC PP GG 20 [.d (.int .i64 n),.d (.int .i64 3),.d (.int .i64 4000)] (.d (.bool (inB n 3 4000))) [none,none,none]:=bD _ _ _
  have hin:inB n 3 4000=decide (3<=n/\n<=4000):=by unfold inB;rw [Bool.eq_iff_iff];simp;omega
  generalize inB n 3 4000=q at ci hin
  refine aSz (Y7 hb0 hb1 fp1 f0 f1 f2 f3) ?_
  refine aD4 (Z1 ci) ?_
  refine aO rfl (fun h4=>aN ?_) (fun h4=>aQ ?_)
  ·simp at h4
   subst h4
   rw [if_pos (of_decide_eq_false hin.symm)] at hs
   cases hs
   refine u_5 ?_
   exact u_7
  simp at h4
  subst h4
  have hnr:=of_decide_eq_true hin.symm
  rw [if_neg (by omega)] at hs
  clear ci hin f2 f3
  have f4:IntKind.i64.wrap ((n:Int)+6)=((n+6:Nat):Int):=by rw [aA (by omega) (by omega)];omega
  obtain ⟨n6,hn6⟩:∃ n6,n+6=n6:=⟨_,rfl⟩
  rw [hn6] at f4
  refine aP4 f4 48 (decide (rest.length<n6)) ?_
  refine aO rfl (fun h5=>aN ?_) (fun h5=>aQ ?_)
  ·simp at h5
   rw [if_pos (by omega)] at hs
   cases hs
   refine u_5 ?_
   exact u_7
  simp at h5
  rw [if_neg (by omega)] at hs
  obtain ⟨p2,hp2⟩:∃ p2,p+2=p2:=⟨_,rfl⟩
  obtain ⟨p2n,hp2n⟩:∃ p2n,p2+n=p2n:=⟨_,rfl⟩
  obtain ⟨p6,hp6⟩:∃ p6,p+6=p6:=⟨_,rfl⟩
  obtain ⟨p6n,hp6n⟩:∃ p6n,p6+n=p6n:=⟨_,rfl⟩
  have g2:IntKind.i64.wrap ((p:Int)+2)=(p2:Int):=by rw [aA (by omega) (by omega)];omega
  have g2n:IntKind.i64.wrap ((p2:Int)+n)=(p2n:Int):=by rw [aA (by omega) (by omega)];omega
  have g6:IntKind.i64.wrap ((p:Int)+6)=(p6:Int):=by rw [aA (by omega) (by omega)];omega
  have g6n:IntKind.i64.wrap ((p6:Int)+n)=(p6n:Int):=by rw [aA (by omega) (by omega)];omega
  have hcut:=vC (b:=b) (a:=p2) (l:=rest.drop 2) (by rw [<-hrest,List.drop_drop,hp2]) n
  obtain ⟨body,hbody⟩:∃ body,(rest.drop 2).take n=body:=⟨_,rfl⟩
  have hbl:body.length=n:=by rw [<-hbody,List.length_take,List.length_drop];omega
  rw [hbody] at hcut hs
  rw [hp2n] at hcut
  have hcut2:=vC (b:=b) (a:=p2n) (l:=rest.drop (2+n)) (by rw [<-hrest,List.drop_drop];congr 1;omega) 4
  obtain ⟨sum,hsum⟩:∃ sum,(rest.drop (2+n)).take 4=sum:=⟨_,rfl⟩
  have hsl:sum.length=4:=by rw [<-hsum,List.length_take,List.length_drop];omega
  rw [hsum] at hcut2 hs
  rw [show p2n+4=p6n by omega] at hcut2
  obtain ⟨r,hdr2⟩:∃ r,aRP body=r:=⟨_,rfl⟩
  have cd:=aBj body r hdr2 (by omega)
  rw [hdr2] at hs
  cases r with
  |none=>
   cases hs
   refine aP7 (Y5 g2 g2n hcut @oF.eq_1 @oF.eq_2) (Z1 cd) ?_
   refine aN (aN (?_))
   apply aA3
   ·intro K hK
    simp
    repeat' (first|with_reducible exact hK|(with_reducible refine aJ (fun _=>?_) (fun _=>?_)<;>simp)|with_reducible refine And.intro ?_ ?_|with_reducible exact aL rfl|with_reducible assumption|omega)
   refine aO rfl (fun h6=>aN ?_) (fun h6=>?_)
   ·refine u_5 ?_
    exact u_7
   ·cases h6
  |some r=>
   obtain ⟨k,xs,ts⟩:=r
   dsimp only at hs
   have hdg:=vB body
   obtain ⟨dg,hdg2⟩:∃ dg:Nat,rZ body % 4294967296=dg:=⟨(rZ body % 4294967296).toNat,by omega⟩
   have hdl:dg<4294967296:=by omega
   have f7:(rZ body).tmod 4294967296=(dg:Int):=by rw [Int.tmod_eq_emod_of_nonneg hdg.1,hdg2]
   have f8:(rZ body % 4294967296).toNat=dg:=by omega
   rw [f8] at hs
   have cdg:=tX body (by omega)
   generalize rZ body=dgi at f7 cdg
   have cbe:aC PP GG 132 [.d (.int .i64 dg),.d (.int .i64 4)] (.own 0 1 (aB (beN dg 4))) [none,none]:=zE dg 4 (by omega) (by omega)
   have hw4:(beN dg 4).length=4:=rfl
   have cq:=aES sum (beN dg 4) (by omega) (by omega)
   generalize beN dg 4=w at cbe cq hs hw4
   have ind0:=aZ w
   obtain ⟨q,hq⟩:∃ q,decide (sum=w)=q:=⟨_,rfl⟩
   rw [hq] at cq
   refine aP7 (Y5 g2 g2n hcut @oF.eq_1 @oF.eq_2) (Z1 cd) ?_
   refine aWr (Y7 g2 g2n g6 g6n f7 hcut hcut2) (Z3 cdg cbe cq) ?_
   refine aO rfl (fun h6=>aN ?_) (fun h6=>aQ ?_)
   ·simp at h6
    subst h6
    rw [if_neg (fun e=>of_decide_eq_false hq e.symm)] at hs
    cases hs
    refine u_5 ?_
    exact u_7
   simp at h6
   subst h6
   rw [if_pos (of_decide_eq_true hq).symm] at hs
   obtain ⟨pn,hpn⟩:∃ pn,p+n=pn:=⟨_,rfl⟩
   have f9:IntKind.i64.wrap ((p:Int)+n)=(pn:Int):=by rw [aA (by omega) (by omega)];omega
   have f9b:IntKind.i64.wrap ((pn:Int)+6)=((p+n6:Nat):Int):=by rw [aA (by omega) (by omega)];omega
   refine u_6 (Y2 @sP.eq_1 @aM.eq_1) ?_
   refine u_2 (Y2 f9 f9b) ?_
   rw [hn6] at hs
   refine ⟨m,by omega,p+n6,ls++[(k,xs,ts)],hs,by omega,by omega,by simp;omega,?_⟩
   simp [gc,bP,cI,gcV,gcO,dS,cU,eH,aY,bR,bU,dU,vS,aHU]
 ·simp at h2
  rw [aOC h2] at hs
  cases hs
  rw [if_pos rfl]
  refine u_1 ?_
  exact u_7
theorem aBD (l:List Rec):∀ row,row∈vS l->∀ d,d∈row->oB 1 d:=by
 intro row hr d hd
 simp only [vS,List.mem_map] at hr
 obtain ⟨x,_,rfl⟩:=hr
 simp only [aHU,List.mem_cons,List.not_mem_nil,or_false] at hd
 rcases hd with rfl|rfl|rfl
 ·trivial
 ·exact jE _
 ·exact cC _
def aTo (a b:List UInt8):List Rec×Int:=if a.length+b.length<=40000 then ((aBd (a++b)).1,(aBd (a++b)).2.2) else ([],3)
theorem nD (a b:List UInt8) (h:a.length+b.length<=1048576):aC PP GG 101 [.agg [.d (.slc 1 (aB a)),.d (.slc 1 (aB b))]] (.d (.bool (decide (a.length+b.length<=40000)))) [none]:=by
 refine cv Tryz.func101 [.d (.bool (decide (a.length+b.length<=40000)))] ?_
 have hw:IntKind.i64.wrap (40000-(a.length:Int))=40000-(a.length:Int):=aA (by omega) (by omega)
 refine u_1 ?_
 refine aWs hw 2 (decide (a.length+b.length<=40000)) ?_
 exact u_7
theorem aHJ (a b:List UInt8) (l:List Rec) (c:Int) (hr:aTo a b=(l,c)) (h:a.length+b.length<=1048576):
  aC PP GG 117 [.agg [.d (.slc 1 (aB a)),.d (.slc 1 (aB b))]] (.tup [.own 1 3 (vS l),.d (.int .i64 c)]) [none]:=by
 refine cv Tryz.func117 [.own 1 3 (vS l),.d (.int .i64 c)] ?_
 unfold aTo at hr
 have cd:=nD a b h
 refine u_1 ?_
 refine aD4 (Z1 cd) ?_
 refine aO rfl (fun h2=>aN ?_) (fun h2=>aQ ?_)
 ·simp at h2
  rw [if_neg (by omega)] at hr
  cases hr
  refine u_5 ?_
  exact u_8 @vS.eq_1
 simp at h2
 rw [if_pos (by omega)] at hr
 obtain ⟨e,he⟩:∃ e,aBd (a++b)=e:=⟨_,rfl⟩
 rw [he] at hr
 obtain ⟨l',p,c'⟩:=e
 cases hr
 have cw:=gD a b (by omega)
 have cs:=vI (a++b) l' p c' he (by rw [List.length_append];omega)
 have i3:=aZ (a++b)
 have i4:=aBD l'
 refine oK (Z2 cw cs) ?_
 refine u_1 ?_
 exact u_7
def sS (n:Nat) (es:List dL):Prop:=es.length<=n/\∀ e,e∈es->e.dM.length<=512/\e.fU.length<=n/\∀ v,v∈e.fU->v.dI.length<=512
theorem sS.mono {n m:Nat} {es:List dL} (h:sS n es) (hm:n<=m):sS m es:=⟨by have:=h.1;omega,fun e he=>⟨(h.2 e he).1,by have:=(h.2 e he).2.1;omega,(h.2 e he).2.2⟩⟩
theorem aFM {a:List eK} {i:Nat} {x:eK} (h:a[i]?=some x):dC (a.take (i+1))=dC (a.take i)++[x.row]:=by
 rw [List.take_add_one,h];simp [dC]
theorem aBn (a:List eK) (i:Nat):(dC (a.take i)).length<=i:=by rw [aHW,List.length_take];omega
theorem aBC (l:List eK):∀ row,row∈dC l->∀ d,d∈row->oB 1 d:=by
 intro row h d hd
 simp only [dC,List.mem_map] at h
 obtain ⟨x,_,rfl⟩:=h
 simp only [eK.row,List.mem_cons,List.not_mem_nil,or_false] at hd
 rcases hd with rfl|rfl|rfl|rfl
 ·exact aZ x.dI
 ·trivial
 ·trivial
 ·trivial
theorem aKT {a:List dL} {i:Nat} {x:dL} (h:a[i]?=some x):bL (a.take (i+1))=bL (a.take i)++[x.row]:=by
 rw [List.take_add_one,h];simp [bL]
theorem aDE (a:List dL) (i:Nat):(bL (a.take i)).length<=i:=by rw [aMs,List.length_take];omega
theorem zF (l:List dL):∀ row,row∈bL l->∀ d,d∈row->oB 2 d:=by
 intro row h d hd
 simp only [bL,List.mem_map] at h
 obtain ⟨x,_,rfl⟩:=h
 simp only [dL.row,List.mem_cons,List.not_mem_nil,or_false] at hd
 rcases hd with rfl|rfl|rfl
 ·trivial
 ·trivial
 ·exact aBC x.fU
theorem aDG (e:dL) (h1:e.fU.length<=4096) (h2:∀ v,v∈e.fU->v.dI.length<=512):aC PP GG 229 [.agg e.c] (.agg e.o) [none]:=by
 refine cv Tryz.func229 [.agg e.o] ?_
 obtain ⟨p,f,a⟩:=e
 dsimp only at h1 h2 ⊢
 refine jJ ?_
 refine kX 3 2 rfl rfl rfl ?_
 refine jJ ?_
 refine bH (fun n st=>∃ i:Nat,n=a.length-i/\i<=a.length ∧
  st=⟨[],[(1,.ptr 0 0),(2,.ptr 1 0),(3,.ptr 2 0),(4,.d (.int .i64 i))],[(0,.box [.d (.str p),.d (.int .i64 f),.d (.slc 4 (dC a))]),(1,.box [.d (.str []),.d (.int .i64 0),.nil 1 4]),(2,.box [.d (.str p),.d (.int .i64 f),.sl 3]),(3,.arr 0 1 4 (dC (a.take i)))],4⟩) _ ⟨0,rfl,by omega,?_⟩ ?_
 ·exact gE @dC.eq_1
 rintro n st ⟨i,rfl,hi,rfl⟩
 by_cases hlt:i<a.length
 rotate_left
 ·have hie:i=a.length:=by omega
  subst hie
  rw [List.take_length]
  exact nK
 have ha:=List.getElem?_eq_getElem hlt
 have hm:=h2 _ (List.getElem_mem hlt)
 generalize a[i]=x at ha hm
 have hsc:=aFM ha
 have hlen:=aBn a i
 have hir:=aBC (a.take i)
 obtain ⟨x1,x2,x3,x4⟩:=x
 dsimp only at hm
 have cb:=jH x1 (by omega)
 generalize dC (a.take i)=L at *
 refine fV (Y2 ha @aM.eq_1) (Z1 cb) ?_
 refine ⟨a.length-(i+1),by omega,i+1,rfl,hlt,?_⟩
 rw [hsc]
 refine kN ?_
 exact aA (by omega) (by omega)
theorem aEP (a:List dL) (n:Nat) (hn:n<=4096) (hf:sS n a):aC PP GG 199 [.agg [.d (.slc 3 (bL a))]] (.agg [.own 2 3 (bL a)]) [none]:=by
 refine cv Tryz.func199 [.agg [.own 2 3 (bL a)]] ?_
 refine jJ ?_
 refine kX 3 0 rfl rfl rfl ?_
 refine jJ ?_
 refine bH (fun n st=>∃ i:Nat,n=a.length-i/\i<=a.length ∧
  st=⟨[],[(1,.ptr 0 0),(2,.ptr 1 0),(3,.ptr 2 0),(4,.d (.int .i64 i))],[(0,.box [.d (.slc 3 (bL a))]),(1,.box [.nil 2 3]),(2,.box [.sl 3]),(3,.arr 0 2 3 (bL (a.take i)))],4⟩) _ ⟨0,rfl,by omega,?_⟩ ?_
 ·exact gE @bL.eq_1
 rintro k st ⟨i,rfl,hi,rfl⟩
 have hla:=hf.1
 by_cases hlt:i<a.length
 rotate_left
 ·have hie:i=a.length:=by omega
  subst hie
  rw [List.take_length]
  exact nK
 have ha:=List.getElem?_eq_getElem hlt
 have hm:=hf.2 _ (List.getElem_mem hlt)
 generalize a[i]=x at ha hm
 have hsc:=aKT ha
 have hlen:=aDE a i
 have hir:=zF (a.take i)
 have ct:=aDG x (by omega) hm.2.2
 generalize bL (a.take i)=L at *
 refine fV (Y2 ha @aM.eq_1) (Z1 ct) ?_
 refine ⟨a.length-(i+1),by omega,i+1,rfl,hlt,?_⟩
 rw [hsc]
 refine kN ?_
 exact aA (by omega) (by omega)
theorem aId (a:List dL) (p:List UInt8) (hl:a.length<=4096):∃ i:Int,(i=-1\/∃ k:Nat,i=k/\k<a.length)/\aC PP GG 200 [.agg [.d (.slc 3 (bL a))],.d (.str p)] (.d (.int .i64 i)) [none,none]:=by
 refine cvD Tryz.func200 (α:=Int) 1 _ (fun i=>[.d (.int .i64 i)]) _ (fun _=>rfl) ?_
 refine mG ?_
 refine gA (fun n st=>∃ i:Nat,n=a.length-i/\i<=a.length ∧
  st=⟨[],[(1,.d (.str p)),(2,.ptr 0 0),(5,.d (.int .i64 i))],[(0,.box [.d (.slc 3 (bL a))])],1⟩) _ ⟨0,rfl,by omega,?_⟩ ?_
 ·exact fI
 rintro n st ⟨i,rfl,hi,rfl⟩
 by_cases hlt:i<a.length
 rotate_left
 ·have hie:i=a.length:=by omega
  subst hie
  refine mG ?_
  exact ⟨-1,.inl rfl,by simp [Fin]⟩
 have ha:=List.getElem?_eq_getElem hlt
 generalize a[i]=x at ha
 have hw:IntKind.i64.wrap ((i:Int)+1)=(i:Int)+1:=aA (by omega) (by omega)
 refine aSt ha ?_ ?_
 ·exact ⟨i,.inr ⟨i,rfl,hlt⟩,by simp [Fin]⟩
 ·refine ⟨a.length-(i+1),by omega,i+1,rfl,hlt,?_⟩
  exact dV hw
def okE (e:dL):Prop:=1<=e.jO/\e.jO<=1000000/\1<=e.fU.length/\e.fU.length<=8
theorem tW (a:List dL) (n:Nat) (hn:n<=4096) (hf:sS n a):∃ b:Bool,(b=true->∀ e,e∈a->okE e)/\aC PP GG 198 [.agg [.d (.slc 3 (bL a))]] (.d (.bool b)) [none]:=by
 refine cvD Tryz.func198 (α:=Bool) 1 _ (fun b=>[.d (.bool b)]) _ (fun _=>rfl) ?_
 have hla:=hf.1
 refine aUD ?_ ?_
 ·exact ⟨false,by simp,by simp [Fin]⟩
 refine gA (fun n st=>∃ i:Nat,n=a.length-i/\i<=a.length/\(∀ e,e∈a.take i->okE e) ∧
  st=⟨[],[(1,.ptr 0 0),(3,.d (.int .i64 i))],[(0,.box [.d (.slc 3 (bL a))])],1⟩) _ ⟨0,rfl,by omega,by simp,?_⟩ ?_
 ·exact fI
 rintro k st ⟨i,rfl,hi,hok,rfl⟩
 by_cases hlt:i<a.length
 rotate_left
 ·have hie:i=a.length:=by omega
  subst hie
  refine mG ?_
  exact ⟨true,fun _=>by rwa [List.take_length] at hok,by simp [Fin]⟩
 have ha:=List.getElem?_eq_getElem hlt
 have hm:=hf.2 _ (List.getElem_mem hlt)
 generalize a[i]=x at ha hm
 obtain ⟨p,f,vs⟩:=x
 dsimp only at hm
 have cp:=gF p (by omega)
 generalize gO p=b1 at cp
 have c1:aC PP GG 20 [.d (.int .i64 f),.d (.int .i64 1),.d (.int .i64 1000000)] (.d (.bool (inB f 1 1000000))) [none,none,none]:=bD _ _ _
 obtain ⟨b2,hb2⟩:∃ b,inB f 1 1000000=b:=⟨_,rfl⟩
 rw [hb2] at c1
 have c2:aC PP GG 20 [.d (.int .i64 (vs.length:Nat)),.d (.int .i64 1),.d (.int .i64 8)] (.d (.bool (inB (vs.length:Nat) 1 8))) [none,none,none]:=bD _ _ _
 obtain ⟨b3,hb3⟩:∃ b,inB (vs.length:Nat) 1 8=b:=⟨_,rfl⟩
 rw [hb3] at c2
 cases b1
 ·refine cP ha (Z1 cp) ?_
  exact ⟨false,by simp,by simp [Fin]⟩
 cases b2
 ·refine cP ha (Z2 cp c1) ?_
  exact ⟨false,by simp,by simp [Fin]⟩
 cases b3
 ·refine cP ha (Z3 cp c1 c2) ?_
  exact ⟨false,by simp,by simp [Fin]⟩
 have hok':∀ e,e∈a.take (i+1)->okE e:=by
  intro e he
  rw [List.take_add_one,ha] at he
  rcases List.mem_append.1 he with he|he
  ·exact hok e he
  ·simp at he;subst he
   have q1:=cD hb2
   have q2:=cD hb3
   exact ⟨q1.1,q1.2,by dsimp only;omega,by dsimp only;omega⟩
 clear hb2 hb3 hok
 have hvl:=hm.2.1
 have hvd:=hm.2.2
 clear hm hf
 have hw:IntKind.i64.wrap ((i:Int)+1)=(i:Int)+1:=aA (by omega) (by omega)
 by_cases h0:0<i
 ·have h0':((0:Int)<(i:Int))=True:=by simp;omega
  obtain ⟨j,hj⟩:∃ j,i=j+1:=⟨i-1,by omega⟩
  have hwj:IntKind.i64.wrap ((i:Int)-1)=(j:Int):=by rw [aA (by omega) (by omega)];omega
  have hq:=List.getElem?_eq_getElem (show j<a.length by omega)
  have hjl:j<a.length:=by omega
  generalize a[j]=q at hq
  refine aUC (Y4 ha h0' hwj hq) (Z3 cp c1 c2) ?_ ?_
  ·exact ⟨false,by simp,by simp [Fin]⟩
  refine gA (fun n st=>∃ k:Nat,n=vs.length-k/\k<=vs.length/\st=⟨[],[(1,.ptr 0 0),(3,.d (.int .i64 i)),(4,.ptr 1 0),(5,.d (.int .i64 k))],[(0,.box [.d (.slc 3 (bL a))]),(1,.box [.d (.str p),.d (.int .i64 f),.d (.slc 4 (dC vs))])],2⟩) _ ⟨0,rfl,by omega,?_⟩ ?_
  ·exact fI
  rintro k2 st ⟨k,rfl,hk,rfl⟩
  by_cases hkl:k<vs.length
  ·have hv:=List.getElem?_eq_getElem hkl
   generalize vs[k]=v at hv
   obtain ⟨d,md,gn,dd⟩:=v
   have hwk:IntKind.i64.wrap ((k:Int)+1)=(k:Int)+1:=aA (by omega) (by omega)
   have c3:aC PP GG 20 [.d (.int .i64 md),.d (.int .i64 0),.d (.int .i64 1000000000)] (.d (.bool (inB md 0 1000000000))) [none,none,none]:=bD _ _ _
   generalize inB md 0 1000000000=b4 at c3
   clear ha c1 c2 cp
   repeat' (first|refine gH ?_|refine eL ?_|refine eC ?_|refine dR ?_|refine eW ?_|refine aW rfl ?_|refine bB rfl ?_|((first|refine eQ fun K hK=>?_|refine dQ fun K hK=>?_|with_reducible refine aF (c3) ?_);simp [Fin,hv])|(with_reducible refine hK _ ?_;clear hK K)|(with_reducible refine aJ (fun h=>?_) (fun h=>?_)<;>first|(exfalso;simp at h;first|done|omega|contradiction)|((try simp at h);simp [hv]))|with_reducible refine And.intro ?_ ?_|with_reducible exact aL rfl|with_reducible assumption|(refine dN rfl (fun h=>?_) (fun h=>?_)<;>first|(exfalso;simp at h;first|done|omega|contradiction)|(exfalso;simp_all;done)|(try simp at h))|omega)
   all_goals first
    |exact ⟨false,by simp,by simp [Fin]⟩
    |(refine ⟨vs.length-(k+1),by omega,k+1,rfl,hkl,?_⟩
      simp [gc,bP,cI,gcV,gcO,dS,cU,eH,aY,bR,bU,dU,hwk])
  ·have hke:k=vs.length:=by omega
   subst hke
   refine mG ?_
   refine ⟨a.length-(i+1),by omega,i+1,rfl,hlt,hok',?_⟩
   exact dV hw
 ·have h0':((0:Int)<(i:Int))=False:=by simp;omega
  refine cP (Y2 ha h0') (Z3 cp c1 c2) ?_
  refine gA (fun n st=>∃ k:Nat,n=vs.length-k/\k<=vs.length/\st=⟨[],[(1,.ptr 0 0),(3,.d (.int .i64 i)),(4,.ptr 1 0),(5,.d (.int .i64 k))],[(0,.box [.d (.slc 3 (bL a))]),(1,.box [.d (.str p),.d (.int .i64 f),.d (.slc 4 (dC vs))])],2⟩) _ ⟨0,rfl,by omega,?_⟩ ?_
  ·exact fI
  rintro k2 st ⟨k,rfl,hk,rfl⟩
  by_cases hkl:k<vs.length
  ·have hv:=List.getElem?_eq_getElem hkl
   generalize vs[k]=v at hv
   obtain ⟨d,md,gn,dd⟩:=v
   have hwk:IntKind.i64.wrap ((k:Int)+1)=(k:Int)+1:=aA (by omega) (by omega)
   have c3:aC PP GG 20 [.d (.int .i64 md),.d (.int .i64 0),.d (.int .i64 1000000000)] (.d (.bool (inB md 0 1000000000))) [none,none,none]:=bD _ _ _
   generalize inB md 0 1000000000=b4 at c3
   clear ha c1 c2 cp
   repeat' (first|refine gH ?_|refine eL ?_|refine eC ?_|refine dR ?_|refine eW ?_|refine aW rfl ?_|refine bB rfl ?_|((first|refine eQ fun K hK=>?_|refine dQ fun K hK=>?_|with_reducible refine aF (c3) ?_);simp [Fin,hv])|(with_reducible refine hK _ ?_;clear hK K)|(with_reducible refine aJ (fun h=>?_) (fun h=>?_)<;>first|(exfalso;simp at h;first|done|omega|contradiction)|((try simp at h);simp [hv]))|with_reducible refine And.intro ?_ ?_|with_reducible exact aL rfl|with_reducible assumption|(refine dN rfl (fun h=>?_) (fun h=>?_)<;>first|(exfalso;simp at h;first|done|omega|contradiction)|(exfalso;simp_all;done)|(try simp at h))|omega)
   all_goals first
    |exact ⟨false,by simp,by simp [Fin]⟩
    |(refine ⟨vs.length-(k+1),by omega,k+1,rfl,hkl,?_⟩
      simp [gc,bP,cI,gcV,gcO,dS,cU,eH,aY,bR,bU,dU,hwk])
  ·have hke:k=vs.length:=by omega
   subst hke
   refine mG ?_
   refine ⟨a.length-(i+1),by omega,i+1,rfl,hlt,hok',?_⟩
   exact dV hw
theorem aOd (a:List dL) (n:Nat) (p:List UInt8) (ver:Int) (hn:n<=4096) (hf:sS n a):∃ r:List UInt8×Int×Int,r.1.length<=512 ∧
  aC PP GG 158 [.agg [.d (.slc 3 (bL a))],.d (.str p),.d (.int .i64 ver)] (.tup [.own 0 1 (aB r.1),.d (.int .i64 r.2.1),.d (.int .i64 r.2.2)]) [none,none,none]:=by
 refine cvD Tryz.func158 (α:=List UInt8×Int×Int) 3 _ (fun r=>[.own 0 1 (aB r.1),.d (.int .i64 r.2.1),.d (.int .i64 r.2.2)]) _ (fun _=>rfl) ?_
 obtain ⟨b,hb,cs⟩:=tW a n hn hf
 have hla:=hf.1
 obtain ⟨i,hi,ca⟩:=aId a p (by omega)
 cases b
 ·refine eA (Z1 cs) ?_
  exact ⟨([],1,0),by simp,by simp [Fin,aB]⟩
 rcases hi with rfl|⟨k,rfl,hk⟩
 ·refine eA (Z2 cs ca) ?_
  exact ⟨([],2,0),by simp,by simp [Fin,aB]⟩
 have hg:=List.getElem?_eq_getElem hk
 have ho:=hb rfl _ (List.getElem_mem hk)
 have hm:=hf.2 _ (List.getElem_mem hk)
 generalize a[k]=e at hg ho hm
 obtain ⟨q,f,vs⟩:=e
 obtain ⟨o1,o2,o3,o4⟩:=ho
 obtain ⟨m1,m2,m3⟩:=hm
 dsimp only at o1 o2 o3 o4 m1 m2 m3
 have hw1:IntKind.i64.wrap (f+(vs.length:Nat))=f+(vs.length:Nat):=aA (by omega) (by omega)
 have hw2:IntKind.i64.wrap (f+(vs.length:Nat)-1)=f+(vs.length:Nat)-1:=aA (by omega) (by omega)
 have key:∀ N:Int,f<=N->N<=f+(vs.length:Nat)-1->∃ j:Nat,IntKind.i64.wrap (N-f)=(j:Int)/\j<vs.length:=by
  intro N h1 h2
  refine ⟨(N-f).toNat,?_,by omega⟩
  rw [aA (by omega) (by omega)];omega
 by_cases h0:ver=0
 ·subst h0
  have c1:aC PP GG 20 [.d (.int .i64 (f+(vs.length:Nat)-1)),.d (.int .i64 f),.d (.int .i64 (f+(vs.length:Nat)-1))] (.d (.bool (inB (f+(vs.length:Nat)-1) f (f+(vs.length:Nat)-1)))) [none,none,none]:=bD _ _ _
  have e1:inB (f+(vs.length:Nat)-1) f (f+(vs.length:Nat)-1)=true:=rL (by omega) (by omega)
  rw [e1] at c1
  obtain ⟨j,hj,hjl⟩:=key (f+(vs.length:Nat)-1) (by omega) (by omega)
  have hv:=List.getElem?_eq_getElem hjl
  have hvm:=m3 _ (List.getElem_mem hjl)
  generalize vs[j]=v at hv hvm
  obtain ⟨d,md,gn,dd⟩:=v
  dsimp only at hvm
  have cb:=jH d (by omega)
  have hid:=aZ d
  cases dd
  ·cases gn
   ·refine cP (Y5 hg hw1 hw2 hj hv) (Z4 cs ca c1 cb) ?_
    exact ⟨(d,0,f+(vs.length:Nat)-1),hvm,by simp [Fin]⟩
   ·refine cP (Y5 hg hw1 hw2 hj hv) (Z3 cs ca c1) ?_
    exact ⟨([],3,0),by simp,by simp [Fin,aB]⟩
  ·refine cP (Y5 hg hw1 hw2 hj hv) (Z3 cs ca c1) ?_
   exact ⟨([],4,0),by simp,by simp [Fin,aB]⟩
 ·have h0':(ver=0)=False:=by simp [h0]
  have c1:aC PP GG 20 [.d (.int .i64 ver),.d (.int .i64 f),.d (.int .i64 (f+(vs.length:Nat)-1))] (.d (.bool (inB ver f (f+(vs.length:Nat)-1)))) [none,none,none]:=bD _ _ _
  cases e1:inB ver f (f+(vs.length:Nat)-1)
  ·rw [e1] at c1
   refine cP (Y4 hg hw1 hw2 h0') (Z3 cs ca c1) ?_
   exact ⟨([],2,0),by simp,by simp [Fin,aB]⟩
  rw [e1] at c1
  obtain ⟨l1,l2⟩:=cD e1
  obtain ⟨j,hj,hjl⟩:=key ver (by omega) (by omega)
  have hv:=List.getElem?_eq_getElem hjl
  have hvm:=m3 _ (List.getElem_mem hjl)
  generalize vs[j]=v at hv hvm
  obtain ⟨d,md,gn,dd⟩:=v
  dsimp only at hvm
  have cb:=jH d (by omega)
  have hid:=aZ d
  cases dd
  ·cases gn
   ·refine cP (Y6 hg hw1 hw2 hj hv h0') (Z4 cs ca c1 cb) ?_
    exact ⟨(d,0,ver),hvm,by simp [Fin]⟩
   ·refine cP (Y6 hg hw1 hw2 hj hv h0') (Z3 cs ca c1) ?_
    exact ⟨([],3,0),by simp,by simp [Fin,aB]⟩
  ·refine cP (Y6 hg hw1 hw2 hj hv h0') (Z3 cs ca c1) ?_
   exact ⟨([],4,0),by simp,by simp [Fin,aB]⟩
theorem aBz (l:List (List UInt8)) (t:List UInt8) (hl:l.length<=8192):∃ r:List (List UInt8),r.length<=l.length+1/\aC PP GG 203 [.d (.slc 1 (aK l)),.d (.str t)] (.own 0 1 (aK r)) [none,none]:=by
 refine cvD Tryz.func203 (α:=List (List UInt8)) 1 _ (fun r=>[.own 0 1 (aK r)]) _ (fun _=>rfl) ?_
 refine mG ?_
 refine gA (fun n st=>∃ i:Nat,n=l.length-i/\i<=l.length/\∃ (L:List (List UInt8)) (b:Bool),L.length<=i+1/\(b=false->L.length<=i) ∧
  st=⟨[],[(0,.d (.slc 1 (aK l))),(1,.d (.str t)),(5,.sl 0),(6,.d (.bool b)),(7,.d (.int .i64 i))],[(0,.arr 0 0 1 (aK L))],1⟩) _ ⟨0,rfl,by omega,[],false,by simp,by simp,?_⟩ ?_
 ·exact dV @aK.eq_1
 rintro n st ⟨i,rfl,hi,L,b,h1,h2,rfl⟩
 have hli:=cC L
 by_cases hlt:i<l.length
 rotate_left
 ·have hie:i=l.length:=by omega
  subst hie
  cases b
  ·have h2:=h2 rfl
   refine iZ (Y2 @bV @aM.eq_1) ?_
   exact ⟨L++[t],by simp;omega,by simp [Fin,tZ]⟩
  ·refine iZ @bV ?_
   exact ⟨L,by omega,by simp [Fin]⟩
 have ha:=List.getElem?_eq_getElem hlt
 generalize l[i]=x at ha
 have hw:IntKind.i64.wrap ((i:Int)+1)=(i:Int)+1:=aA (by omega) (by omega)
 have e1:∀ M:List (List UInt8),aK M++[[.str x]]=aK (M++[x]):=fun M=>by simp [aK]
 have e2:aK L++[[.str t]]=aK (L++[t]):=by simp [aK]
 cases b
 ·have h2:=h2 rfl
  refine aWm (Y4 ha @eX @bV @aM.eq_1) ?_ ?_ ?_
  ·refine ⟨l.length-(i+1),by omega,i+1,rfl,hlt,L++[t]++[x],true,by simp;omega,by simp,?_⟩
   exact dV (Y2 hw @aK.eq_1)
  ·refine ⟨l.length-(i+1),by omega,i+1,rfl,hlt,L++[x],true,by simp;omega,by simp,?_⟩
   exact dV (Y2 hw @tZ)
  ·refine ⟨l.length-(i+1),by omega,i+1,rfl,hlt,L++[x],false,by simp;omega,by simp;omega,?_⟩
   exact dV (Y2 hw @tZ)
 ·refine iZ (Y4 ha @eX @bV @aM.eq_1) ?_
  refine ⟨l.length-(i+1),by omega,i+1,rfl,hlt,L++[x],true,by simp;omega,by simp,?_⟩
  exact dV (Y2 hw @tZ)
theorem aLV (p s:List UInt8) (hp:p.length<=512) (hs:s.length<=512):∃ b:Bool,(b=true->s=p\/p.length+1<=s.length)/\aC PP GG 202 [.d (.str p),.d (.str s)] (.d (.bool b)) [none,none]:=by
 refine cvD Tryz.func202 (α:=Bool) 1 _ (fun b=>[.d (.bool b)]) _ (fun _=>rfl) ?_
 have c1:=gF p (by omega)
 have c2:=gF s (by omega)
 generalize gO p=b1 at c1
 generalize gO s=b2 at c2
 cases b1
 ·refine eA (Z1 c1) ?_
  exact ⟨false,by simp,by simp [Fin]⟩
 cases b2
 ·refine eA (Z2 c1 c2) ?_
  exact ⟨false,by simp,by simp [Fin]⟩
 by_cases h1:s.length<p.length
 ·refine eA (Z2 c1 c2) ?_
  exact ⟨false,by simp,by simp [Fin]⟩
 by_cases h2:s=p
 ·subst h2
  refine eA (Z2 c1 c2) ?_
  exact ⟨true,by simp,by simp [Fin]⟩
 have h2':(s=p)=False:=by simp [h2]
 by_cases h3:p.length<s.length
 ·repeat' (first|refine gH ?_|refine eL ?_|refine eC ?_|refine dR ?_|refine eW ?_|refine aW rfl ?_|refine bB rfl ?_|((first|refine eQ fun K hK=>?_|refine dQ fun K hK=>?_|with_reducible refine aF (c1) ?_|with_reducible refine aF (c2) ?_);simp [Fin,h2'])|(with_reducible refine hK _ ?_;clear hK K)|(with_reducible refine aJ (fun h=>?_) (fun h=>?_)<;>first|(exfalso;simp at h;first|done|omega|contradiction)|((try simp at h);simp [h2']))|with_reducible refine And.intro ?_ ?_|with_reducible exact aL rfl|with_reducible assumption|(refine dN rfl (fun h=>?_) (fun h=>?_)<;>first|(exfalso;simp at h;first|done|omega|contradiction)|(exfalso;simp_all;done)|(try simp at h))|omega)
  all_goals exact ⟨_,fun _=>.inr h3,by simp [Fin];rfl⟩
 ·refine cP h2' (Z2 c1 c2) ?_
  exact ⟨false,by simp,by simp [Fin]⟩
theorem aSc (a:List dL) (n:Nat) (p:List UInt8) (hn:n<=4096) (hf:sS n a) (hp:p.length<=512):∃ r:List (List UInt8)×Bool,r.1.length<=4096 ∧
  aC PP GG 160 [.agg [.d (.slc 3 (bL a))],.d (.str p)] (.tup [.own 0 1 (aK r.1),.d (.bool r.2)]) [none,none]:=by
 refine cvD Tryz.func160 (α:=List (List UInt8)×Bool) 2 _ (fun r=>[.own 0 1 (aK r.1),.d (.bool r.2)]) _ (fun _=>rfl) ?_
 obtain ⟨b,hb,cs⟩:=tW a n hn hf
 have hla:=hf.1
 have cp:=gF p (by omega)
 generalize gO p=b1 at cp
 refine rE ?_
 refine rE ?_
 refine oD [1,2,6] (fun st'=>st'=⟨[],[(1,.d (.str p)),(2,.ptr 0 0),(6,.sl 1)],[(0,.box [.d (.slc 3 (bL a))]),(1,.arr 0 0 1 [])],2⟩) ?_ ?_
 ·cases b
  ·refine eA (Z2 cs cp) ?_
   exact ⟨([],false),by simp,by simp [Fin,aK]⟩
  ·cases b1
   ·repeat' (first|refine gH ?_|refine eL ?_|refine eC ?_|refine dR ?_|refine eW ?_|refine aW rfl ?_|refine bB rfl ?_|((first|refine eQ fun K hK=>?_|refine dQ fun K hK=>?_|with_reducible refine aF (cs) ?_|with_reducible refine aF (cp) ?_);simp [Fin])|(with_reducible refine hK _ ?_;clear hK K)|(with_reducible refine aJ (fun h=>?_) (fun h=>?_)<;>first|(exfalso;simp at h;first|done|omega|contradiction)|((try simp at h);simp))|with_reducible refine And.intro ?_ ?_|with_reducible exact aL rfl|with_reducible assumption|(refine dN rfl (fun h=>?_) (fun h=>?_)<;>first|(exfalso;simp at h;first|done|omega|contradiction)|(exfalso;simp_all;done)|(try simp at h))|omega)
    all_goals first
     |exact ⟨([],false),by simp,by simp [Fin,aK]⟩
     |simp [gc,bP,cI,gcV,gcO,dS,cU,eH,aY,bR,bU,dU]
   ·repeat' (first|refine gH ?_|refine eL ?_|refine eC ?_|refine dR ?_|refine eW ?_|refine aW rfl ?_|refine bB rfl ?_|((first|refine eQ fun K hK=>?_|refine dQ fun K hK=>?_|with_reducible refine aF (cs) ?_|with_reducible refine aF (cp) ?_);simp [Fin])|(with_reducible refine hK _ ?_;clear hK K)|(with_reducible refine aJ (fun h=>?_) (fun h=>?_)<;>first|(exfalso;simp at h;first|done|omega|contradiction)|((try simp at h);simp))|with_reducible refine And.intro ?_ ?_|with_reducible exact aL rfl|with_reducible assumption|(refine dN rfl (fun h=>?_) (fun h=>?_)<;>first|(exfalso;simp at h;first|done|omega|contradiction)|(exfalso;simp_all;done)|(try simp at h))|omega)
    all_goals simp [gc,bP,cI,gcV,gcO,dS,cU,eH,aY,bR,bU,dU]
 rintro st rfl
 clear cs cp hb
 refine mG ?_
 refine gA (fun n st=>∃ i:Nat,n=a.length-i/\i<=a.length/\∃ L:List (List UInt8),L.length<=i ∧
  st=⟨[],[(1,.d (.str p)),(2,.ptr 0 0),(6,.sl 1),(7,.d (.int .i64 i))],[(0,.box [.d (.slc 3 (bL a))]),(1,.arr 0 0 1 (aK L))],2⟩) _ ⟨0,rfl,by omega,[],by simp,?_⟩ ?_
 ·exact dV @aK.eq_1
 rintro k st ⟨i,rfl,hi,L,hL,rfl⟩
 have hli:=cC L
 by_cases hlt:i<a.length
 rotate_left
 ·have hie:i=a.length:=by omega
  subst hie
  refine mG ?_
  exact ⟨(L,true),by dsimp only;omega,by simp [Fin]⟩
 have ha:=List.getElem?_eq_getElem hlt
 have hm:=hf.2 _ (List.getElem_mem hlt)
 generalize a[i]=x at ha hm
 obtain ⟨q,f,vs⟩:=x
 obtain ⟨m1,m2,m3⟩:=hm
 dsimp only at m1 m2 m3
 have hw:IntKind.i64.wrap ((i:Int)+1)=(i:Int)+1:=aA (by omega) (by omega)
 have hnx:i+1<=a.length:=hlt
 clear hi m3
 have tail:∀ rest:List UInt8,rest.length<=512->∃ (s1:List UInt8) (sg:List (List UInt8)),cJ 47 rest=s1::sg/\s1.length<=512/\sg.length<=512:=by
  intro rest hr
  obtain ⟨s1,sg,e⟩:=jY 47 rest
  have h1:=iK 47 rest
  have h2:=kW (c:=47) rest (p:=s1) (by rw [e];simp)
  rw [e] at h1
  simp at h1
  exact ⟨s1,sg,e,by omega,by omega⟩
 by_cases hpe:p=[]
 ·subst hpe
  obtain ⟨s1,sg,e,l1,l2⟩:=tail q m1
  have cc:=fP q 47 (by omega)
  change aC PP GG 35 [.d (.str q),.d (.int .u8 47)] _ _ at cc
  rw [e] at cc
  by_cases hsg:sg=[]
  ·subst hsg
   obtain ⟨r,hr,cr⟩:=aBz L s1 (by omega)
   have hri:=cC r
   simp only [aK,List.map_cons,List.map_nil] at cc
   refine cP ha (Z2 cc cr) ?_
   refine ⟨a.length-(i+1),by omega,i+1,rfl,hnx,r,by omega,?_⟩
   exact dV hw
  ·have hsl:0<sg.length:=List.length_pos_iff.2 hsg
   obtain ⟨r,hr,cr⟩:=aBz L (s1++[47]) (by omega)
   have hri:=cC r
   simp only [aK,List.map_cons] at cc
   refine cP (Y2 ha @dP.eq_1) (Z2 cc cr) ?_
   refine ⟨a.length-(i+1),by omega,i+1,rfl,hnx,r,by omega,?_⟩
   exact dV hw
 ·have hpe':(p=[])=False:=by simp [hpe]
  obtain ⟨b,hb,cu⟩:=aLV p q hp m1
  cases b
  ·refine cP (Y2 ha hpe') (Z1 cu) ?_
   refine ⟨a.length-(i+1),by omega,i+1,rfl,hnx,L,by omega,?_⟩
   exact dV hw
  by_cases hqp:q=p
  ·subst hqp
   refine cP (Y2 ha hpe') (Z1 cu) ?_
   refine ⟨a.length-(i+1),by omega,i+1,rfl,hnx,L,by omega,?_⟩
   exact dV hw
  have hqp':(q=p)=False:=by simp [hqp]
  have hpl:=(hb rfl).resolve_left hqp
  have hwp:IntKind.i64.wrap ((p.length:Nat)+1)=((p.length+1:Nat):Int):=by rw [aA (by omega) (by omega)];omega
  obtain ⟨s1,sg,e,l1,l2⟩:=tail (q.drop (p.length+1)) (by simp;omega)
  have cc:=fP (q.drop (p.length+1)) 47 (by simp;omega)
  change aC PP GG 35 [.d (.str (q.drop (p.length+1))),.d (.int .u8 47)] _ _ at cc
  rw [e] at cc
  by_cases hsg:sg=[]
  ·subst hsg
   obtain ⟨r,hr,cr⟩:=aBz L s1 (by omega)
   have hri:=cC r
   simp only [aK,List.map_cons,List.map_nil] at cc
   refine cP (Y4 ha hpe' hqp' hwp) (Z3 cu cc cr) ?_
   refine ⟨a.length-(i+1),by omega,i+1,rfl,hnx,r,by omega,?_⟩
   exact dV hw
  ·have hsl:0<sg.length:=List.length_pos_iff.2 hsg
   obtain ⟨r,hr,cr⟩:=aBz L (s1++[47]) (by omega)
   have hri:=cC r
   simp only [aK,List.map_cons] at cc
   refine cP (Y5 ha hpe' hqp' hwp @dP.eq_1) (Z3 cu cc cr) ?_
   refine ⟨a.length-(i+1),by omega,i+1,rfl,hnx,r,by omega,?_⟩
   exact dV hw
theorem aHV (l:List eK) (k:Nat) (x:eK):(dC l).set k x.row=dC (l.set k x):=by simp [dC,List.map_set]
theorem aEv (l:List dL) (k:Nat) (x:dL):(bL l).set k x.row=bL (l.set k x):=by simp [bL,List.map_set]
theorem aPg (a:List dL) (n:Nat) (p:List UInt8) (l:List Int) (hn:n<=4096) (hf:sS n a) (hl:l.length<=100):∃ r:List dL×Int,sS n r.1 ∧
  aC PP GG 201 [.agg [.d (.slc 3 (bL a))],.d (.str p),.own 0 1 (bM l),.d (.int .i64 0)] (.tup [.agg [.d (.slc 3 (bL r.1))],.d (.int .i64 r.2)]) [none,none,none,none]:=by
 refine cvD Tryz.func201 (α:=List dL×Int) 2 _ (fun r=>[.agg [.d (.slc 3 (bL r.1))],.d (.int .i64 r.2)]) _ (fun _=>rfl) ?_
 obtain ⟨b,hb,cs⟩:=tW a n hn hf
 have hla:=hf.1
 obtain ⟨i,hi,ca⟩:=aId a p (by omega)
 have cc:=aEP a n hn hf
 have hir:=zF a
 have hli:=jE l
 cases b
 ·refine eA (Z2 cs cc) ?_
  exact ⟨(a,1),hf,by simp [Fin]⟩
 rcases hi with rfl|⟨k,rfl,hk⟩
 ·refine cP @gW (Z3 cs ca cc) ?_
  exact ⟨(a,2),hf,by simp [Fin]⟩
 have hg:=List.getElem?_eq_getElem hk
 have hm:=hf.2 _ (List.getElem_mem hk)
 generalize a[k]=e at hg hm
 obtain ⟨q,f,vs⟩:=e
 have hm2:=hm.2.1
 dsimp only at hm2
 refine cP (Y2 @gW hg) (Z3 cs ca cc) ?_
 refine gA (fun m st=>∃ i:Nat,m=vs.length-i/\i<=vs.length/\∃ es:List dL,sS n es/\∃ ws:List eK,es[k]?=some ⟨q,f,ws⟩/\ws.length=vs.length ∧
  st=⟨[],[(2,.sl 0),(3,.d (.int .i64 0)),(8,.ptr 1 0),(10,.ptr 2 0),(12,.ptr 3 0),(13,.d (.int .i64 i))],[(0,.arr 0 0 1 (bM l)),(1,.box [.nil 2 3]),(2,.box [.sl 4]),(3,.box [.d (.str q),.d (.int .i64 f),.inn 4 0 [(k,2)]]),(4,.arr 0 2 3 (bL es))],5⟩) _ ⟨0,rfl,by omega,a,hf,vs,hg,rfl,?_⟩ ?_
 ·exact dV @aCT.eq_1
 clear cs ca cc hg hm hir hb
 rintro m st ⟨i,rfl,hi,es,hes,ws,hg,hws,rfl⟩
 have hil:=hes.1
 by_cases hlt:i<vs.length
 rotate_left
 ·have hie:i=vs.length:=by omega
  subst hie
  refine iZ (Y2 hg hws) ?_
  exact ⟨(es,0),hes,by simp [Fin]⟩
 have hm:=hes.2 _ (List.mem_of_getElem? hg)
 have hv:=List.getElem?_eq_getElem (show i<ws.length by omega)
 have hvm:=hm.2.2 _ (List.getElem_mem (show i<ws.length by omega))
 generalize ws[i]=v at hv hvm
 obtain ⟨d,md,gn,dd⟩:=v
 dsimp only at hm hvm
 have hw:IntKind.i64.wrap ((i:Int)+1)=(i:Int)+1:=aA (by omega) (by omega)
 have ch:=oS l (IntKind.i64.wrap (f+(i:Int))) (by omega)
 have hkl:k<es.length:=(List.getElem?_eq_some_iff.1 hg).1
 generalize l.contains (IntKind.i64.wrap (f+(i:Int)))=b at ch
 cases b
 ·refine cP (Y3 hg hws hv) (Z1 ch) ?_
  refine ⟨vs.length-(i+1),by omega,i+1,rfl,hlt,es,hes,ws,hg,hws,?_⟩
  exact dV (Y2 hw @aCT.eq_1)
 cases dd
 ·have e1:(dC ws).set i [.slc 1 (aB d),.int .i64 md,.bool true,.bool false]=dC (ws.set i ⟨d,md,true,false⟩):=aHV ws i ⟨d,md,true,false⟩
  have e2:(bL es).set k [.str q,.int .i64 f,.slc 4 (dC (ws.set i ⟨d,md,true,false⟩))]=bL (es.set k ⟨q,f,ws.set i ⟨d,md,true,false⟩⟩):=aEv es k ⟨q,f,ws.set i ⟨d,md,true,false⟩⟩
  refine cP (Y3 hg hws hv) (Z1 ch) ?_
  refine ⟨vs.length-(i+1),by omega,i+1,rfl,hlt,es.set k ⟨q,f,ws.set i ⟨d,md,true,false⟩⟩,⟨by simpa using hil,fun e he=>?_⟩,ws.set i ⟨d,md,true,false⟩,by simp [hkl],by simpa using hws,?_⟩
  ·rcases List.mem_or_eq_of_mem_set he with he|rfl
   ·exact hes.2 e he
   ·refine ⟨hm.1,by simpa using hm.2.1,fun v hv=>?_⟩
    rcases List.mem_or_eq_of_mem_set hv with hv|rfl
    ·exact hm.2.2 v hv
    ·exact hvm
  ·exact dV (Y4 hw @aCT.eq_1 e1 e2)
 ·refine cP (Y3 hg hws hv) (Z1 ch) ?_
  refine ⟨vs.length-(i+1),by omega,i+1,rfl,hlt,es,hes,ws,hg,hws,?_⟩
  exact dV (Y2 hw @aCT.eq_1)
theorem aR8 (a:List dL) (n:Nat) (p:List UInt8) (l:List Int) (hn:n<=4096) (hf:sS n a) (hl:l.length<=100):∃ r:List dL×Int,sS n r.1 ∧
  aC PP GG 159 [.agg [.d (.slc 3 (bL a))],.d (.str p),.own 0 1 (bM l)] (.tup [.agg [.d (.slc 3 (bL r.1))],.d (.int .i64 r.2)]) [none,none,none]:=by
 refine cvD Tryz.func159 (α:=List dL×Int) 2 _ (fun r=>[.agg [.d (.slc 3 (bL r.1))],.d (.int .i64 r.2)]) _ (fun _=>rfl) ?_
 obtain ⟨r,hr,c⟩:=aPg a n p l hn hf hl
 refine eA (Z1 c) ?_
 exact ⟨r,hr,by simp [Fin]⟩
theorem aTZ (a:List dL) (n:Nat) (p data:List UInt8) (cas now:Int) (hn:n+1<=4096) (hf:sS n a) (hp:p.length<=512) (hd:data.length<=512):∃ r:List dL×Int×Int,sS (n+1) r.1 ∧
  aC PP GG 157 [.agg [.d (.slc 3 (bL a))],.d (.str p),.d (.slc 1 (aB data)),.d (.int .i64 cas),.d (.int .i64 now)] (.tup [.agg [.d (.slc 3 (bL r.1))],.d (.int .i64 r.2.1),.d (.int .i64 r.2.2)]) [none,none,none,none,none]:=by
 refine cvD Tryz.func157 (α:=List dL×Int×Int) 3 _ (fun r=>[.agg [.d (.slc 3 (bL r.1))],.d (.int .i64 r.2.1),.d (.int .i64 r.2.2)]) _ (fun _=>rfl) ?_
 obtain ⟨b,hb,cs⟩:=tW a n (by omega) hf
 clear hb
 have hla:=hf.1
 obtain ⟨i,hi,ca⟩:=aId a p (by omega)
 have cc:=aEP a n (by omega) hf
 have cp:=gF p (by omega)
 have cb:=jH data (by omega)
 have hir:=zF a
 have hid:=aZ data
 have hfn:sS (n+1) a:=sS.mono hf (by omega)
 generalize gO p=b1 at cp
 have ci:aC PP GG 20 [.d (.int .i64 now),.d (.int .i64 0),.d (.int .i64 1000000000)] (.d (.bool (inB now 0 1000000000))) [none,none,none]:=bD _ _ _
 generalize inB now 0 1000000000=b2 at ci
 refine rE ?_
 refine oD [1,2,3,4,5,10] (fun st'=>st'=⟨[],[(1,.d (.str p)),(2,.d (.slc 1 (aB data))),(3,.d (.int .i64 cas)),(4,.d (.int .i64 now)),(5,.ptr 0 0),(10,.ptr 1 0)],[(0,.box [.d (.slc 3 (bL a))]),(1,.box [.nil 2 3])],2⟩) ?_ ?_
 ·cases b
  ·refine eA (Z2 cs cc) ?_
   exact ⟨(a,1,0),hfn,by simp [Fin]⟩
  cases b1
  ·refine eA (Z3 cs cp cc) ?_
   exact ⟨(a,1,0),hfn,by simp [Fin]⟩
  cases b2
  ·repeat' (first|refine gH ?_|refine eL ?_|refine eC ?_|refine dR ?_|refine eW ?_|refine aW rfl ?_|refine bB rfl ?_|((first|refine eQ fun K hK=>?_|refine dQ fun K hK=>?_|with_reducible refine aF (cs) ?_|with_reducible refine aF (cp) ?_|with_reducible refine aF (ci) ?_|with_reducible refine aF (cc) ?_);simp [Fin])|(with_reducible refine hK _ ?_;clear hK K)|(with_reducible refine aJ (fun h=>?_) (fun h=>?_)<;>first|(exfalso;simp at h;first|done|omega|contradiction)|((try simp at h);simp))|with_reducible refine And.intro ?_ ?_|with_reducible exact aL rfl|with_reducible assumption|(refine dN rfl (fun h=>?_) (fun h=>?_)<;>first|(exfalso;simp at h;first|done|omega|contradiction)|(exfalso;simp_all;done)|(try simp at h))|omega)
   all_goals exact ⟨(a,1,0),hfn,by simp [Fin]⟩
  ·repeat' (first|refine gH ?_|refine eL ?_|refine eC ?_|refine dR ?_|refine eW ?_|refine aW rfl ?_|refine bB rfl ?_|((first|refine eQ fun K hK=>?_|refine dQ fun K hK=>?_|with_reducible refine aF (cs) ?_|with_reducible refine aF (cp) ?_|with_reducible refine aF (ci) ?_|with_reducible refine aF (cc) ?_);simp [Fin])|(with_reducible refine hK _ ?_;clear hK K)|(with_reducible refine aJ (fun h=>?_) (fun h=>?_)<;>first|(exfalso;simp at h;first|done|omega|contradiction)|((try simp at h);simp))|with_reducible refine And.intro ?_ ?_|with_reducible exact aL rfl|with_reducible assumption|(refine dN rfl (fun h=>?_) (fun h=>?_)<;>first|(exfalso;simp at h;first|done|omega|contradiction)|(exfalso;simp_all;done)|(try simp at h))|omega)
   all_goals first
    |exact ⟨(a,1,0),hfn,by simp [Fin]⟩
    |simp [gc,bP,cI,gcV,gcO,dS,cU,eH,aY,bR,bU,dU]
 rintro st rfl
 clear cs cp ci
 refine aD3 (Z1 ca) ?_
 refine rE ?_
 refine oD [1,2,3,4,5,10,13,14] (fun st'=>∃ cur:Int,st'=⟨[],[(1,.d (.str p)),(2,.d (.slc 1 (aB data))),(3,.d (.int .i64 cas)),(4,.d (.int .i64 now)),(5,.ptr 0 0),(10,.ptr 1 0),(13,.d (.int .i64 i)),(14,.d (.int .i64 cur))],[(0,.box [.d (.slc 3 (bL a))]),(1,.box [.nil 2 3])],2⟩) ?_ ?_
 ·rcases hi with rfl|⟨k,rfl,hk⟩
  ·refine mG ?_
   exact fI
  ·have hg:=List.getElem?_eq_getElem hk
   generalize a[k]=e at hg
   obtain ⟨q,f,vs⟩:=e
   refine iZ hg ?_
   exact fI
 rintro st ⟨cur,rfl⟩
 clear ca
 refine oD [1,2,4,5,10,13,14] (fun st'=>st'=⟨[],[(1,.d (.str p)),(2,.d (.slc 1 (aB data))),(4,.d (.int .i64 now)),(5,.ptr 0 0),(10,.ptr 1 0),(13,.d (.int .i64 i)),(14,.d (.int .i64 cur))],[(0,.box [.d (.slc 3 (bL a))]),(1,.box [.nil 2 3])],2⟩) ?_ ?_
 ·repeat' (first|refine gH ?_|refine eL ?_|refine eC ?_|refine dR ?_|refine eW ?_|refine aW rfl ?_|refine bB rfl ?_|((first|refine eQ fun K hK=>?_|refine dQ fun K hK=>?_|with_reducible refine aF (cc) ?_);simp [Fin])|(with_reducible refine hK _ ?_;clear hK K)|(with_reducible refine aJ (fun h=>?_) (fun h=>?_)<;>first|(exfalso;simp at h;first|done|omega|contradiction)|((try simp at h);simp))|with_reducible refine And.intro ?_ ?_|with_reducible exact aL rfl|with_reducible assumption|(refine dN rfl (fun h=>?_) (fun h=>?_)<;>first|(exfalso;simp at h;first|done|omega|contradiction)|(exfalso;simp_all;done)|(try simp at h))|omega)
  all_goals first
   |exact ⟨(a,5,0),hfn,by simp [Fin]⟩
   |simp [gc,bP,cI,gcV,gcO,dS,cU,eH,aY,bR,bU,dU]
 rintro st rfl
 refine aD3 (Z1 cb) ?_
 refine rE ?_
 have hnew:∀ es:List dL,sS (n+1) es->∃ b:Bool,aC PP GG 198 [.agg [.d (.slc 3 (bL es))]] (.d (.bool b)) [none]:=fun es h=>by
  obtain ⟨b,_,c⟩:=tW es (n+1) hn h
  exact ⟨b,c⟩
 refine oD [5,10,14,16] (fun st'=>∃ es:List dL,sS (n+1) es/\∃ kk:Nat,st'=⟨[],[(5,.ptr 0 0),(10,.ptr 1 0),(14,.d (.int .i64 cur)),(16,.ptr 2 0)],[(0,.box [.d (.slc 3 (bL a))]),(1,.box [.nil 2 3]),(2,.box [.sl 3]),(3,.arr 0 kk 3 (bL es))],4⟩) ?_ ?_
 rotate_left
 ·rintro st ⟨es,he,kk,rfl⟩
  obtain ⟨b,c⟩:=hnew es he
  cases b
  ·refine eA (Z2 c cc) ?_
   exact ⟨(a,6,0),hfn,by simp [Fin]⟩
  ·refine eA (Z1 c) ?_
   exact ⟨(es,0,IntKind.i64.wrap (cur+1)),he,by simp [Fin]⟩
 clear hnew
 rcases hi with rfl|⟨k,rfl,hk⟩
 ·refine rE ?_
  refine dN rfl (fun h=>by first|(exfalso;simp at h;done)|cases h) (fun _=>?_)
  refine rE ?_
  refine aD3 (Z1 cc) ?_
  refine aSs @aM.eq_1 ?_
  refine pH [1,5,10,14,16,18,19,20] (s1:=⟨[],[(1,.d (.str p)),(5,.ptr 0 0),(10,.ptr 1 0),(14,.d (.int .i64 cur)),(16,.ptr 2 0),(18,.d (.bool false)),(19,.ptr 3 0),(20,.ptr 4 0)],[(0,.box [.d (.slc 3 (bL a))]),(1,.box [.nil 2 3]),(2,.box [.nil 2 3]),(3,.box [.sl 5]),(4,.box [.d (.str p),.d (.int .i64 1),.sl 6]),(5,.arr 0 2 3 (bL a)),(6,.arr 0 1 4 [[.slc 1 (aB data),.int .i64 now,.bool false,.bool false]])],7⟩) ?_ ?_
  ·exact fI
  refine oC 3 0 rfl rfl rfl ?_
  refine oC 4 2 rfl rfl rfl ?_
  refine mR 16 0 rfl rfl rfl ?_
  refine pH [1,5,10,14,16,18,19,20] (s1:=⟨[],[(1,.d (.str p)),(5,.ptr 0 0),(10,.ptr 1 0),(14,.d (.int .i64 cur)),(16,.ptr 2 0),(18,.d (.bool false)),(19,.ptr 3 0),(20,.ptr 4 0)],[(0,.box [.d (.slc 3 (bL a))]),(1,.box [.nil 2 3]),(2,.box [.sl 5]),(3,.box [.d (.slc 3 (bL a))]),(4,.box [.d (.str p),.d (.int .i64 1),.d (.slc 4 [[.slc 1 (aB data),.int .i64 now,.bool false,.bool false]])]),(5,.arr 0 2 3 [])],6⟩) ?_ ?_
  ·exact fI
  obtain ⟨fr,hfr⟩:∃ fr:dL,fr=⟨p,1,[⟨data,now,false,false⟩]⟩:=⟨_,rfl⟩
  have hrow:[.str p,.int .i64 1,.slc 4 [[.slc 1 (aB data),.int .i64 now,.bool false,.bool false]]]=fr.row:=by rw [hfr];rfl
  have hfit:fr.dM.length<=512/\fr.fU.length<=n+1/\∀ v,v∈fr.fU->v.dI.length<=512:=by
   rw [hfr]
   refine ⟨hp,by simp,fun v hv=>?_⟩
   simp at hv;subst hv;exact hd
  have hall:∀ (L:List dL),(∀ e,e∈L->e=fr\/e∈a)->∀ e,e∈L->e.dM.length<=512/\e.fU.length<=n+1/\∀ v,v∈e.fU->v.dI.length<=512:=fun L h e he=>by
   rcases h e he with rfl|h
   ·exact hfit
   ·exact hfn.2 e h
  have e0:bL []=[]:=rfl
  have sn:∀ (L:List dL) (x:dL),bL L++[x.row]=bL (L++[x]):=fun L x=>by simp [bL]
  refine mG ?_
  refine gA (fun m st=>∃ i:Nat,m=a.length-i/\i<=a.length/\∃ (L:List dL) (b:Bool),L.length<=i+1/\(b=false->L.length<=i)/\(∀ e,e∈L->e=fr\/e∈a)/\∃ kk:Nat,(kk=if L=[] then 2 else 0) ∧
   st=⟨[],[(1,.d (.str p)),(5,.ptr 0 0),(10,.ptr 1 0),(14,.d (.int .i64 cur)),(16,.ptr 2 0),(18,.d (.bool b)),(19,.ptr 3 0),(20,.ptr 4 0),(21,.d (.int .i64 i))],[(0,.box [.d (.slc 3 (bL a))]),(1,.box [.nil 2 3]),(2,.box [.sl 5]),(3,.box [.d (.slc 3 (bL a))]),(4,.box [.d (.str p),.d (.int .i64 1),.d (.slc 4 [[.slc 1 (aB data),.int .i64 now,.bool false,.bool false]])]),(5,.arr 0 kk 3 (bL L))],6⟩) _ ⟨0,rfl,by omega,[],false,by simp,by simp,by simp,2,by simp,?_⟩ ?_
  ·exact dV @bL.eq_1
  clear cc cb hir hid
  rintro m st ⟨i,rfl,hi,L,b,h1,h2,h3,kk,hkk,rfl⟩
  have hL4:=fun x=>sn L x
  by_cases hlt:i<a.length
  rotate_left
  ·have hie:i=a.length:=by omega
   subst hie
   cases b
   ·have h2:=h2 rfl
    by_cases hLe:L=[]
    ·subst hLe
     simp only [if_pos] at hkk
     subst hkk
     refine iZ (Y2 @aM.eq_1 e0) ?_
     refine ⟨[fr],⟨by simp,hall [fr] (by simp)⟩,0,?_⟩
     exact dV (Y3 @bL.eq_1 @dC.eq_1 hfr)
    ·rw [if_neg hLe] at hkk
     subst hkk
     refine iZ (Y2 @aM.eq_1 e0) ?_
     refine ⟨L++[fr],⟨by simp;omega,hall _ fun e he=>?_⟩,0,?_⟩
     ·rcases List.mem_append.1 he with he|he
      ·exact h3 e he
      ·simp at he;exact .inl he
     ·exact dV (Y3 @bL.eq_1 @dC.eq_1 hfr)
   ·refine mG ?_
    refine ⟨L,⟨by omega,hall L h3⟩,kk,?_⟩
    exact fI
  have ha:=List.getElem?_eq_getElem hlt
  have hmem:=List.getElem_mem hlt
  generalize a[i]=x at ha hmem
  have hw:IntKind.i64.wrap ((i:Int)+1)=(i:Int)+1:=aA (by omega) (by omega)
  have h3x:∀ M:List dL,(∀ e,e∈M->e=fr\/e∈a)->∀ e,e∈M++[x]->e=fr\/e∈a:=fun M h e he=>by
   rcases List.mem_append.1 he with he|he
   ·exact h e he
   ·simp at he;subst he;exact .inr hmem
  have h3f:∀ e,e∈L++[fr]->e=fr\/e∈a:=fun e he=>by
   rcases List.mem_append.1 he with he|he
   ·exact h3 e he
   ·simp at he;exact .inl he
  obtain ⟨x1,x2,x3⟩:=x
  by_cases hLe:L=[]
  ·subst hLe
   simp only [if_pos] at hkk
   subst hkk
   cases b
   ·refine aSt (Y3 ha @aM.eq_1 e0) ?_ ?_
    ·refine ⟨a.length-(i+1),by omega,i+1,rfl,hlt,[fr]++[⟨x1,x2,x3⟩],true,by simp,by simp,h3x _ (by simp),0,by simp,?_⟩
     exact dV (Y4 hw @bL.eq_1 @dC.eq_1 hfr)
    ·refine ⟨a.length-(i+1),by omega,i+1,rfl,hlt,[⟨x1,x2,x3⟩],false,by simp,by simp,h3x [] (by simp),0,by simp,?_⟩
     exact dV (Y2 hw @bL.eq_1)
   ·refine iZ (Y3 ha @aM.eq_1 e0) ?_
    refine ⟨a.length-(i+1),by omega,i+1,rfl,hlt,[⟨x1,x2,x3⟩],true,by simp,by simp,h3x [] (by simp),0,by simp,?_⟩
    exact dV (Y2 hw @bL.eq_1)
  ·rw [if_neg hLe] at hkk
   subst hkk
   cases b
   ·have h2:=h2 rfl
    refine aSt (Y3 ha @aM.eq_1 e0) ?_ ?_
    ·refine ⟨a.length-(i+1),by omega,i+1,rfl,hlt,(L++[fr])++[⟨x1,x2,x3⟩],true,by simp;omega,by simp,h3x _ h3f,0,by simp,?_⟩
     exact dV (Y4 hw @bL.eq_1 @dC.eq_1 hfr)
    ·refine ⟨a.length-(i+1),by omega,i+1,rfl,hlt,L++[⟨x1,x2,x3⟩],false,by simp;omega,by simp;omega,h3x _ h3,0,by simp,?_⟩
     exact dV (Y2 hw @bL.eq_1)
   ·refine iZ (Y3 ha @aM.eq_1 e0) ?_
    refine ⟨a.length-(i+1),by omega,i+1,rfl,hlt,L++[⟨x1,x2,x3⟩],true,by simp;omega,by simp,h3x _ h3,0,by simp,?_⟩
    exact dV (Y2 hw @bL.eq_1)
 ·have hg:=List.getElem?_eq_getElem hk
  have hm:=hf.2 _ (List.getElem_mem hk)
  generalize a[k]=e at hg hm
  obtain ⟨q,f,vs⟩:=e
  dsimp only at hm
  refine rE ?_
  refine dN rfl (fun _=>?_) (fun h=>by exfalso;simp at h)
  refine aD3 (Z1 cc) ?_
  refine aSs hg ?_
  refine aSs (Y2 hg @aM.eq_1) ?_
  obtain ⟨ws,hws⟩:∃ ws:List eK,ws=vs++[⟨data,now,false,false⟩]:=⟨_,rfl⟩
  have hwl:ws.length=vs.length+1:=by rw [hws];simp
  have hwd:∀ v,v∈ws->v.dI.length<=512:=fun v hv=>by
   rw [hws] at hv
   rcases List.mem_append.1 hv with hv|hv
   ·exact hm.2.2 v hv
   ·simp at hv;subst hv;exact hd
  refine pH [5,10,13,14,16,17] (s1:=⟨[],[(5,.ptr 0 0),(10,.ptr 1 0),(13,.d (.int .i64 k)),(14,.d (.int .i64 cur)),(16,.ptr 2 0),(17,.ptr 3 0)],[(0,.box [.d (.slc 3 (bL a))]),(1,.box [.nil 2 3]),(2,.box [.sl 4]),(3,.box [.d (.str q),.d (.int .i64 f),.sl 5]),(4,.arr 0 2 3 ((bL a).set k [.str q,.int .i64 f,.hole])),(5,.arr 0 1 4 (dC ws))],6⟩) ?_ ?_
  ·exact dV (Y3 hg hws @dC.eq_1)
  refine oD [5,10,13,14,16,17] (fun st'=>∃ (f2:Int) (us:List eK),us.length<=n+1/\(∀ v,v∈us->v.dI.length<=512)/\st'=⟨[],[(5,.ptr 0 0),(10,.ptr 1 0),(13,.d (.int .i64 k)),(14,.d (.int .i64 cur)),(16,.ptr 2 0),(17,.ptr 3 0)],[(0,.box [.d (.slc 3 (bL a))]),(1,.box [.nil 2 3]),(2,.box [.sl 4]),(3,.box [.d (.str q),.d (.int .i64 f2),.sl 5]),(4,.arr 0 2 3 ((bL a).set k [.str q,.int .i64 f,.hole])),(5,.arr 0 1 4 (dC us))],6⟩) ?_ ?_
  ·refine rE ?_
   refine dN rfl (fun h=>?_) (fun h=>?_)
   ·refine rE ?_
    refine aVZ 3 2 rfl rfl rfl ?_
    refine mG ?_
    refine ⟨IntKind.i64.wrap (f+1),ws.tail,by simp;omega,fun v hv=>hwd v (List.mem_of_mem_tail hv),?_⟩
    have e3:(List.take ws.length (dC ws)).tail=dC ws.tail:=by rw [List.take_of_length_le (by simp)];simp [dC]
    exact dV e3
   ·refine mG ?_
    refine ⟨f,ws,by omega,hwd,?_⟩
    exact fI
  rintro st ⟨f2,us,hul,hud,rfl⟩
  have e2:(bL a).set k [.str q,.int .i64 f2,.slc 4 (dC us)]=bL (a.set k ⟨q,f2,us⟩):=aEv a k ⟨q,f2,us⟩
  refine iZ (Y2 hg hk) ?_
  refine ⟨a.set k ⟨q,f2,us⟩,⟨by simp;omega,fun e he=>?_⟩,2,?_⟩
  ·rcases List.mem_or_eq_of_mem_set he with he|rfl
   ·exact hfn.2 e he
   ·exact ⟨hm.1,hul,hud⟩
  ·exact dV e2
def aPy (p:dE):Prop:=p.aH.length<=4096/\p.nY.length<=4096/\∀ r,r∈p.nY->r.aBJ.length<=4096
def tQ (p:dE):Prop:=p.aH.length<=4095/\p.nY.length<=4096/\∀ r,r∈p.nY->r.aBJ.length<=4095
theorem tQ.up {p:dE} (h:tQ p):aPy p:=⟨by have:=h.1;omega,h.2.1,fun r hr=>by have:=h.2.2 r hr;omega⟩
theorem aFo (c:Int):∃ s:List UInt8,s.length<=6/\aC PP GG 75 [.d (.int .i64 c)] (.d (.str s)) [none]:=by
 refine cvD Tryz.func75 (α:=List UInt8) 1 _ (fun s=>[.d (.str s)]) _ (fun _=>rfl) ?_
 have c1:aC PP GG 20 [.d (.int .i64 c),.d (.int .i64 0),.d (.int .i64 63)] (.d (.bool (inB c 0 63))) [none,none,none]:=bD _ _ _
 generalize inB c 0 63=b at c1
 cases b
 ·refine eA (Z1 c1) ?_
  exact ⟨[],by simp,by simp [Fin]⟩
 by_cases h0:c=0
 ·subst h0
  refine eA (Z1 c1) ?_
  exact ⟨[45],by simp,by simp [Fin]⟩
 have h0':(c=0)=False:=by simp [h0]
 refine cP h0' (Z1 c1) ?_
 refine gA (fun n st=>∃ i:Nat,n=6-i/\i<=6/\∃ L:List UInt8,L.length<=i ∧
  st=⟨[],[(0,.d (.int .i64 c)),(3,.d (.str [114,119,108,100,115,110])),(4,.sl 0),(5,.d (.int .i64 i))],[(0,.arr 0 0 1 (aB L))],1⟩) _ ⟨0,rfl,by omega,[],by simp,?_⟩ ?_
 ·exact dV @aB.eq_1
 clear c1
 rintro n st ⟨i,rfl,hi,L,hL,rfl⟩
 have hib:=aZ L
 by_cases hlt:i<6
 rotate_left
 ·have hie:i=6:=by omega
  subst hie
  refine iZ @eP ?_
  exact ⟨L,by omega,by simp [Fin]⟩
 have hw:IntKind.i64.wrap ((i:Int)+1)=(i:Int)+1:=aA (by omega) (by omega)
 have hbl:(aB L).length=L.length:=by simp [aB]
 have hwu:IntKind.u64.wrap (i:Int)=(i:Int):=by rw [IntKind.wrap_u64];omega
 have hn0:((i:Int)<0)=False:=by simp
 have sn:∀ x:UInt8,aB L++[[.int .u8 x.toNat]]=aB (L++[x]):=fun x=>by simp [aB]
 refine aSt (Y4 hbl @aM.eq_1 hwu hn0) ?_ ?_
 ·refine ⟨6-(i+1),by omega,i+1,rfl,hlt,L++[([114,119,108,100,115,110]:List UInt8)[i]?.getD 0],by simp;omega,?_⟩
  exact dV (Y2 hw @aB.eq_1)
 ·refine ⟨6-(i+1),by omega,i+1,rfl,hlt,L,by omega,?_⟩
  exact dV hw
theorem aLZ (t:List UInt8):∃ r:Int×Bool,True/\aC PP GG 194 [.d (.str t)] (.tup [.d (.int .i64 r.1),.d (.bool r.2)]) [none]:=by
 refine cvD Tryz.func194 (α:=Int×Bool) 2 _ (fun r=>[.d (.int .i64 r.1),.d (.bool r.2)]) _ (fun _=>rfl) ?_
 refine mG ?_
 refine gA (fun n st=>∃ i:Nat,n=64-i/\i<=64/\st=⟨[],[(0,.d (.str t)),(4,.d (.int .i64 i))],[],0⟩) _ ⟨0,rfl,by omega,?_⟩ ?_
 ·exact fI
 rintro n st ⟨i,rfl,hi,rfl⟩
 by_cases hlt:i<64
 rotate_left
 ·have hie:i=64:=by omega
  subst hie
  refine mG ?_
  exact ⟨(0,false),trivial,by simp [Fin]⟩
 have hw:IntKind.i64.wrap ((i:Int)+1)=(i:Int)+1:=aA (by omega) (by omega)
 obtain ⟨s,hs,c⟩:=aFo i
 refine aSr (Z1 c) ?_ ?_
 ·exact ⟨(i,true),trivial,by simp [Fin]⟩
 ·refine ⟨64-(i+1),by omega,i+1,rfl,hlt,?_⟩
  exact dV hw
theorem vE (p:dE) (hf:aPy p):∃ b:Bool,True/\aC PP GG 74 [.agg p.c] (.d (.bool b)) [none]:=by
 refine cvD Tryz.func74 (α:=Bool) 1 _ (fun b=>[.d (.bool b)]) _ (fun _=>rfl) ?_
 obtain ⟨nm,a⟩:=p
 obtain ⟨h1,h2,h3⟩:=hf
 dsimp only at h1 h2 h3 ⊢
 have cn:=lH nm (by omega)
 generalize fA nm=b1 at cn
 cases b1
 ·refine eA (Z1 cn) ?_
  exact ⟨false,trivial,by simp [Fin]⟩
 refine aSr (Z1 cn) ?_ ?_
 ·exact ⟨false,trivial,by simp [Fin]⟩
 refine gA (fun n st=>∃ i:Nat,n=a.length-i/\i<=a.length/\st=⟨[],[(1,.ptr 0 0),(3,.d (.int .i64 i))],[(0,.box [.d (.str nm),.d (.slc 2 (iL a))])],1⟩) _ ⟨0,rfl,by omega,?_⟩ ?_
 ·exact fI
 clear cn
 rintro n st ⟨i,rfl,hi,rfl⟩
 by_cases hlt:i<a.length
 rotate_left
 ·have hie:i=a.length:=by omega
  subst hie
  refine mG ?_
  exact ⟨true,trivial,by simp [Fin]⟩
 have ha:=List.getElem?_eq_getElem hlt
 have hm:=h3 _ (List.getElem_mem hlt)
 generalize a[i]=x at ha hm
 obtain ⟨g,c⟩:=x
 dsimp only at hm
 have hw:IntKind.i64.wrap ((i:Int)+1)=(i:Int)+1:=aA (by omega) (by omega)
 have cg:=pP g (by omega)
 generalize mP g=b2 at cg
 have ci:aC PP GG 20 [.d (.int .i64 c),.d (.int .i64 0),.d (.int .i64 63)] (.d (.bool (inB c 0 63))) [none,none,none]:=bD _ _ _
 generalize inB c 0 63=b3 at ci
 cases b2
 ·refine cP ha (Z1 cg) ?_
  exact ⟨false,trivial,by simp [Fin]⟩
 cases b3
 ·refine cP ha (Z2 cg ci) ?_
  exact ⟨false,trivial,by simp [Fin]⟩
 by_cases h0:0<i
 ·have h0':((0:Int)<(i:Int))=True:=by simp;omega
  obtain ⟨j,hj⟩:∃ j,i=j+1:=⟨i-1,by omega⟩
  have hwj:IntKind.i64.wrap ((i:Int)-1)=(j:Int):=by rw [aA (by omega) (by omega)];omega
  have hq:=List.getElem?_eq_getElem (show j<a.length by omega)
  have hjl:j<a.length:=by omega
  generalize a[j]=q at hq
  refine aUC (Y4 ha h0' hwj hq) (Z2 cg ci) ?_ ?_
  ·exact ⟨false,trivial,by simp [Fin]⟩
  ·refine ⟨a.length-(i+1),by omega,i+1,rfl,hlt,?_⟩
   exact dV hw
 ·have h0':((0:Int)<(i:Int))=False:=by simp;omega
  refine cP (Y2 ha h0') (Z2 cg ci) ?_
  refine ⟨a.length-(i+1),by omega,i+1,rfl,hlt,?_⟩
  exact dV hw
theorem aB7 (p:dE) (hf:aPy p):∃ r:List UInt8×Bool,r.1.length<=p.nY.length*4104/\aC PP GG 54 [.agg p.c] (.tup [.d (.str r.1),.d (.bool r.2)]) [none]:=by
 refine cvD Tryz.func54 (α:=List UInt8×Bool) 2 _ (fun r=>[.d (.str r.1),.d (.bool r.2)]) _ (fun _=>rfl) ?_
 obtain ⟨b,-,cp⟩:=vE p hf
 obtain ⟨nm,a⟩:=p
 obtain ⟨h1,h2,h3⟩:=hf
 dsimp only at h1 h2 h3 cp ⊢
 cases b
 ·refine eA (Z1 cp) ?_
  exact ⟨([],false),by simp,by simp [Fin]⟩
 refine eA (Z1 cp) ?_
 refine gA (fun n st=>∃ i:Nat,n=a.length-i/\i<=a.length/\∃ s:List UInt8,s.length<=i*4104/\st=⟨[],[(1,.ptr 0 0),(4,.d (.str s)),(5,.d (.int .i64 i))],[(0,.box [.d (.str nm),.d (.slc 2 (iL a))])],1⟩) _ ⟨0,rfl,by omega,[],by simp,?_⟩ ?_
 ·exact fI
 clear cp
 rintro n st ⟨i,rfl,hi,s,hs,rfl⟩
 by_cases hlt:i<a.length
 rotate_left
 ·have hie:i=a.length:=by omega
  subst hie
  refine mG ?_
  exact ⟨(s,true),by dsimp only;omega,by simp [Fin]⟩
 have ha:=List.getElem?_eq_getElem hlt
 have hm:=h3 _ (List.getElem_mem hlt)
 generalize a[i]=x at ha hm
 obtain ⟨g,c⟩:=x
 dsimp only at hm
 have hw:IntKind.i64.wrap ((i:Int)+1)=(i:Int)+1:=aA (by omega) (by omega)
 obtain ⟨t,ht,cc⟩:=aFo c
 refine cP (Y2 ha @dP.eq_1) (Z1 cc) ?_
 refine ⟨a.length-(i+1),by omega,i+1,rfl,hlt,s++g++[32]++t++[10],by simp only [List.length_append,List.length_cons,List.length_nil];omega,?_⟩
 exact dV hw
theorem qZ (l:List lS):∀ row,row∈iL l->∀ d,d∈row->oB 0 d:=by
 intro row h d hd
 simp only [iL,List.mem_map] at h
 obtain ⟨x,_,rfl⟩:=h
 simp only [lS.row,List.mem_cons,List.not_mem_nil,or_false] at hd
 rcases hd with rfl|rfl<;>trivial
theorem aGk (nm t:List UInt8) (hn:nm.length<=512) (ht:t.length<=512):∃ r:dE×Bool,tQ r.1/\aC PP GG 151 [.d (.str nm),.d (.str t)] (.tup [.agg r.1.c,.d (.bool r.2)]) [none,none]:=by
 refine cvD Tryz.func151 (α:=dE×Bool) 2 _ (fun r=>[.agg r.1.c,.d (.bool r.2)]) _ (fun _=>rfl) ?_
 have z:tQ ⟨[],[]⟩:=⟨by simp,by simp,by simp⟩
 have cl:=fP t 10 (by omega)
 change aC PP GG 35 [.d (.str t),.d (.int .u8 10)] _ _ at cl
 obtain ⟨p0,ps,hne⟩:=jY 10 t
 have hll:=iK 10 t
 have hlm:=fun p=>kW (c:=10) t (p:=p)
 generalize cJ 10 t=l at *
 have hl0:0<l.length:=by rw [hne];simp
 clear hne
 have hi1:=cC l
 have hwl:IntKind.i64.wrap (((l.length:Nat):Int)-1)=((l.length:Nat):Int)-1:=aA (by omega) (by omega)
 refine rE ?_
 refine rE ?_
 refine oD [1,4,6] (fun st'=>st'=⟨[],[(1,.d (.str t)),(4,.ptr 0 0),(6,.ptr 1 0)],[(0,.box [.d (.str []),.nil 0 2]),(1,.box [.d (.str nm),.nil 0 2])],2⟩) ?_ ?_
 ·repeat' (first|refine gH ?_|refine eL ?_|refine eC ?_|refine dR ?_|refine eW ?_|refine aW rfl ?_|refine bB rfl ?_|((first|refine eQ fun K hK=>?_|refine dQ fun K hK=>?_);simp [Fin])|(with_reducible refine hK _ ?_;clear hK K)|(with_reducible refine aJ (fun h=>?_) (fun h=>?_)<;>first|(exfalso;simp at h;first|done|omega|contradiction)|((try simp at h);simp))|with_reducible refine And.intro ?_ ?_|with_reducible exact aL rfl|with_reducible assumption|(refine dN rfl (fun h=>?_) (fun h=>?_)<;>first|(exfalso;simp at h;first|done|omega|contradiction)|(exfalso;simp_all;done)|(try simp at h))|omega)
  all_goals first
   |exact ⟨(⟨[],[]⟩,false),z,by simp [Fin,iL]⟩
   |simp [gc,bP,cI,gcV,gcO,dS,cU,eH,aY,bR,bU,dU]
 rintro st rfl
 refine mR 6 1 rfl rfl rfl ?_
 refine pH [1,4,6] (s1:=⟨[],[(1,.d (.str t)),(4,.ptr 0 0),(6,.ptr 1 0)],[(0,.box [.d (.str []),.nil 0 2]),(1,.box [.d (.str nm),.sl 2]),(2,.arr 0 0 2 [])],3⟩) ?_ ?_
 ·exact fI
 refine aD3 (Z1 cl) ?_
 refine oD [1,4,6] (fun st'=>∃ rs:List lS,tQ ⟨nm,rs⟩/\st'=⟨[],[(1,.d (.str t)),(4,.ptr 0 0),(6,.ptr 1 0)],[(0,.box [.d (.str []),.nil 0 2]),(1,.box [.d (.str nm),.sl 2]),(2,.arr 0 0 2 (iL rs))],3⟩) ?_ ?_
 ·refine mG ?_
  refine gA (fun n st=>∃ i:Nat,n=l.length-i/\i<=l.length/\∃ rs:List lS,rs.length<=i/\(∀ r,r∈rs->r.aBJ.length<=512) ∧
   st=⟨[],[(1,.d (.str t)),(4,.ptr 0 0),(6,.ptr 1 0),(7,.sl 2),(8,.d (.int .i64 i))],[(0,.box [.d (.str []),.nil 0 2]),(1,.box [.d (.str nm),.sl 3]),(2,.arr 0 0 1 (aK l)),(3,.arr 0 0 2 (iL rs))],4⟩) _ ⟨0,rfl,by omega,[],by simp,by simp,?_⟩ ?_
  ·exact dV @iL.eq_1
  clear cl
  rintro n st ⟨i,rfl,hi,rs,h1,h2,rfl⟩
  have hi2:=qZ rs
  by_cases hlt:i+1<l.length
  rotate_left
  ·have hc:((i:Int)<((l.length:Nat):Int)-1)=False:=by simp;omega
   refine iZ (Y3 @bV hwl hc) ?_
   refine ⟨rs,⟨by dsimp only;omega,by dsimp only;omega,fun r hr=>by have:=h2 r hr;omega⟩,?_⟩
   exact fI
  have hc:((i:Int)<((l.length:Nat):Int)-1)=True:=by simp;omega
  have ha:=List.getElem?_eq_getElem (show i<l.length by omega)
  have hm:=hlm _ (List.getElem_mem (show i<l.length by omega))
  generalize l[i]=s at ha hm
  have hw:IntKind.i64.wrap ((i:Int)+1)=(i:Int)+1:=aA (by omega) (by omega)
  have cw:=fP s 32 (by omega)
  change aC PP GG 35 [.d (.str s),.d (.int .u8 32)] _ _ at cw
  have hwm:=fun p=>kW (c:=32) s (p:=p)
  have hwn:=iK 32 s
  generalize cJ 32 s=ws at *
  by_cases hw2:ws.length=2
  rotate_left
  ·have hw2':(((ws.length:Nat):Int)=2)=False:=by simp;omega
   refine cP (Y6 @bV hwl hc ha @eX hw2') (Z1 cw) ?_
   exact ⟨(⟨[],[]⟩,false),z,by simp [Fin,iL]⟩
  obtain ⟨w1,w2,rfl⟩:∃ w1 w2,ws=[w1,w2]:=by
   match ws,hw2 with
   |[w1,w2],_=>exact ⟨w1,w2,rfl⟩
  have hw1l:=hwm w1 (by simp)
  obtain ⟨⟨c,ok⟩,-,cc⟩:=aLZ w2
  simp only [aK,List.map_cons,List.map_nil] at cw
  dsimp only at cc
  cases ok
  ·refine cP (Y5 @bV hwl hc ha @eX) (Z2 cw cc) ?_
   exact ⟨(⟨[],[]⟩,false),z,by simp [Fin,iL]⟩
  ·refine cP (Y6 @bV hwl hc ha @eX @aM.eq_1) (Z2 cw cc) ?_
   refine ⟨l.length-(i+1),by omega,i+1,rfl,by omega,rs++[⟨w1,c⟩],by simp;omega,fun r hr=>?_,?_⟩
   ·rcases List.mem_append.1 hr with hr|hr
    ·exact h2 r hr
    ·simp at hr;subst hr;dsimp only;omega
   ·exact dV (Y2 hw @iL.eq_1)
 rintro st ⟨rs,hrs,rfl⟩
 have hi2:=qZ rs
 obtain ⟨⟨bk,ok⟩,-,cp⟩:=aB7 ⟨nm,rs⟩ (tQ.up hrs)
 dsimp only at cp
 cases ok
 ·refine eA (Z1 cp) ?_
  exact ⟨(⟨[],[]⟩,false),z,by simp [Fin,iL]⟩
 ·refine aSr (Z1 cp) ?_ ?_
  ·exact ⟨(⟨[],[]⟩,false),z,by simp [Fin,iL]⟩
  ·exact ⟨(⟨nm,rs⟩,true),hrs,by simp [Fin]⟩
theorem aRm (g p:List (List UInt8)) (hg:g.length<=4096) (hp:p.length<=4096):∀ m i:Nat,m+i=g.length->∃ b:Bool,True/\aC PP GG 237 [.d (.slc 1 (aK g)),.d (.slc 1 (aK p)),.d (.int .i64 i)] (.d (.bool b)) [none,none,none]:=by
 intro m
 induction m with
 |zero=>
  intro i hi
  refine cvD Tryz.func237 (α:=Bool) 1 _ (fun b=>[.d (.bool b)]) _ (fun _=>rfl) ?_
  have hc:((i:Int)=((g.length:Nat):Int))=True:=by simp;omega
  refine iZ (Y2 @bV hc) ?_
  exact ⟨_,trivial,by simp [Fin];rfl⟩
 |succ m ih=>
  intro i hi
  obtain ⟨b,-,cr⟩:=ih (i+1) (by omega)
  refine cvD Tryz.func237 (α:=Bool) 1 _ (fun b=>[.d (.bool b)]) _ (fun _=>rfl) ?_
  have hc:((i:Int)=((g.length:Nat):Int))=False:=by simp;omega
  have ha:=List.getElem?_eq_getElem (show i<g.length by omega)
  generalize g[i]=x at ha
  have hw:IntKind.i64.wrap ((i:Int)+1)=(i:Int)+1:=aA (by omega) (by omega)
  rw [show ((i+1:Nat):Int)=(i:Int)+1 by omega] at cr
  by_cases hx:x=[42]
  ·subst hx
   refine iZ (Y4 @bV @eX hc ha) ?_
   exact ⟨true,trivial,by simp [Fin]⟩
  have hx':(x=[42])=False:=by simp [hx]
  by_cases hpl:i<p.length
  ·have hpa:=List.getElem?_eq_getElem hpl
   generalize p[i]=y at hpa
   by_cases hx2:x=[43]
   ·subst hx2
    refine cP (Y6 @bV @eX hc ha hpa hw) (Z1 cr) ?_
    exact ⟨b,trivial,by simp [Fin]⟩
   have hx2':(x=[43])=False:=by simp [hx2]
   by_cases hxy:x=y
   ·subst hxy
    refine cP (Y8 @bV @eX hc ha hpa hw hx' hx2') (Z1 cr) ?_
    exact ⟨b,trivial,by simp [Fin]⟩
   ·have hxy':(x=y)=False:=by simp [hxy]
    refine cP (Y9 @bV @eX hc ha hpa hw hx' hx2' hxy') (Z1 cr) ?_
    exact ⟨false,trivial,by simp [Fin]⟩
  ·have hpl':((i:Int)<((p.length:Nat):Int))=False:=by simp;omega
   refine iZ (Y6 @bV @eX hc ha hx' hpl') ?_
   exact ⟨false,trivial,by simp [Fin]⟩
theorem aL0 (g p:List UInt8) (hg:g.length<=4095) (hp:p.length<=4095):∃ b:Bool,True/\aC PP GG 226 [.d (.str g),.d (.str p)] (.d (.bool b)) [none,none]:=by
 refine cvD Tryz.func226 (α:=Bool) 1 _ (fun b=>[.d (.bool b)]) _ (fun _=>rfl) ?_
 have c1:=pP g (by omega)
 generalize mP g=b1 at c1
 have c2:=gF p (by omega)
 generalize gO p=b2 at c2
 cases b1
 ·refine eA (Z1 c1) ?_
  exact ⟨false,trivial,by simp [Fin]⟩
 cases b2
 ·refine eA (Z2 c1 c2) ?_
  exact ⟨false,trivial,by simp [Fin]⟩
 have k1:aC PP GG 35 [.d (.str g),.d (.int .u8 47)] _ _:=fP g 47 (by omega)
 have k2:aC PP GG 35 [.d (.str p),.d (.int .u8 47)] _ _:=fP p 47 (by omega)
 have l1:=iK 47 g
 have l2:=iK 47 p
 generalize cJ 47 g=x at k1 l1
 generalize cJ 47 p=y at k2 l2
 obtain ⟨b,-,cf⟩:=aRm x y (by omega) (by omega) x.length 0 (by omega)
 refine eA (Z5 c1 c2 k1 k2 cf) ?_
 exact ⟨b,trivial,by simp [Fin]⟩
theorem aGZ (x:List (List UInt8)) (i:Nat) (hi:i<=4096) (hx:x.length<=4096):∃ r:Int,True/\aC PP GG 238 [.d (.slc 1 (aK x)),.d (.int .i64 i)] (.d (.int .i64 r)) [none,none]:=by
 refine cvD Tryz.func238 (α:=Int) 1 _ (fun r=>[.d (.int .i64 r)]) _ (fun _=>rfl) ?_
 by_cases h:i<x.length
 ·have ha:=List.getElem?_eq_getElem h
  generalize x[i]=y at ha
  have hc:(((x.length:Nat):Int)<=(i:Int))=False:=by simp;omega
  refine aWm (Y4 @bV @eX ha hc) ?_ ?_ ?_
  ·exact ⟨1,trivial,by simp [Fin]⟩
  ·exact ⟨2,trivial,by simp [Fin]⟩
  ·exact ⟨3,trivial,by simp [Fin]⟩
 ·have hc:(((x.length:Nat):Int)<=(i:Int))=True:=by simp;omega
  refine iZ (Y3 @bV @eX hc) ?_
  exact ⟨0,trivial,by simp [Fin]⟩
theorem aGp (g p:List UInt8) (hg:g.length<=4095) (hp:p.length<=4095):∃ r:Int,True/\aC PP GG 227 [.d (.str g),.d (.str p)] (.d (.int .i64 r)) [none,none]:=by
 refine cvD Tryz.func227 (α:=Int) 1 _ (fun r=>[.d (.int .i64 r)]) _ (fun _=>rfl) ?_
 have c1:=pP g (by omega)
 generalize mP g=b1 at c1
 have c2:=pP p (by omega)
 generalize mP p=b2 at c2
 cases b1
 ·refine eA (Z1 c1) ?_
  exact ⟨-2,trivial,by simp [Fin]⟩
 cases b2
 ·refine eA (Z2 c1 c2) ?_
  exact ⟨-2,trivial,by simp [Fin]⟩
 have k1:aC PP GG 35 [.d (.str g),.d (.int .u8 47)] _ _:=fP g 47 (by omega)
 have k2:aC PP GG 35 [.d (.str p),.d (.int .u8 47)] _ _:=fP p 47 (by omega)
 have l1:=iK 47 g
 have l2:=iK 47 p
 generalize cJ 47 g=x at k1 l1
 generalize cJ 47 p=y at k2 l2
 have hi1:=cC x
 have hi2:=cC y
 refine eA (Z4 c1 c2 k1 k2) ?_
 refine gA (fun n st=>∃ i:Nat,n=8-i/\i<=8/\st=⟨[],[(5,.sl 0),(6,.sl 1),(7,.d (.int .i64 i))],[(0,.arr 0 0 1 (aK x)),(1,.arr 0 0 1 (aK y))],2⟩) _ ⟨0,rfl,by omega,?_⟩ ?_
 ·exact fI
 clear c1 c2 k1 k2
 rintro n st ⟨i,rfl,hi,rfl⟩
 by_cases hlt:i<8
 rotate_left
 ·have hie:i=8:=by omega
  subst hie
  refine mG ?_
  exact ⟨0,trivial,by simp [Fin]⟩
 have hw:IntKind.i64.wrap ((i:Int)+1)=(i:Int)+1:=aA (by omega) (by omega)
 obtain ⟨r1,-,q1⟩:=aGZ x i (by omega) (by omega)
 obtain ⟨r2,-,q2⟩:=aGZ y i (by omega) (by omega)
 repeat' (first|refine gH ?_|refine eL ?_|refine eC ?_|refine dR ?_|refine eW ?_|refine aW rfl ?_|refine bB rfl ?_|((first|refine eQ fun K hK=>?_|refine dQ fun K hK=>?_|with_reducible refine aF (q1) ?_|with_reducible refine aF (q2) ?_);simp [Fin])|(with_reducible refine hK _ ?_;clear hK K)|(with_reducible refine aJ (fun h=>?_) (fun h=>?_)<;>first|(exfalso;simp at h;first|done|omega|contradiction)|((try simp at h);simp))|with_reducible refine And.intro ?_ ?_|with_reducible exact aL rfl|with_reducible assumption|(refine dN rfl (fun h=>?_) (fun h=>?_)<;>first|(exfalso;simp at h;first|done|omega|contradiction)|(exfalso;simp_all;done)|(try simp at h))|omega)
 ·exact ⟨1,trivial,by simp [Fin]⟩
 ·exact ⟨-1,trivial,by simp [Fin]⟩
 ·refine ⟨8-(i+1),by omega,i+1,rfl,hlt,?_⟩
  exact dV hw
theorem aPN (p:dE) (s:List UInt8) (hf:tQ p) (hs:s.length<=4095):∃ r:lS×Bool,True/\aC PP GG 193 [.agg p.c,.d (.str s)] (.tup [.agg r.1.o,.d (.bool r.2)]) [none,none]:=by
 refine cvD Tryz.func193 (α:=lS×Bool) 2 _ (fun r=>[.agg r.1.o,.d (.bool r.2)]) _ (fun _=>rfl) ?_
 obtain ⟨b1,-,c1⟩:=vE p (tQ.up hf)
 have c2:=gF s (by omega)
 generalize gO s=b2 at c2
 obtain ⟨nm,a⟩:=p
 obtain ⟨h1,h2,h3⟩:=hf
 dsimp only at h1 h2 h3 c1 ⊢
 cases b1
 ·refine eA (Z1 c1) ?_
  exact ⟨(⟨[],0⟩,false),trivial,by simp [Fin]⟩
 cases b2
 ·refine eA (Z2 c1 c2) ?_
  exact ⟨(⟨[],0⟩,false),trivial,by simp [Fin]⟩
 refine eA (Z2 c1 c2) ?_
 refine gA (fun n st=>∃ i:Nat,n=a.length-i/\i<=a.length/\∃ (b:Bool) (bg:List UInt8) (bc:Int),bg.length<=4095 ∧
  st=⟨[],[(1,.d (.str s)),(2,.ptr 0 0),(4,.ptr 1 0),(6,.ptr 2 0),(7,.d (.bool b)),(8,.d (.int .i64 i))],[(0,.box [.d (.str nm),.d (.slc 2 (iL a))]),(1,.box [.d (.str []),.d (.int .i64 0)]),(2,.box [.d (.str bg),.d (.int .i64 bc)])],3⟩) _ ⟨0,rfl,by omega,false,[],0,by simp,?_⟩ ?_
 ·exact fI
 clear c1 c2
 rintro n st ⟨i,rfl,hi,b,bg,bc,hb,rfl⟩
 by_cases hlt:i<a.length
 rotate_left
 ·have hie:i=a.length:=by omega
  subst hie
  refine mG ?_
  exact ⟨(⟨bg,bc⟩,b),trivial,by simp [Fin]⟩
 have ha:=List.getElem?_eq_getElem hlt
 have hm:=h3 _ (List.getElem_mem hlt)
 generalize a[i]=x at ha hm
 obtain ⟨g,c⟩:=x
 dsimp only at hm
 have hw:IntKind.i64.wrap ((i:Int)+1)=(i:Int)+1:=aA (by omega) (by omega)
 obtain ⟨bm,-,cm⟩:=aL0 g s hm hs
 obtain ⟨rc,-,cc⟩:=aGp g bg hm hb
 cases bm
 ·refine cP ha (Z1 cm) ?_
  refine ⟨a.length-(i+1),by omega,i+1,rfl,hlt,b,bg,bc,hb,?_⟩
  exact dV hw
 cases b
 ·refine cP ha (Z1 cm) ?_
  refine ⟨a.length-(i+1),by omega,i+1,rfl,hlt,true,g,c,hm,?_⟩
  exact dV hw
 by_cases hr:0<rc
 ·have hr':(0<rc)=True:=by simp [hr]
  refine cP (Y2 ha hr') (Z2 cm cc) ?_
  refine ⟨a.length-(i+1),by omega,i+1,rfl,hlt,true,g,c,hm,?_⟩
  exact dV hw
 ·have hr':(0<rc)=False:=by simp [hr]
  refine cP (Y2 ha hr') (Z2 cm cc) ?_
  refine ⟨a.length-(i+1),by omega,i+1,rfl,hlt,true,bg,bc,hb,?_⟩
  exact dV hw
theorem aSe (ps:List dE) (s:List UInt8) (hl:ps.length<=4096) (hf:∀ p,p∈ps->tQ p) (hs:s.length<=4095):∃ r:Int,True/\aC PP GG 150 [.d (.slc 2 (cV ps)),.d (.str s)] (.d (.int .i64 r)) [none,none]:=by
 refine cvD Tryz.func150 (α:=Int) 1 _ (fun r=>[.d (.int .i64 r)]) _ (fun _=>rfl) ?_
 have c2:=gF s (by omega)
 generalize gO s=b2 at c2
 cases b2
 ·repeat' (first|refine gH ?_|refine eL ?_|refine eC ?_|refine dR ?_|refine eW ?_|refine aW rfl ?_|refine bB rfl ?_|((first|refine eQ fun K hK=>?_|refine dQ fun K hK=>?_|with_reducible refine aF (c2) ?_);simp [Fin])|(with_reducible refine hK _ ?_;clear hK K)|(with_reducible refine aJ (fun h=>?_) (fun h=>?_)<;>first|(exfalso;simp at h;first|done|omega|contradiction)|((try simp at h);simp))|with_reducible refine And.intro ?_ ?_|with_reducible exact aL rfl|with_reducible assumption|(refine dN rfl (fun h=>?_) (fun h=>?_)<;>first|(exfalso;simp at h;first|done|omega|contradiction)|(exfalso;simp_all;done)|(try simp at h))|omega)
  all_goals exact ⟨-1,trivial,by simp [Fin]⟩
 refine aSr (Z1 c2) ?_ ?_
 ·exact ⟨-1,trivial,by simp [Fin]⟩
 refine gA (fun n st=>∃ i:Nat,n=ps.length-i/\i<=ps.length/\∃ o:Int,st=⟨[],[(0,.d (.slc 2 (cV ps))),(1,.d (.str s)),(5,.d (.int .i64 o)),(6,.d (.int .i64 i))],[],0⟩) _ ⟨0,rfl,by omega,0,?_⟩ ?_
 ·exact fI
 clear c2
 rintro n st ⟨i,rfl,hi,o,rfl⟩
 by_cases hlt:i<ps.length
 rotate_left
 ·have hie:i=ps.length:=by omega
  subst hie
  refine aUD ?_ ?_
  ·exact ⟨_,trivial,by simp [Fin];rfl⟩
  ·exact ⟨_,trivial,by simp [Fin];rfl⟩
 have ha:=List.getElem?_eq_getElem hlt
 have hm:=hf _ (List.getElem_mem hlt)
 generalize ps[i]=x at ha hm
 have hw:IntKind.i64.wrap ((i:Int)+1)=(i:Int)+1:=aA (by omega) (by omega)
 obtain ⟨b1,-,c1⟩:=vE x (tQ.up hm)
 obtain ⟨⟨r,ok⟩,-,cr⟩:=aPN x s hm hs
 dsimp only at cr
 cases b1
 ·refine cP ha (Z1 c1) ?_
  exact ⟨-1,trivial,by simp [Fin]⟩
 ·obtain ⟨z,hz⟩:∃ z,fX .or .i64 o r.aLz=some (.int .i64 z):=⟨_,rfl⟩
  refine cP (Y2 ha hz) (Z2 c1 cr) ?_
  refine ⟨ps.length-(i+1),by omega,i+1,rfl,hlt,z,?_⟩
  exact dV hw
theorem aPS (ps:List dE) (s:List UInt8) (want:Int) (hl:ps.length<=4096) (hf:∀ p,p∈ps->tQ p) (hs:s.length<=4095):∃ b:Bool,True/\aC PP GG 111 [.d (.slc 2 (cV ps)),.d (.str s),.d (.int .i64 want)] (.d (.bool b)) [none,none,none]:=by
 refine cvD Tryz.func111 (α:=Bool) 1 _ (fun b=>[.d (.bool b)]) _ (fun _=>rfl) ?_
 have c1:=oS [1,2,4,8,16] want (by simp)
 simp only [bM,List.map_cons,List.map_nil] at c1
 generalize [1,2,4,8,16].contains want=b1 at c1
 obtain ⟨r,-,cr⟩:=aSe ps s hl hf hs
 cases b1
 ·refine eA (Z1 c1) ?_
  exact ⟨false,trivial,by simp [Fin]⟩
 ·obtain ⟨z,hz⟩:∃ z,fX .and .i64 r want=some (.int .i64 z):=⟨_,rfl⟩
  repeat' (first|refine gH ?_|refine eL ?_|refine eC ?_|refine dR ?_|refine eW ?_|refine aW rfl ?_|refine bB rfl ?_|((first|refine eQ fun K hK=>?_|refine dQ fun K hK=>?_|with_reducible refine aF (c1) ?_|with_reducible refine aF (cr) ?_);simp [Fin,hz])|(with_reducible refine hK _ ?_;clear hK K)|(with_reducible refine aJ (fun h=>?_) (fun h=>?_)<;>first|(exfalso;simp at h;first|done|omega|contradiction)|((try simp at h);simp [hz]))|with_reducible refine And.intro ?_ ?_|with_reducible exact aL rfl|with_reducible assumption|(refine dN rfl (fun h=>?_) (fun h=>?_)<;>first|(exfalso;simp at h;first|done|omega|contradiction)|(exfalso;simp_all;done)|(try simp at h))|omega)
  all_goals exact ⟨_,trivial,by simp [Fin];rfl⟩
theorem aB6 (x:Int) (h1:-1099511627776<=x) (h2:x<=1099511627776):∃ p:List UInt8,p.length<=10/\aC PP GG 185 [.d (.int .i64 x)] (.own 0 1 (aB p)) [none]:=by
 have c:=aC0 x (by omega) (by omega)
 rw [if_pos ⟨h1,h2⟩] at c
 exact ⟨yT x,aQH h1 h2,c⟩
end Go.Proofs.YtiejbbcpihpgpaaGreatDoor.Ab
