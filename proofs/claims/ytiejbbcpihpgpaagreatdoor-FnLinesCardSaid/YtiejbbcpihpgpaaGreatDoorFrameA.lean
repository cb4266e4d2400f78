/-
  A frame for proofs about functions of a program: values as data, cells that are owned.
-/
import Derived.WalkKit
import Derived.Laws.StructEq
import Derived.Laws.IdiomStrings
import Derived.Laws.MakeOwn
namespace Go.Proofs.YtiejbbcpihpgpaaGreatDoor.Ab
inductive D where
 |bool (b:Bool)
 |int (k:IntKind) (n:Int)
 |str (s:List UInt8)
 |slc (sz:Nat) (rows:List (List D))
 |fn (f:FuncId) (caps:List (List D))
 |err (isNil:Bool)
 |ifc (t:Nat) (k:IntKind) (n:Int)
 |hole
 deriving Inhabited
abbrev bK:=Nat->Nat->Prop
abbrev at_ (b o:Nat):Addr:=⟨b,o,none⟩
inductive Shr (w:World) (Fz:bK):Value->D->Prop
 |bool (b:Bool):Shr w Fz (.bool b) (.bool b)
 |int (k:IntKind) (n:Int):Shr w Fz (.int k n) (.int k n)
 |str (s:List UInt8):Shr w Fz (.string ⟨s.toArray⟩) (.str s)
 |emp (a:Option Addr) (cap sz:Nat):Shr w Fz (.slice a 0 cap) (.slc sz [])
 |slc (b off cap sz:Nat) (rows:List (List D)) (vs:Nat->Value)
   (hr:∀ row,row∈rows->row.length=sz) (hcap:rows.length<=cap)
   (hc:∀ m d,rows.flatten[m]?=some d->w.cell? (at_ b (off+m))=some (vs m)/\Fz b (off+m))
   (hs:∀ m d,rows.flatten[m]?=some d->Shr w Fz (vs m) d):Shr w Fz (.slice (some (at_ b off)) rows.length cap) (.slc sz rows)
 |fn (f:FuncId) (caps:List (List D)) (capv:Array Value) (bs offs:Nat->Nat) (vs:Nat->Nat->Value) (hl:capv.size=caps.length)
   (hb:∀ (i:Nat) (row:List D),caps[i]?=some row->capv[i]?=some (.pointer (some (at_ (bs i) (offs i)))))
   (hc:∀ (i:Nat) (row:List D) (m:Nat) (d:D),caps[i]?=some row->row[m]?=some d->w.cell? (at_ (bs i) (offs i+m))=some (vs i m)/\Fz (bs i) (offs i+m))
   (hs:∀ (i:Nat) (row:List D) (m:Nat) (d:D),caps[i]?=some row->row[m]?=some d->Shr w Fz (vs i m) d):Shr w Fz (.func (.func f) #[] capv) (.fn f caps)
 |nilIface:Shr w Fz .nilIface (.err true)
 |iface (t:TypeId) (v:Value):Shr w Fz (.iface t v) (.err false)
 |ifc (t:TypeId) (k:IntKind) (n:Int):Shr w Fz (.iface t (.int k n)) (.ifc t k n)
 |hole (v:Value) (h1:v.oneCell'=true):Shr w Fz v .hole
theorem Shr.mono {w w':World} {Fz Fz':bK} (hw:∀ b o,Fz b o->w'.cell? (at_ b o)=w.cell? (at_ b o)) (hF:∀ b o,Fz b o->Fz' b o) {v:Value} {d:D} (h:Shr w Fz v d):Shr w' Fz' v d:=by
 induction h with
 |bool b=>exact .bool b
 |int k n=>exact .int k n
 |str s=>exact .str s
 |emp a cap sz=>exact .emp a cap sz
 |slc b off cap sz rows vs hr hcap hc hs ih=>
  exact .slc b off cap sz rows vs hr hcap (fun m d h=>let ⟨h1,h2⟩:=hc m d h;⟨(hw _ _ h2).trans h1,hF _ _ h2⟩) (fun m d h=>ih m d h)
 |fn f caps capv bs offs vs hl hb hc hs ih=>
  exact .fn f caps capv bs offs vs hl hb (fun i row m d h h'=>let ⟨h1,h2⟩:=hc i row m d h h';⟨(hw _ _ h2).trans h1,hF _ _ h2⟩) (fun i row m d h h'=>ih i row m d h h')
 |nilIface=>exact .nilIface
 |iface t v=>exact .iface t v
 |ifc t k n=>exact .ifc t k n
 |hole v h1=>exact .hole v h1
theorem Shr.one {w:World} {Fz:bK} {v:Value} {d:D} (h:Shr w Fz v d):v.oneCell'=true:=by cases h<;>first|rfl|assumption
def aB9 (n:Nat) (T:Nat->bK):Prop:=∀ i j,i<n->j<n->i≠j->∀ x y,T i x y->¬T j x y
def _root_.Go.World.frz? (w:World) (a:Addr):Bool:=
 match w.heap[a.block]? with
 |some (.cells _ _ (lo,hi))=>!(lo==hi)
 |_=>false
theorem aPv {w:World} {a:Addr} {u:Value} (h:w.cell? a=some u) (hf:w.frz? a=false):w.frozen? a=false:=by
 unfold World.cell? at h
 unfold World.frz? at hf
 unfold World.frozen?
 split at h
 ·rename_i cs t fr hh
  rw [hh] at hf ⊢
  obtain ⟨lo,hi⟩:=fr
  simp at hf
  subst hf
  simp
 ·cases h
theorem aG6 {w:World} {a:Addr} {cs:Array Value} {t:TypeId} {lo hi:Nat} (h:w.heap[a.block]?=some (.cells cs t (lo,hi))) (hc:lo=hi):w.frz? a=false:=by
 unfold World.frz?;rw [h];simp [hc]
theorem aPu {w w':World} {a:Addr} (h:w'.heap[a.block]?=w.heap[a.block]?):w'.frz? a=w.frz? a:=by
 unfold World.frz?;rw [h]
@[simp] theorem aUg (w:World) (a:Addr) (v:Value) (x:Addr):(w.setCell a v).frz? x=w.frz? x:=by
 simp only [World.frz?,World.setCell,Array.getElem?_modify]
 by_cases hb:a.block=x.block
 ·rw [if_pos hb]
  cases w.heap[x.block]? with
  |none=>rfl
  |some o=>
   cases o with
   |cells c e f=>
    obtain ⟨lo,hi⟩:=f
    simp only [Option.map_some]
   |_=>rfl
 ·rw [if_neg hb]
def wY (w:World) (b off n:Nat):Prop:=∀ o,o<n->(∃ u,w.cell? (at_ b (off+o))=some u)/\w.frz? (at_ b (off+o))=false
def rng (b off n:Nat):bK:=fun x y=>x=b/\off<=y/\y<off+n
def Own (w:World) (Fz:bK):Nat->Value->D->bK->Prop
 |0,v,d,S=>Shr w Fz v d/\∀ x y,¬S x y
 |k+1,v,d,S=>
  match d with
  |.slc sz rows=>
   (v=.slice none 0 0/\rows=[]/\∀ x y,¬S x y) ∨
   ∃ (b off cap:Nat) (T:Nat->bK),v=.slice (some (at_ b off)) rows.length cap/\rows.length<=cap/\wY w b off (cap*sz) ∧
    (∀ row,row∈rows->row.length=sz) ∧
    (∀ m d,rows.flatten[m]?=some d->∃ u,w.cell? (at_ b (off+m))=some u/\Own w Fz k u d (T m)) ∧
    aB9 rows.flatten.length T/\(∀ m,m<rows.flatten.length->∀ x y,rng b off (cap*sz) x y->¬T m x y) ∧
    (∀ x y,S x y ↔ (rng b off (cap*sz) x y\/∃ m,m<rows.flatten.length/\T m x y))
  |d=>Shr w Fz v d/\∀ x y,¬S x y
def eZ (w w':World) (S:bK):Prop:=∀ b o,S b o->w'.cell? (at_ b o)=w.cell? (at_ b o)/\w'.frz? (at_ b o)=w.frz? (at_ b o)
theorem eZ.refl (w:World) (S:bK):eZ w w S:=fun _ _ _=>⟨rfl,rfl⟩
theorem eZ.sub {w w':World} {S S':bK} (h:eZ w w' S) (hs:∀ b o,S' b o->S b o):eZ w w' S':=fun b o hb=>h b o (hs b o hb)
theorem eZ.trans {w w' w'':World} {S:bK} (h:eZ w w' S) (h':eZ w' w'' S):eZ w w'' S:=
 fun b o hb=>⟨(h' b o hb).1.trans (h b o hb).1,(h' b o hb).2.trans (h b o hb).2⟩
theorem wY.keep {w w':World} {b off n:Nat} (h:wY w b off n) (hk:eZ w w' (rng b off n)):wY w' b off n:=by
 intro o ho
 obtain ⟨⟨u,hu⟩,hf⟩:=h o ho
 have hk:=hk b (off+o) ⟨rfl,by omega,by omega⟩
 exact ⟨⟨u,hk.1.trans hu⟩,hk.2.trans hf⟩
theorem jB {rows:List (List D)} {m:Nat} {d:D} (h:rows.flatten[m]?=some d):m<rows.flatten.length:=(List.getElem?_eq_some_iff.1 h).1
theorem iE {rows:List (List D)} {sz:Nat} (h:∀ row,row∈rows->row.length=sz):rows.flatten.length=rows.length*sz:=by
 induction rows with
 |nil=>simp
 |cons r rs ih=>
  simp only [List.flatten_cons,List.length_append,List.length_cons]
  rw [ih (fun row hrow=>h row (by simp [hrow])),h r (by simp),Nat.add_mul]
  omega
theorem Own.mono {w w':World} {Fz Fz':bK} (hF:∀ b o,Fz b o->Fz' b o) (hz:eZ w w' Fz):
  ∀ (k:Nat) {v:Value} {d:D} {S:bK} (_:eZ w w' S),Own w Fz k v d S->Own w' Fz' k v d S:=by
 intro k
 induction k with
 |zero=>intro v d S _ h;exact ⟨h.1.mono (fun b o hb=>(hz b o hb).1) hF,h.2⟩
 |succ k ih=>
  intro v d S hS h
  cases d with
  |slc sz rows=>
   rcases h with h|⟨b,off,cap,T,rfl,h1,h2,h3,h4,h5,h6,h7⟩
   ·exact .inl h
   ·have hl:=iE h3
    have hle:rows.length*sz<=cap*sz:=Nat.mul_le_mul_right _ h1
    refine .inr ⟨b,off,cap,T,rfl,h1,h2.keep (hS.sub fun x y hx=>(h7 x y).2 (.inl hx)),h3,?_,h5,h6,h7⟩
    intro m d hm
    have hlt:=jB hm
    obtain ⟨u,hu,ho⟩:=h4 m d hm
    refine ⟨u,((hS b (off+m) ((h7 _ _).2 (.inl ⟨rfl,by omega,by omega⟩))).1).trans hu,ih (hS.sub fun x y hx=>(h7 x y).2 (.inr ⟨m,hlt,hx⟩)) ho⟩
  |_=>exact ⟨h.1.mono (fun b o hb=>(hz b o hb).1) hF,h.2⟩
theorem aIz {w:World} {b o:Nat} {u:Value} (h:w.cell? (at_ b o)=some u):b<w.heap.size:=block_lt_of_cell h
theorem Own.lt {w:World} {Fz:bK}:∀ (k:Nat) {v:Value} {d:D} {S:bK},Own w Fz k v d S->∀ b o,S b o->b<w.heap.size:=by
 intro k
 induction k with
 |zero=>intro v d S h b o hb;exact (h.2 b o hb).elim
 |succ k ih=>
  intro v d S h x y hx
  cases d with
  |slc sz rows=>
   rcases h with h|⟨b,off,cap,T,rfl,h1,h2,h3,h4,h5,h6,h7⟩
   ·exact (h.2.2 x y hx).elim
   ·rcases (h7 x y).1 hx with ⟨rfl,ha,hb⟩|⟨m,hm,hT⟩
    ·obtain ⟨⟨u,hu⟩,_⟩:=h2 (y-off) (by omega)
     exact aIz hu
    ·obtain ⟨u,hu,ho⟩:=h4 m _ (List.getElem?_eq_getElem hm)
     exact ih ho x y hT
  |_=>exact (h.2 x y hx).elim
theorem Own.shr {w:World} {Fz Fz':bK} (hF:∀ b o,Fz b o->Fz' b o):∀ (k:Nat) {v:Value} {d:D} {S:bK},(∀ b o,S b o->Fz' b o)->Own w Fz k v d S->Shr w Fz' v d:=by
 intro k
 induction k with
 |zero=>intro v d S _ h;exact h.1.mono (fun _ _ _=>rfl) hF
 |succ k ih=>
  intro v d S hS h
  cases d with
  |slc sz rows=>
   rcases h with ⟨rfl,rfl,_⟩|⟨b,off,cap,T,rfl,h1,h2,h3,h4,h5,h6,h7⟩
   ·exact .emp none 0 sz
   ·have hl:=iE h3
    have hle:rows.length*sz<=cap*sz:=Nat.mul_le_mul_right _ h1
    refine .slc b off cap sz rows (fun m=>(w.cell? (at_ b (off+m))).getD undef) h3 h1 ?_ ?_
    ·intro m d hm
     have hlt:=jB hm
     obtain ⟨u,hu,ho⟩:=h4 m d hm
     exact ⟨by simp [hu],hS _ _ ((h7 _ _).2 (.inl ⟨rfl,by omega,by omega⟩))⟩
    ·intro m d hm
     obtain ⟨u,hu,ho⟩:=h4 m d hm
     simp only [hu,Option.getD_some]
     exact ih (fun x y hx=>hS x y ((h7 x y).2 (.inr ⟨m,jB hm,hx⟩))) ho
  |_=>exact h.1.mono (fun _ _ _=>rfl) hF
inductive C where
 |d (x:D)
 |own (k sz:Nat) (rows:List (List D))
 |nil (k sz:Nat)
 |box (cells:List C)
 |rp (row:List D)
 |agg (cells:List C)
 |tup (vs:List C)
 deriving Inhabited
inductive A where
 |d (x:D)
 |nil (k sz:Nat)
 |sl (n:Nat)
 |sv (n sz lo hi:Nat)
 |inn (n ver:Nat) (p:List (Nat×Nat))
 |elt (n ver:Nat) (p:List (Nat×Nat)) (i off:Nat)
 |ptr (n off:Nat)
 |rp (row:List D) (off:Nat)
 |agg (cells:List A)
 |tup (vs:List A)
 |clo (f:FuncId) (caps:List A)
 |skip
 |undef
 deriving Inhabited
inductive O where
 |box (cells:List A)
 |arr (ver k sz:Nat) (rows:List (List D))
 deriving Inhabited
structure St where
 tmps:List (Nat×A)
 vars:List (Nat×A)
 objs:List (Nat×O)
 nx:Nat
 deriving Inhabited
def cQ {α:Type}:List (Nat×α)->Nat->Option α
 |[],_=>none
 |(t,x)::r,s=>if t=s then some x else cQ r s
def put {α:Type}:List (Nat×α)->Nat->α->List (Nat×α)
 |[],s,x=>[(s,x)]
 |(t,y)::r,s,x=>if t=s then (s,x)::r else (t,y)::put r s x
def del {α:Type}:List (Nat×α)->Nat->List (Nat×α)
 |[],_=>[]
 |(t,y)::r,s=>if t=s then del r s else (t,y)::del r s
inductive Opd where
 |loc (t:Nat)
 |var (t:Nat)
 |const (a:A)
 |fn (f:FuncId)
 deriving Inhabited
inductive eN where
 |borrow|lend|give|nil|box (len:Nat)
 deriving DecidableEq,Inhabited
inductive Ty where
 |int|str|bool|err|st (ks:List Nat)
 deriving DecidableEq,Inhabited
inductive AOp where
 |mv (x:Opd)
 |split (x:Opd)
 |pick (c a b:Opd)
 |alloc (cells:List A)
 |box (x:Opd)
 |load (agg:Bool) (n:Nat) (x:Opd)
 |store (n:Nat) (x v:Opd)
 |fld (off:Nat) (x:Opd)
 |fieldV (agg:Bool) (off n:Nat) (x:Opd)
 |idxA (sz:Nat) (x i:Opd)
 |idxS (x i:Opd)
 |bin (ty:Ty) (op:BinOp) (x y:Opd)
 |un (op:UnOp) (x:Opd)
 |conv (k:IntKind) (x:Opd)
 |s2b (x:Opd)
 |b2s (x:Opd)
 |len (str:Bool) (x:Opd)
 |mm (mx:Bool) (x y:Opd)
 |mkslice (k0 sz bytes:Nat) (zero:List D) (len cap:Opd)
 |lit (k0 sz n:Nat) (zero:List D) (parts:List (Nat×Opd))
 |build (zero:List A) (parts:List (Nat×Nat×Opd))
 |sliceS (x:Opd) (lo hi:Option Opd)
 |sliceA (sz:Nat) (x:Opd) (lo hi:Option Opd)
 |ext (x:Opd) (i:Nat)
 |app (sz bytes:Nat) (x y:Opd)
 |appS (x y:Opd)
 |clo (f:FuncId) (caps:List Opd)
 |call (f:Opd) (args:List Opd) (modes:List eN)
 |nchk (x:Opd)
 |mkI (t:Nat) (x:Opd)
 |mark (x:Opd)
 |bad
 deriving Inhabited
inductive Dst where
 |none|loc (t:Nat)|var (t:Nat)
 deriving Inhabited
structure cM where
 dst:Dst
 op:AOp
 guard:Option (Opd×Bool):=none
 after:List Nat:=[]
 deriving Inhabited
inductive aI where
 |skip
 |reg (ops:List cM) (draw:Bool)
 |seq (a b:aI)
 |cond (c:Opd) (a b:aI)
 |block (id:Nat) (c:aI)
 |loop (live:List Nat) (c:aI)
 |exit (id:Nat)
 |ret
 deriving Inhabited
inductive RM (α:Type) where
 |ret (a:α)
 |fail
 |rs (v:Bool) (s:Nat) (k:A->RM α)
 |rh (n:Nat) (k:O->RM α)
 |ite (b:Bool) (x y:RM α)
 |need (p:Prop) (k:RM α)
 |call (f:FuncId) (cs:List C) (k:C->List (Option C)->RM α)
namespace RM
def bind {α β:Type}:RM α->(α->RM β)->RM β
 |.ret a,f=>f a
 |.fail,_=>.fail
 |.rs v s k,f=>.rs v s fun x=>(k x).bind f
 |.rh n k,f=>.rh n fun o=>(k o).bind f
 |.ite b x y,f=>.ite b (x.bind f) (y.bind f)
 |.need p k,f=>.need p (k.bind f)
 |.call g cs k,f=>.call g cs fun r os=>(k r os).bind f
def mapM {α β:Type} (f:α->RM β):List α->RM (List β)
 |[]=>.ret []
 |x::xs=>(f x).bind fun y=>(mapM f xs).bind fun ys=>.ret (y::ys)
end RM
def ev:Opd->RM A
 |.loc t=>.rs false t .ret
 |.var t=>.rs true t .ret
 |.const a=>.ret a
 |.fn f=>.ret (.d (.fn f []))
structure Wr where
 val:A
 objs:List (Nat×Option O):=[]
 deriving Inhabited
def eF:Nat->List (List D)->List (Nat×Nat)->Option (Nat×List (List D))
 |sz,rows,[]=>some (sz,rows)
 |_,rows,(i,j)::p=>
  match (rows[i]?).bind (·[j]?) with
  |some (.slc sz' rows')=>eF sz' rows' p
  |_=>none
def lA:Nat->List (List D)->List (Nat×Nat)->List (List D)->List (List D)
 |_,_,[],new=>new
 |_,rows,(i,j)::p,new=>
  match (rows[i]?).bind (·[j]?) with
  |some (.slc sz' rows')=>rows.set i ((rows.getD i []).set j (.slc sz' (lA sz' rows' p new)))
  |_=>rows
def out (a:A):RM Wr:=.ret { val:=a }
def mC:Nat->A->RM (D×List Nat)
 |_,.d x=>.ret (x,[])
 |_,.nil _ sz=>.ret (.slc sz [],[])
 |_,.sl n=>.rh n fun|.arr _ _ sz rows=>.ret (.slc sz rows,[n])|_=>.fail
 |_,.sv n sz lo hi=>.rh n fun|.arr _ _ sz' rows=>if sz=sz' then .ret (.slc sz ((rows.take hi).drop lo),[n]) else .fail|_=>.fail
 |_,.inn n ver p=>.rh n fun
  |.arr ver' _ sz rows=>if ver=ver' then (match eF sz rows p with|some (sz',rows')=>.ret (.slc sz' rows',[n])|none=>.fail) else .fail
  |_=>.fail
 |f+1,.clo g caps=>(RM.mapM (fun a:A=>match a with
   |.ptr n 0=>.rh n fun|.box cells=>(RM.mapM (mC f) cells).bind fun ds=>.ret (ds.map (·.1),n::(ds.map (·.2)).flatten)|_=>.fail
   |.rp row 0=>.ret (row,[])
   |_=>.fail) caps).bind fun rows=>.ret (.fn g (rows.map (·.1)),(rows.map (·.2)).flatten)
 |_,_=>.fail
def fX (op:BinOp) (k:IntKind) (a b:Int):Option D:=
 match op with
 |.add=>some (.int k (k.wrap (a+b)))
 |.sub=>some (.int k (k.wrap (a-b)))
 |.mul=>some (.int k (k.wrap (a*b)))
 |.quo=>if b=0 then none else some (.int k (k.wrap (a.tdiv b)))
 |.rem=>if b=0 then none else some (.int k (a.tmod b))
 |.and=>some (.int k (k.wrap ((BitVec.ofInt k.bits a &&& BitVec.ofInt k.bits b).toNat)))
 |.or=>some (.int k (k.wrap ((BitVec.ofInt k.bits a ||| BitVec.ofInt k.bits b).toNat)))
 |.xor=>some (.int k (k.wrap ((BitVec.ofInt k.bits a ^^^ BitVec.ofInt k.bits b).toNat)))
 |.andNot=>some (.int k (k.wrap ((BitVec.ofInt k.bits a &&& ~~~(BitVec.ofInt k.bits b)).toNat)))
 |.eql=>some (.bool (a==b))
 |.neq=>some (.bool (a != b))
 |.lss=>some (.bool (a<b))
 |.leq=>some (.bool (a<=b))
 |.gtr=>some (.bool (a>b))
 |.geq=>some (.bool (a>=b))
 |_=>none
def yA (op:BinOp) (k:IntKind) (a b:Int):Option D:=
 if b<0 then none else
 match op with
 |.shl=>some (.int k (k.wrap (a*2 ^ (min b.toNat k.bits))))
 |.shr=>some (.int k (a.fdiv (2 ^ (min b.toNat k.bits))))
 |_=>none
def dP:Nat:=9223372036854775807
def aHB (op:BinOp) (a b:List UInt8):Option D:=
 match op with
 |.add=>some (.str (a++b))
 |.eql=>some (.bool (a==b))
 |.neq=>some (.bool (!(a==b)))
 |.lss=>some (.bool (Go.Op.bytesLess a b))
 |.leq=>some (.bool (Go.Op.bytesLess a b || a==b))
 |.gtr=>some (.bool (!(Go.Op.bytesLess a b || a==b)))
 |.geq=>some (.bool (!(Go.Op.bytesLess a b)))
 |_=>none
def wI (x:Option D):RM Wr:=match x with|some d=>out (.d d)|none=>.fail
def aOD:Nat->D->D->Option Bool
 |0,.int k a,.int k' b=>if k=k' then some (a==b) else none
 |1,.str a,.str b=>some (a==b)
 |2,.bool a,.bool b=>some (a==b)
 |_,_,_=>none
def tV:List Nat->List A->List A->Option Bool
 |[],[],[]=>some true
 |t::ts,.d a::r,.d b::s=>(aOD t a b).bind fun x=>(tV ts r s).bind fun y=>some (x && y)
 |_,_,_=>none
def qU (ty:Ty) (op:BinOp) (a b:A):RM Wr:=
 match ty,a,b with
 |.int,.d (.int k m),.d (.int k' n)=>
  (match op with
   |.shl|.shr=>wI (yA op k m n)
   |_=>if k=k' then wI (fX op k m n) else .fail)
 |.str,.d (.str s),.d (.str t)=>
  (match op with
   |.add=>.need (s.length+t.length<=dP) (wI (aHB op s t))
   |_=>wI (aHB op s t))
 |.bool,.d (.bool s),.d (.bool t)=>(match op with|.eql=>out (.d (.bool (s==t)))|.neq=>out (.d (.bool (!(s==t))))|_=>.fail)
 |.err,.d (.err s),.d (.err true)=>(match op with|.eql=>out (.d (.bool s))|.neq=>out (.d (.bool (!s)))|_=>.fail)
 |.err,.d (.ifc _ _ _),.d (.err true)=>(match op with|.eql=>out (.d (.bool false))|.neq=>out (.d (.bool true))|_=>.fail)
 |.st ks,.agg x,.agg y=>(match op,tV ks x y with
   |.eql,some r=>out (.d (.bool r))
   |.neq,some r=>out (.d (.bool (!r)))
   |_,_=>.fail)
 |_,_,_=>.fail
def lJ (n ver:Nat) (p:List (Nat×Nat)) (i:Nat):Nat->List D->List A
 |_,[]=>[]
 |j,.slc _ _::r=>.inn n ver (p++[(i,j)])::lJ n ver p i (j+1) r
 |j,.hole::r=>.undef::lJ n ver p i (j+1) r
 |j,x::r=>.d x::lJ n ver p i (j+1) r
def yF (agg:Bool) (cells:List A):RM Wr:=
 match agg,cells with
 |true,cs=>out (.agg cs)
 |false,[c]=>out c
 |false,_=>.fail
def eM (a:A):List A:=match a with|.agg cs=>cs|x=>[x]
def aNO (agg:Bool) (n:Nat) (x:A):RM Wr:=
 match x with
 |.ptr m off=>.rh m fun
  |.box cells=>if off+n<=cells.length then yF agg ((cells.drop off).take n) else .fail
  |_=>.fail
 |.rp row off=>if off+n<=row.length then yF agg (((row.drop off).take n).map A.d) else .fail
 |.elt m ver p i off=>.rh m fun
  |.arr ver' _ sz rows=>
   if p=[]\/ver=ver' then
    match eF sz rows p with
    |some (_,rows')=>match rows'[i]? with
     |some row=>if off+n<=row.length then yF agg (lJ m ver' p i off ((row.drop off).take n)) else .fail
     |none=>.fail
    |none=>.fail
   else .fail
  |_=>.fail
 |_=>.fail
def jT (k:Nat):List A->RM (List D×List Nat)
 |[]=>.ret ([],[])
 |.sl n::r=>.rh n fun
  |.arr _ k' sz rows=>if k=0\/k=k'+1 then (jT k r).bind fun (ds,ns)=>if n∈ns then .fail else .ret (.slc sz rows::ds,n::ns) else .fail
  |_=>.fail
 |.nil _ sz::r=>(jT k r).bind fun (ds,ns)=>.ret (.slc sz []::ds,ns)
 |.d (.slc sz rows)::r=>if k=0 then (jT k r).bind fun (ds,ns)=>.ret (.slc sz rows::ds,ns) else .fail
 |.d x::r=>(jT k r).bind fun (ds,ns)=>.ret (x::ds,ns)
 |_::_=>.fail
def gK (xs:List A) (off:Nat) (new:List A):List A:=xs.take off++new++xs.drop (off+new.length)
def oG (xs:List D) (off:Nat) (new:List D):List D:=xs.take off++new++xs.drop (off+new.length)
def aBB:D->Bool
 |.slc _ _=>true
 |_=>false
def aCq (p:List (Nat×Nat)) (old new:List D):Bool:=match p with|[]=>false|_::_=>(old.all fun d=>!aBB d) && new.all fun d=>!aBB d
def A.cellB:A->Bool
 |.agg _|.tup _|.skip|.undef=>false
 |_=>true
def yU (a:A):Bool:=match a with|.agg _=>true|a=>a.cellB
def aHC (n:Nat) (x v:A):RM Wr:=
 if (eM v).length≠n then .fail else
 match x with
 |.ptr m off=>.rh m fun
  |.box cells=>if off+n<=cells.length/\yU v=true then .ret { val:=.skip,objs:=[(m,some (.box (gK cells off (eM v))))] } else .fail
  |_=>.fail
 |.elt m ver p i off=>.rh m fun
  |.arr ver' k sz rows=>
   if (p=[]\/ver=ver')/\p.length<=k then
    match eF sz rows p with
    |some (_,rows')=>match rows'[i]? with
     |some row=>if off+n<=row.length then
       (jT (k-p.length) (eM v)).bind fun (ds,ns)=>
        if m∈ns then .fail else
        .ret { val:=.skip,objs:=ns.map (fun q=>(q,none))++[(m,some (.arr (if aCq p ((row.drop off).take n) ds then ver' else ver'+1) k sz (lA sz rows p (rows'.set i (oG row off ds)))))] }
      else .fail
     |none=>.fail
    |none=>.fail
   else .fail
  |_=>.fail
 |_=>.fail
def idx (i:Int) (n:Nat) (k:Nat->RM Wr):RM Wr:=.need (0<=i/\i<n) (k i.toNat)
def aNX (sz:Nat) (x:A) (i:Int):RM Wr:=
 match x with
 |.d (.slc sz' rows)=>if sz=sz' then idx i rows.length fun j=>match rows[j]? with|some row=>out (.rp row 0)|none=>.fail else .fail
 |.sl n=>.rh n fun|.arr ver _ sz' rows=>if sz=sz' then idx i rows.length fun j=>out (.elt n ver [] j 0) else .fail|_=>.fail
 |.sv n sz' lo hi=>.rh n fun|.arr ver _ sz'' _=>if sz=sz'/\sz=sz'' then idx i (hi-lo) fun j=>out (.elt n ver [] (lo+j) 0) else .fail|_=>.fail
 |.inn n ver p=>.rh n fun
  |.arr ver' _ sz' rows=>if ver=ver' then (match eF sz' rows p with
    |some (sz'',rows')=>if sz=sz'' then idx i rows'.length fun j=>out (.elt n ver p j 0) else .fail
    |none=>.fail) else .fail
  |_=>.fail
 |_=>.fail
def aTt (str:Bool) (x:A):RM Wr:=
 match str,x with
 |true,.d (.str s)=>out (.d (.int .i64 s.length))
 |true,_=>.fail
 |false,x=>match x with
  |.d (.slc _ rows)=>out (.d (.int .i64 rows.length))
  |.nil _ _=>out (.d (.int .i64 0))
  |.sl n=>.rh n fun|.arr _ _ _ rows=>out (.d (.int .i64 rows.length))|_=>.fail
  |.sv _ _ lo hi=>out (.d (.int .i64 ((hi-lo:Nat):Int)))
  |.inn n ver p=>.rh n fun
   |.arr ver' _ sz rows=>if ver=ver' then (match eF sz rows p with|some (_,rows')=>out (.d (.int .i64 rows'.length))|none=>.fail) else .fail
   |_=>.fail
  |_=>.fail
def aB (l:List UInt8):List (List D):=l.map fun b=>[.int .u8 b.toNat]
def sK:List (List D)->Option (List UInt8)
 |[]=>some []
 |[.int .u8 n]::r=>(sK r).map (UInt8.ofNat n.toNat::·)
 |_=>none
def aWY:List D->List (Nat×Nat×List D)->List D
 |z,[]=>z
 |z,(off,_,ds)::r=>aWY (oG z off ds) r
def aM:Nat:=140737488355328
def cH:Nat->C->A×List (Nat×Option O)×Nat
 |n,.d x=>(.d x,[],n)
 |n,.own k sz rows=>(.sl n,[(n,some (.arr 0 k sz rows))],n+1)
 |n,.nil k sz=>(.nil k sz,[],n)
 |n,.rp row=>(.rp row 0,[],n)
 |n,.box cells=>let (as,os,m):=openL (n+1) cells;(.ptr n 0,os++[(n,some (.box as))],m)
 |n,.agg cells=>let (as,os,m):=openL n cells;(.agg as,os,m)
 |n,.tup cells=>let (as,os,m):=openL n cells;(.tup as,os,m)
where openL:Nat->List C->List A×List (Nat×Option O)×Nat
 |n,[]=>([],[],n)
 |n,c::r=>let (a,os,m):=cH n c;let (as,os',m'):=openL m r;(a::as,os++os',m')
def lL:A->RM (C×List Nat×List Nat)
 |.sl n=>.rh n fun|.arr _ k sz rows=>.ret (.own k sz rows,[n],[])|_=>.fail
 |.inn n ver p=>.rh n fun
  |.arr ver' k sz rows=>if ver=ver'/\p.length<=k then (match eF sz rows p with|some (sz',rows')=>.ret (.own (k-p.length) sz' rows',[n],[])|none=>.fail) else .fail
  |_=>.fail
 |.nil k sz=>.ret (.own k sz [],[],[])
 |a=>(mC 3 a).bind fun x=>.ret (.d x.1,[],x.2)
def lO:List A->RM (List C×List Nat×List Nat)
 |[]=>.ret ([],[],[])
 |a::r=>(lL a).bind fun (c,l,b)=>(lO r).bind fun (cs,ls,bs)=>.ret (c::cs,l++ls,b++bs)
def aMv (x:A):RM (Nat×Nat×List (List D)×List Nat):=
 match x with
 |.nil k sz=>.ret (k,sz,[],[])
 |.sl n=>.rh n fun|.arr _ k sz rows=>.ret (k,sz,rows,[n])|_=>.fail
 |.sv n sz lo hi=>.rh n fun|.arr _ k sz' rows=>if sz=sz'/\lo<=hi/\hi<=rows.length then .ret (k,sz,(rows.take hi).drop lo,[n]) else .fail|_=>.fail
 |_=>.fail
def aBE (a:A):RM (C×List Nat×List Nat):=
 match a with
 |.sv n sz lo hi=>(aMv (.sv n sz lo hi)).bind fun o=>.ret (.own o.1 o.2.1 o.2.2.1,o.2.2.2,[])
 |a=>lL a
def rA:List A->RM (List C×List Nat×List Nat)
 |[]=>.ret ([],[],[])
 |a::r=>(aBE a).bind fun (c,l,b)=>(rA r).bind fun (cs,ls,bs)=>.ret (c::cs,l++ls,b++bs)
def pV (m:eN) (a:A):RM (C×List Nat×List Nat×List Nat):=
 match m,a with
 |.borrow,.agg cells=>(RM.mapM (mC 3) cells).bind fun ds=>.ret (.agg (ds.map fun x=>.d x.1),[],[],(ds.map (·.2)).flatten)
 |.borrow,.rp row off=>.ret (.rp (row.drop off),[],[],[])
 |.borrow,a=>(mC 3 a).bind fun x=>.ret (.d x.1,[],[],x.2)
 |.lend,.agg cells=>(lO cells).bind fun (cs,l,b)=>.ret (.agg cs,l,[],b)
 |.lend,a=>(lL a).bind fun (c,l,b)=>.ret (c,l,[],b)
 |.give,.agg cells=>(rA cells).bind fun (cs,l,b)=>.ret (.agg cs,[],l,b)
 |.give,.sv n sz lo hi=>(aMv (.sv n sz lo hi)).bind fun o=>.ret (.own o.1 o.2.1 o.2.2.1,[],o.2.2.2,[])
 |.give,a=>(lL a).bind fun (c,l,b)=>.ret (c,[],l,b)
 |.nil,.nil k sz=>.ret (.nil k sz,[],[],[])
 |.box len,.ptr n off=>.rh n fun
  |.box cells=>if off+len<=cells.length then (lO ((cells.drop off).take len)).bind fun (cs,l,b)=>.ret (.box cs,n::l,[],b) else .fail
  |_=>.fail
 |_,_=>.fail
def oZ:List (eN×A)->RM (List C×List Nat×List Nat×List Nat)
 |[]=>.ret ([],[],[],[])
 |(m,a)::r=>(pV m a).bind fun (c,l,g,b)=>(oZ r).bind fun (cs,ls,gs,bs)=>.ret (c::cs,l++ls,g++gs,b++bs)
def pZ (a:A) (c:C):RM (List (Nat×Option O)):=
 match a,c with
 |.sl n,.own k sz rows=>.rh n fun|.arr ver _ sz0 _=>if sz0=sz then .ret [(n,some (.arr (ver+1) k sz rows))] else .fail|_=>.fail
 |.inn n _ p,.own k' sz' rows'=>.rh n fun
  |.arr ver k sz rows=>if k'=k-p.length/\(eF sz rows p).map (·.1)=some sz' then .ret [(n,some (.arr (ver+1) k sz (lA sz rows p rows')))] else .fail
  |_=>.fail
 |.nil _ _,.own _ _ []=>.ret []
 |_,.d _=>.ret []
 |_,_=>.fail
def pE:List A->List C->RM (List (Nat×Option O))
 |[],[]=>.ret []
 |a::r,c::s=>(pZ a c).bind fun x=>(pE r s).bind fun y=>.ret (x++y)
 |_,_=>.fail
def aB0 (a:A) (c:C):RM (List (Nat×Option O)):=
 match a with
 |.agg cells=>(match c with|.agg cs=>pE cells cs|_=>.fail)
 |a=>pZ a c
def aB2 (n len q off:Nat) (cs:List C):RM (List (Nat×Option O)×Nat):=
 .rh q fun
  |.box cells=>if cs.length=len then .ret ((cH.openL n cs).2.1++[(q,some (.box (gK cells off (cH.openL n cs).1)))],(cH.openL n cs).2.2) else .fail
  |_=>.fail
def vD (n:Nat) (m:eN) (a:A) (c:Option C):RM (List (Nat×Option O)×Nat):=
 match m with
 |.lend=>(match c with|some c=>(aB0 a c).bind fun x=>.ret (x,n)|none=>.fail)
 |.box len=>(match a with
  |.ptr q off=>(match c with|some (.box cs)=>aB2 n len q off cs|_=>.fail)
  |_=>.fail)
 |.borrow=>(match c with|none=>.ret ([],n)|some _=>.fail)
 |.give=>(match c with|none=>.ret ([],n)|some _=>.fail)
 |.nil=>(match c with|none=>.ret ([],n)|some _=>.fail)
def mE:Nat->List (eN×A)->List (Option C)->RM (List (Nat×Option O)×Nat)
 |n,[],[]=>.ret ([],n)
 |n,(m,a)::r,c::s=>(vD n m a c).bind fun (x,n')=>(mE n' r s).bind fun (y,n'')=>.ret (x++y,n'')
 |_,_,_=>.fail
def yZ:List Nat->Bool
 |[]=>true
 |n::r=>!r.contains n && yZ r
def aCO (xs ys:List Nat):Bool:=xs.all fun x=>!ys.contains x
def oB:Nat->D->Prop
 |0,.slc _ rows=>rows=[]
 |k+1,.slc _ rows=>∀ row,row∈rows->∀ d,d∈row->oB k d
 |_,.fn _ caps=>caps=[]
 |_,_=>True
mutual
def aL1:C->Prop
 |.d x=>oB 0 x
 |.own k _ rows=>∀ row,row∈rows->∀ d,d∈row->oB k d
 |.nil _ _=>True
 |.rp _=>False
 |.box cells=>aDt cells
 |.agg cells=>aDt cells
 |.tup cells=>aDt cells
def aDt:List C->Prop
 |[]=>True
 |c::r=>aL1 c/\aDt r
end
def aB8:List (Option C)->Prop
 |[]=>True
 |none::r=>aB8 r
 |some c::r=>aL1 c/\aB8 r
def aRN (base:Nat) (b gone:List Nat) (ms:List (eN×A)) (r:C) (os:List (Option C)):RM Wr:=
 .need (b≠[]->aL1 r/\aB8 os) ((mE (cH base r).2.2 ms os).bind fun p=>
  if p.2<=base+64 then .ret { val:=(cH base r).1,objs:=gone.map (fun q=>(q,none))++((cH base r).2.1++p.1) } else .fail)
def aN5 (base:Nat) (f:A) (args:List A) (modes:List eN):RM Wr:=
 match f with
 |.d (.fn g caps)=>
  (oZ (modes.zip args)).bind fun p=>
   if modes.length=args.length/\yZ (p.2.1++p.2.2.1)=true/\aCO (p.2.1++p.2.2.1) p.2.2.2=true then
    .call g (p.1++caps.map .rp) (aRN base p.2.2.2 (p.2.1++p.2.2.1) (modes.zip args))
   else .fail
 |_=>.fail
def aHD (k sz:Nat) (y:A):RM (List (List D)×List Nat):=
 match y with
 |.sl m=>.rh m fun|.arr _ k' sz' rows=>if sz'=sz/\k'=k then .ret (rows,[m]) else .fail|_=>.fail
 |.d (.slc sz' rows)=>if sz'=sz/\k=0 then .ret (rows,[]) else .fail
 |.nil _ _=>.ret ([],[])
 |_=>.fail
def oA (base sz bytes:Nat) (x:Nat×Nat×List (List D)×List Nat) (y:List (List D)×List Nat):RM Wr:=
 if x.2.1=sz/\0<sz/\aCO x.2.2.2 y.2=true then
  .need ((x.2.2.1.length+y.1.length)*bytes<=aM)
   (.ret { val:=.sl base,objs:=(x.2.2.2++y.2).map (fun q=>(q,none))++[(base,some (.arr 0 x.1 sz (x.2.2.1++y.1)))] })
 else .fail
def aIw (k:Nat) (rows:List (List D)) (y:A):RM Nat:=
 match y with
 |.sl m=>.rh m fun|.arr _ k' _ _=>if k'=k then .ret k else .need (rows=[]) (.ret k')|_=>.fail
 |_=>.ret k
def rM (rows:List (List D)) (i j:Nat):List (List D):=rows.set i ((rows.getD i []).set j .hole)
def aTR (base sz bytes n ver:Nat) (p:List (Nat×Nat)) (y:A):RM Wr:=
 match p with
 |[(i,j)]=>.rh n fun
  |.arr ver' k sz0 rows=>if ver=ver'/\0<k then
    match (rows[i]?).bind (·[j]?) with
    |some (.slc sz' rows')=>(aHD (k-1) sz y).bind fun s=>if s.2.contains n then .fail else
      (oA base sz bytes (k-1,sz',rows',[base+63]) s).bind fun wr=>.ret { val:=wr.val,objs:=(n,some (.arr (ver'+1) k sz0 (rM rows i j)))::wr.objs }
    |_=>.fail
   else .fail
  |_=>.fail
 |_=>.fail
def aVO (base sz bytes:Nat) (x y:A):RM Wr:=(aMv x).bind fun o=>(aIw o.1 o.2.2.1 y).bind fun k=>(aHD k sz y).bind fun s=>oA base sz bytes (k,o.2) s
def aVP (base sz bytes:Nat) (x y:A):RM Wr:=
 match x with
 |.inn n ver p=>aTR base sz bytes n ver p y
 |x=>aVO base sz bytes x y
def aH0:List (Nat×Opd)->RM (List (Nat×A))
 |[]=>.ret []
 |(i,o)::r=>(ev o).bind fun a=>(aH0 r).bind fun as=>.ret ((i,a)::as)
def aHZ:List (Nat×Nat×Opd)->RM (List (Nat×Nat×A))
 |[]=>.ret []
 |(i,s,o)::r=>(ev o).bind fun a=>(aHZ r).bind fun as=>.ret ((i,s,a)::as)
def wK (k:Nat):List (Nat×A)->RM (List (Nat×List D)×List Nat)
 |[]=>.ret ([],[])
 |(i,a)::r=>(jT k (eM a)).bind fun (ds,ns)=>(wK k r).bind fun (es,ms)=>.ret ((i,ds)::es,ns++ms)
def aBw (rows:List (List D)):List (Nat×List D)->List (List D)
 |[]=>rows
 |(i,ds)::r=>aBw (rows.set i ds) r
def xN:List A->Bool
 |[]=>false
 |.d (.slc _ _)::_=>true
 |_::r=>xN r
def aCN (cells:List A):List (Nat×Nat×A)->List A
 |[]=>cells
 |(off,_,a)::r=>aCN (gK cells off (eM a)) r
def aDU (zero:List A) (as:List (Nat×Nat×A)):RM Wr:=
 if (as.all fun e=>(eM e.2.2).length==e.2.1 && decide (e.1+e.2.1<=zero.length) && yU e.2.2)=true then out (.agg (aCN zero as)) else .fail
def aTP (base:Nat) (a:A):RM Wr:=if yU a=true then .ret { val:=.ptr base 0,objs:=[(base,some (.box (eM a)))] } else .fail
def aNz (t a b:A):RM Wr:=
 match t,a,b with
 |.d (.bool t),.d (.bool p),.d (.bool q)=>out (.d (.bool (if t then p else q)))
 |.d (.bool t),a,b=>.ite t (out a) (out b)
 |_,_,_=>.fail
def aTD (off:Nat) (x:A):RM Wr:=
 match x with
 |.ptr n o=>out (.ptr n (o+off))
 |.rp row o=>out (.rp row (o+off))
 |.elt n ver p i o=>out (.elt n ver p i (o+off))
 |_=>.fail
def aIu (agg:Bool) (off n:Nat) (x:A):RM Wr:=
 match x with
 |.agg cells=>if off+n<=cells.length then yF agg ((cells.drop off).take n) else .fail
 |_=>.fail
def aNW (x:A) (i:Int):RM Wr:=
 match x with
 |.d (.str s)=>idx i s.length fun j=>out (.d (.int .u8 (s.getD j 0).toNat))
 |_=>.fail
def unA (op:UnOp) (x:A):RM Wr:=
 match x with
 |.d (.bool b)=>(match op with|.not=>out (.d (.bool (!b)))|_=>.fail)
 |.d (.int k n)=>(match op with
  |.neg=>wI (fX .sub k 0 n)
  |.xor=>wI (fX .xor k (if k.signed then -1 else k.max) n)
  |_=>.fail)
 |_=>.fail
def aSQ (x:A):RM Wr:=
 match x with
 |.d (.str s)=>.ret { val:=.d (.slc 1 (aB s)) }
 |_=>.fail
def aKr (x:D):RM Wr:=
 match x with
 |.slc sz rows=>if rows.isEmpty then out (.d (.str [])) else if sz=1 then (match sK rows with|some l=>out (.d (.str l))|none=>.fail) else .fail
 |_=>.fail
def mkA (base k0 sz bytes:Nat) (zero:List D) (l c:Int):RM Wr:=
 .need (0<=l/\l<=c/\c*bytes<=aM) (if 0<sz/\zero.length=sz then
  .ret { val:=.sl base,objs:=[(base,some (.arr 0 k0 sz (List.replicate l.toNat zero)))] } else .fail)
def sP (base k0 sz n:Nat) (zero:List D) (as:List (Nat×A)):RM Wr:=
 let k:=if as.any (fun (_,a)=>xN (eM a)) then 0 else k0
 (wK k as).bind fun (es,ns)=>
  if yZ ns=true/\(es.all fun e=>e.2.length==sz && decide (e.1<n))=true/\zero.length=sz/\0<sz then
   .ret { val:=.sl base,objs:=ns.map (fun q=>(q,none))++[(base,some (.arr 0 k sz (aBw (List.replicate n zero) es)))] }
  else .fail
def aDP (x:A) (lo hi:Option Int):RM Wr:=
 match x with
 |.d (.str s)=>.need (0<=lo.getD 0/\lo.getD 0<=hi.getD s.length/\hi.getD s.length<=s.length)
   (out (.d (.str ((s.take (hi.getD s.length).toNat).drop (lo.getD 0).toNat))))
 |_=>.fail
def aDQ (sz:Nat) (x:A) (lo hi:Option Int):RM Wr:=
 match x with
 |.d (.slc sz' rows)=>if sz=sz' then
   .need (0<=lo.getD 0/\lo.getD 0<=hi.getD rows.length/\hi.getD rows.length<=rows.length) (out (.d (.slc sz ((rows.take (hi.getD rows.length).toNat).drop (lo.getD 0).toNat)))) else .fail
 |.sl n=>.rh n fun
  |.arr _ _ sz' rows=>if sz=sz' then
    .need (0<=lo.getD 0/\lo.getD 0<=hi.getD rows.length/\hi.getD rows.length<=rows.length) (out (.sv n sz (lo.getD 0).toNat (hi.getD rows.length).toNat)) else .fail
  |_=>.fail
 |.sv n sz' a b=>if sz=sz' then
   .need (0<=lo.getD 0/\lo.getD 0<=hi.getD ((b-a:Nat):Int)/\hi.getD ((b-a:Nat):Int)<=((b-a:Nat):Int)) (out (.sv n sz (a+(lo.getD 0).toNat) (a+(hi.getD ((b-a:Nat):Int)).toNat))) else .fail
 |.nil k sz'=>.need (lo.getD 0=0/\hi.getD 0=0) (out (.nil k sz'))
 |_=>.fail
def aTI (x:A) (i:Nat):RM Wr:=
 match x with
 |.tup vs=>(match vs[i]? with|some a=>out a|none=>.fail)
 |_=>.fail
def aR3 (base:Nat) (x y:A):RM Wr:=
 match y with
 |.d (.str s)=>(aMv x).bind fun o=>if o.1=0 then oA base 1 1 o (aB s,[]) else .fail
 |_=>.fail
def aNI (x:A):RM Wr:=
 match x with
 |.ptr n o=>out (.ptr n o)
 |.rp r o=>out (.rp r o)
 |.elt n v p i o=>out (.elt n v p i o)
 |.d (.fn f c)=>out (.d (.fn f c))
 |.clo f c=>out (.clo f c)
 |_=>.fail
def aVh (t:Nat) (x:A):RM Wr:=match x with|.d (.int k n)=>out (.d (.ifc t k n))|_=>.fail
def mmA (mx:Bool) (x y:A):RM Wr:=
 match x,y with
 |.d (.int k m),.d (.int _ n)=>out (.d (.int k (if (if mx then m<n else n<m) then n else m)))
 |_,_=>.fail
def aUc (_:A):RM Wr:=.fail
def rT (a:A) (k:Int->RM Wr):RM Wr:=match a with|.d (.int _ n)=>k n|_=>.fail
def bnd (x:Option Opd) (k:Option Int->RM Wr):RM Wr:=
 match x with
 |none=>k none
 |some o=>(ev o).bind fun a=>rT a fun n=>k (some n)
def aHE (x:A):RM Wr:=match x with|.d (.bool b)=>.ite b (out (.d (.bool true))) (out (.d (.bool false)))|a=>out a
def aCi (base:Nat):AOp->RM Wr
 |.split x=>(ev x).bind aHE
 |.mv x=>(ev x).bind out
 |.pick c a b=>(ev c).bind fun c=>(ev a).bind fun a=>(ev b).bind fun b=>aNz c a b
 |.alloc cells=>.ret { val:=.ptr base 0,objs:=[(base,some (.box cells))] }
 |.box x=>(ev x).bind (aTP base)
 |.load agg n x=>(ev x).bind (aNO agg n)
 |.store n x v=>(ev x).bind fun x=>(ev v).bind fun v=>aHC n x v
 |.fld off x=>(ev x).bind (aTD off)
 |.fieldV agg off n x=>(ev x).bind (aIu agg off n)
 |.idxA sz x i=>(ev x).bind fun x=>(ev i).bind fun i=>rT i (aNX sz x)
 |.idxS x i=>(ev x).bind fun x=>(ev i).bind fun i=>rT i (aNW x)
 |.bin ty op x y=>(ev x).bind fun x=>(ev y).bind fun y=>qU ty op x y
 |.un op x=>(ev x).bind (unA op)
 |.conv k x=>(ev x).bind fun x=>rT x fun n=>out (.d (.int k (k.wrap n)))
 |.s2b x=>(ev x).bind aSQ
 |.b2s x=>(ev x).bind fun x=>(mC 0 x).bind fun p=>aKr p.1
 |.len str x=>(ev x).bind (aTt str)
 |.mm mx x y=>(ev x).bind fun x=>(ev y).bind fun y=>mmA mx x y
 |.mkslice k0 sz bytes zero l c=>(ev l).bind fun l=>(ev c).bind fun c=>rT l fun l=>rT c fun c=>mkA base k0 sz bytes zero l c
 |.lit k0 sz n zero parts=>(aH0 parts).bind (sP base k0 sz n zero)
 |.build zero parts=>(aHZ parts).bind (aDU zero)
 |.sliceS x lo hi=>(ev x).bind fun x=>bnd lo fun l=>bnd hi fun h=>aDP x l h
 |.sliceA sz x lo hi=>(ev x).bind fun x=>bnd lo fun l=>bnd hi fun h=>aDQ sz x l h
 |.ext x i=>(ev x).bind fun x=>aTI x i
 |.app sz bytes x y=>(ev x).bind fun x=>(ev y).bind fun y=>aVP base sz bytes x y
 |.appS x y=>(ev x).bind fun x=>(ev y).bind fun y=>aR3 base x y
 |.clo f caps=>(RM.mapM ev caps).bind fun as=>out (.clo f as)
 |.call f args modes=>(ev f).bind fun f=>(RM.mapM ev args).bind fun as=>aN5 base f as modes
 |.nchk x=>(ev x).bind aNI
 |.mark x=>(ev x).bind aUc
 |.bad=>.fail
 |.mkI t x=>(ev x).bind (aVh t)
def iW (w:World):Nat->List (List D)->Value->List (Nat×Nat)->Option Value
 |_,_,v,[]=>some v
 |sz,rows,v,(i,j)::p=>
  match v,(rows[i]?).bind (·[j]?) with
  |.slice (some a) _ _,some (.slc sz' rows')=>
   match w.cell? (at_ a.block (a.off+(i*sz+j))) with
   |some u=>iW w sz' rows' u p
   |none=>none
  |_,_=>none
structure Gh where
 ν:Nat->Value
 F:Nat->bK
 Fz:bK
 Nm:Nat->Prop
inductive RA (g:Gh) (h:Nat->Option O) (w:World):A->Value->Prop
 |d (x:D) (v:Value) (h1:Shr w g.Fz v x):RA g h w (.d x) v
 |nil (k sz:Nat):RA g h w (.nil k sz) (.slice none 0 0)
 |sl (n:Nat) (hn:g.Nm n) (h1:(g.ν n).oneCell'=true):RA g h w (.sl n) (g.ν n)
 |sv (n sz lo hi len cap:Nat) (a a':Option Addr) (hn:g.Nm n) (e:g.ν n=.slice a len cap) (h1:lo<=hi) (h2:hi<=len) (h3:hi<=cap)
   (h4:lo<cap->a'=a.map (·.add (lo*sz))) (h5:cap=lo->a'=none\/∃ b o,a'=some (at_ b o)) (h6:a=none\/∃ b o,a=some (at_ b o)):
   RA g h w (.sv n sz lo hi) (.slice a' (hi-lo) (cap-lo))
 |inn (n ver:Nat) (p:List (Nat×Nat)) (v:Value) (hn:g.Nm n) (h1:v.oneCell'=true)
   (e:∀ ver' k sz rows,h n=some (.arr ver' k sz rows)->ver<=ver'/\(ver=ver'->iW w sz rows (g.ν n) p=some v)):RA g h w (.inn n ver p) v
 |elt (n ver:Nat) (p:List (Nat×Nat)) (i off:Nat) (v:Value) (hn:g.Nm n) (h1:∃ b q,v=.pointer (some (at_ b q)))
   (e:∀ ver' k sz rows,h n=some (.arr ver' k sz rows)->ver<=ver'/\(p=[]\/ver=ver' →
    ∃ sz' rows' b o len cap,eF sz rows p=some (sz',rows')/\iW w sz rows (g.ν n) p=some (.slice (some (at_ b o)) len cap)/\v=.pointer (some (at_ b (o+(i*sz'+off)))))):
   RA g h w (.elt n ver p i off) v
 |ptr (n off b o:Nat) (hn:g.Nm n) (e:g.ν n=.pointer (some (at_ b o))):RA g h w (.ptr n off) (.pointer (some (at_ b (o+off))))
 |rp (row:List D) (off b o:Nat) (vs:Nat->Value) (hc:∀ m d,row[m]?=some d->w.cell? (at_ b (o+m))=some (vs m)/\g.Fz b (o+m))
   (hs:∀ m d,row[m]?=some d->Shr w g.Fz (vs m) d):RA g h w (.rp row off) (.pointer (some (at_ b (o+off))))
 |agg (cells:List A) (vs:Array Value) (hl:vs.size=cells.length) (h1:∀ m a,cells[m]?=some a->(vs.getD m undef).oneCell'=true)
   (hc:∀ m a,cells[m]?=some a->RA g h w a (vs.getD m undef)):RA g h w (.agg cells) (.agg vs)
 |tup (cells:List A) (vs:Array Value) (hl:vs.size=cells.length) (hc:∀ m a,cells[m]?=some a->RA g h w a (vs.getD m undef)):RA g h w (.tup cells) (.tuple vs)
 |clo (f:FuncId) (caps:List A) (vs:Array Value) (hl:vs.size=caps.length) (hc:∀ m a,caps[m]?=some a->RA g h w a (vs.getD m undef)):
   RA g h w (.clo f caps) (.func (.func f) #[] vs)
 |skip:RA g h w .skip undef
 |undef (v:Value):RA g h w .undef v
def RO (g:Gh) (h:Nat->Option O) (w:World) (n:Nat):O->Prop
 |.box cells=>∃ b o,g.ν n=.pointer (some (at_ b o))/\wY w b o cells.length/\(∀ x y,g.F n x y ↔ rng b o cells.length x y) ∧
   ∀ m a,cells[m]?=some a->∃ u,w.cell? (at_ b (o+m))=some u/\u.oneCell'=true/\RA g h w a u
 |.arr _ k sz rows=>Own w g.Fz (k+1) (g.ν n) (.slc sz rows) (g.F n)
abbrev GV:=Nat->Option (Obj->Prop)
structure Ctx where
 gv:GV
 w0:World
 S0:bK
 Fz0:bK
 arg:Nat->Value
structure fB (c:Ctx) (g:Gh) (h:Nat->Option O) (w:World):Prop where
 fz0:∀ b o,c.Fz0 b o->g.Fz b o
 fzlt:∀ b o,g.Fz b o->b<w.heap.size
 fzof:∀ b o,g.Fz b o->c.Fz0 b o\/c.S0 b o\/c.w0.heap.size<=b
 gl:∀ b p,c.gv b=some p->(∀ o,g.Fz b o)/\∃ ob,w.heap[b]?=some ob/\p ob
 side:w.os=c.w0.os/\w.output=c.w0.output
 size:c.w0.heap.size<=w.heap.size
 blk:∀ b,b<c.w0.heap.size->(∀ o,¬c.S0 b o)->w.heap[b]?=c.w0.heap[b]?
 cell:∀ b o,b<c.w0.heap.size->¬c.S0 b o->w.cell? (at_ b o)=c.w0.cell? (at_ b o)/\w.frz? (at_ b o)=c.w0.frz? (at_ b o)
 nm:∀ n o,h n=some o->g.Nm n
 obj:∀ n o,h n=some o->RO g h w n o
 lt:∀ n o,h n=some o->∀ x y,g.F n x y->x<w.heap.size
 disj:∀ n m o o',h n=some o->h m=some o'->n≠m->∀ x y,g.F n x y->¬g.F m x y
 mine:∀ n o,h n=some o->∀ x y,g.F n x y->(c.S0 x y\/c.w0.heap.size<=x)/\¬g.Fz x y
theorem jN:∀ {rows:List (List D)} {sz i j:Nat} {row:List D} {d:D} (_:∀ row,row∈rows->row.length=sz) (_:rows[i]?=some row) (_:row[j]?=some d),
  rows.flatten[i*sz+j]?=some d:=by
 intro rows
 induction rows with
 |nil=>intro sz i j row d _ h _;simp at h
 |cons r rs ih=>
  intro sz i j row d h h1 h2
  cases i with
  |zero=>
   simp at h1
   subst h1
   have hj:=(List.getElem?_eq_some_iff.1 h2).1
   simp only [List.flatten_cons,Nat.zero_mul,Nat.zero_add]
   rw [List.getElem?_append_left hj]
   exact h2
  |succ i=>
   have hr:=h r (by simp)
   simp only [List.flatten_cons]
   rw [List.getElem?_append_right (by rw [hr,Nat.add_mul];omega)]
   have e:(i+1)*sz+j-r.length=i*sz+j:=by rw [hr,Nat.add_mul];omega
   rw [e]
   exact ih (fun row hrow=>h row (by simp [hrow])) (by simpa using h1) h2
theorem mU {rows:List (List D)} {i j:Nat} {d:D} (h:(rows[i]?).bind (·[j]?)=some d):∃ row,rows[i]?=some row/\row[j]?=some d:=by
 cases hr:rows[i]? with
 |none=>simp [hr] at h
 |some row=>exact ⟨row,rfl,by simpa [hr] using h⟩
theorem aCC {w w':World} {Fz:bK} (hz:eZ w w' Fz):∀ (p:List (Nat×Nat)) (k sz:Nat) (rows:List (List D)) (v u:Value) (S:bK),
  Own w Fz k v (.slc sz rows) S->eZ w w' S->iW w sz rows v p=some u->iW w' sz rows v p=some u:=by
 intro p
 induction p with
 |nil=>intro k sz rows v u S _ _ h;exact h
 |cons ij p ih=>
  intro k sz rows v u S ho hS h
  obtain ⟨i,j⟩:=ij
  unfold iW at h ⊢
  split at h
  ·rename_i a len cap sz' rows' he
   split at h
   ·rename_i x hx
    obtain ⟨row,hrow,hd⟩:=mU he
    cases k with
    |zero=>
     have hs:=ho.1
     cases hs with
     |emp=>simp at hrow
     |slc b off cap' _ _ vs hr hcap hc hs=>
      have hm:=jN hr hrow hd
      have hk:=hz _ _ (hc _ _ hm).2
      have hx':w'.cell? (at_ b (off+(i*sz+j)))=some x:=hk.1.trans hx
      simp only [hx']
      have hvx:vs (i*sz+j)=x:=by
       have:=(hc _ _ hm).1
       rw [show w.cell? (at_ b (off+(i*sz+j)))=some x from hx] at this
       exact (Option.some.inj this).symm
      exact ih 0 sz' rows' x u (fun _ _=>False) ⟨hvx ▸ hs _ _ hm,fun _ _ h=>h⟩ (fun _ _ h=>h.elim) h
    |succ k=>
     rcases ho with ⟨e1,_,_⟩|⟨b,off,cap',T,e1,h1,h2,h3,h4,h5,h6,h7⟩
     ·cases e1
     ·cases e1
      have hm:=jN h3 hrow hd
      have hlt:=jB hm
      have hl:=iE h3
      have hle:rows.length*sz<=cap*sz:=Nat.mul_le_mul_right _ h1
      have hk:=hS b (off+(i*sz+j)) ((h7 _ _).2 (.inl ⟨rfl,by omega,by omega⟩))
      have hx':w'.cell? (at_ b (off+(i*sz+j)))=some x:=hk.1.trans hx
      simp only [hx']
      obtain ⟨u',hu',ho'⟩:=h4 _ _ hm
      have hvx:u'=x:=by
       rw [show w.cell? (at_ b (off+(i*sz+j)))=some x from hx] at hu'
       exact (Option.some.inj hu').symm
      exact ih k sz' rows' x u (T (i*sz+j)) (hvx ▸ ho') (hS.sub fun x y hxy=>(h7 x y).2 (.inr ⟨_,hlt,hxy⟩)) h
   ·cases h
  ·cases h
structure Ext (g g':Gh) (h h':Nat->Option O) (w w':World):Prop where
 nm:∀ n,g.Nm n->g'.Nm n
 ν:∀ n,g.Nm n->g'.ν n=g.ν n
 fz:∀ b o,g.Fz b o->g'.Fz b o
 keep:eZ w w' g.Fz
 old:∀ n ver k sz rows,g.Nm n->h' n=some (.arr ver k sz rows)->∃ ver0 k0 rows0,h n=some (.arr ver0 k0 sz rows0)/\ver0<=ver ∧
  (ver0=ver->(∀ p s r0,eF sz rows0 p=some (s,r0)->∃ r,eF sz rows p=some (s,r))/\∀ p u,iW w sz rows0 (g.ν n) p=some u->iW w' sz rows (g.ν n) p=some u)
theorem RA.ext {g g':Gh} {h h':Nat->Option O} {w w':World} (x:Ext g g' h h' w w') {a:A} {v:Value} (ha:RA g h w a v):RA g' h' w' a v:=by
 induction ha with
 |d d v h1=>exact .d d v (h1.mono (fun b o hb=>(x.keep b o hb).1) x.fz)
 |nil k sz=>exact .nil k sz
 |sl n hn h1=>rw [<-x.ν n hn];exact .sl n (x.nm n hn) (by rw [x.ν n hn];exact h1)
 |sv n sz lo hi len cap a a' hn e h1 h2 h3 h4 h5 h6=>exact .sv n sz lo hi len cap a a' (x.nm n hn) ((x.ν n hn).trans e) h1 h2 h3 h4 h5 h6
 |inn n ver p v hn h1 e=>
  refine .inn n ver p v (x.nm n hn) h1 fun ver' k sz rows hh=>?_
  obtain ⟨ver0,k0,rows0,h0,hle,hv⟩:=x.old n ver' k sz rows hn hh
  rw [x.ν n hn]
  obtain ⟨g1,g2⟩:=e _ _ _ _ h0
  refine ⟨by omega,fun hver=>?_⟩
  exact (hv (by omega)).2 _ _ (g2 (by omega))
 |elt n ver p i off v hn h1 e=>
  refine .elt n ver p i off v (x.nm n hn) h1 fun ver' k sz rows hh=>?_
  obtain ⟨ver0,k0,rows0,h0,hle,hv⟩:=x.old n ver' k sz rows hn hh
  rw [x.ν n hn]
  obtain ⟨g1,g2⟩:=e _ _ _ _ h0
  refine ⟨by omega,fun hver=>?_⟩
  by_cases hp0:p=[]
  ·subst hp0
   obtain ⟨sz',rows',b,o,len,cap,e1,e2,e3⟩:=g2 (.inl rfl)
   simp only [eF,Option.some.injEq,Prod.mk.injEq] at e1
   obtain ⟨rfl,rfl⟩:=e1
   simp only [iW] at e2
   exact ⟨sz,rows,b,o,len,cap,rfl,by simpa [iW] using e2,e3⟩
  ·have hver:=hver.resolve_left hp0
   obtain ⟨hr,hp⟩:=hv (by omega)
   obtain ⟨sz',rows',b,o,len,cap,e1,e2,e3⟩:=g2 (.inr (by omega))
   obtain ⟨r1,hr1⟩:=hr _ _ _ e1
   exact ⟨sz',r1,b,o,len,cap,hr1,hp _ _ e2,e3⟩
 |ptr n off b o hn e=>exact .ptr n off b o (x.nm n hn) ((x.ν n hn).trans e)
 |rp row off b o vs hc hs=>
  exact .rp row off b o vs (fun m d hm=>⟨(x.keep _ _ (hc m d hm).2).1.trans (hc m d hm).1,x.fz _ _ (hc m d hm).2⟩) (fun m d hm=>(hs m d hm).mono (fun b o hb=>(x.keep b o hb).1) x.fz)
 |agg cells vs hl h1 hc ih=>exact .agg cells vs hl h1 ih
 |tup cells vs hl hc ih=>exact .tup cells vs hl ih
 |clo f caps vs hl hc ih=>exact .clo f caps vs hl ih
 |skip=>exact .skip
 |undef v=>exact .undef v
theorem RO.ext {g g':Gh} {h h':Nat->Option O} {w w':World} (x:Ext g g' h h' w w') {n:Nat} {o:O} (hn:g.Nm n) (hF:g'.F n=g.F n)
  (hk:eZ w w' (g.F n)) (ho:RO g h w n o):RO g' h' w' n o:=by
 cases o with
 |box cells=>
  obtain ⟨b,o,e,hr,hf,hc⟩:=ho
  refine ⟨b,o,(x.ν n hn).trans e,hr.keep (hk.sub fun x y hx=>(hf x y).2 hx),by rw [hF];exact hf,fun m a hm=>?_⟩
  obtain ⟨u,hu,h1,hra⟩:=hc m a hm
  have hlt:=(List.getElem?_eq_some_iff.1 hm).1
  exact ⟨u,((hk b (o+m) ((hf _ _).2 ⟨rfl,by omega,by omega⟩)).1).trans hu,h1,hra.ext x⟩
 |arr ver k sz rows=>
  show Own w' g'.Fz (k+1) (g'.ν n) (.slc sz rows) (g'.F n)
  rw [x.ν n hn,hF]
  exact Own.mono x.fz x.keep (k+1) hk ho
def Tch (g:Gh) (h:Nat->Option O) (M:Nat->Prop):bK:=fun b o=>∃ n ob,M n/\h n=some ob/\g.F n b o
theorem aNK {c:Ctx} {g g':Gh} {h h':Nat->Option O} {w w':World} (hi:fB c g h w) (M:Nat->Prop)
  (hside:w'.os=w.os/\w'.output=w.output) (hs:w.heap.size<=w'.heap.size)
  (hM:∀ n,¬M n->h' n=h n/\(g.Nm n->g'.F n=g.F n))
  (hnm:∀ n,g.Nm n->g'.Nm n) (hν:∀ n,g.Nm n->g'.ν n=g.ν n)
  (hblk:∀ b,b<w.heap.size->(∀ o,¬Tch g h M b o)->w'.heap[b]?=w.heap[b]?)
  (hcell:∀ b o,b<w.heap.size->¬Tch g h M b o->w'.cell? (at_ b o)=w.cell? (at_ b o)/\w'.frz? (at_ b o)=w.frz? (at_ b o))
  (hFz:∀ b o,g.Fz b o->g'.Fz b o)
  (hFz':∀ b o,g'.Fz b o->g.Fz b o\/Tch g h M b o\/(w.heap.size<=b/\b<w'.heap.size))
  (hold:∀ n ver k sz rows,M n->g.Nm n->h' n=some (.arr ver k sz rows)->∃ ver0 k0 rows0,h n=some (.arr ver0 k0 sz rows0)/\ver0<=ver ∧
   (ver0=ver->(∀ p s r0,eF sz rows0 p=some (s,r0)->∃ r,eF sz rows p=some (s,r))/\∀ p u,iW w sz rows0 (g.ν n) p=some u->iW w' sz rows (g.ν n) p=some u))
  (hro:Ext g g' h h' w w'->∀ n o,M n->h' n=some o->g'.Nm n/\RO g' h' w' n o)
  (hin:∀ n o,M n->h' n=some o->∀ x y,g'.F n x y->(Tch g h M x y\/w.heap.size<=x)/\x<w'.heap.size/\¬g'.Fz x y)
  (hdj:∀ n m o o',M n->M m->h' n=some o->h' m=some o'->n≠m->∀ x y,g'.F n x y->¬g'.F m x y):
  fB c g' h' w'/\Ext g g' h h' w w':=by
 have hkF:∀ n o,¬M n->h n=some o->eZ w w' (g.F n):=by
  intro n o hn ho b q hb
  refine hcell b q (hi.lt n o ho b q hb) ?_
  rintro ⟨m,ob,hm,hom,hb'⟩
  exact hi.disj n m o ob ho hom (fun e=>hn (e ▸ hm)) b q hb hb'
 have hkz:eZ w w' g.Fz:=by
  intro b q hb
  refine hcell b q (hi.fzlt b q hb) ?_
  rintro ⟨m,ob,hm,hom,hb'⟩
  exact (hi.mine m ob hom b q hb').2 hb
 have hx:Ext g g' h h' w w':=by
  refine ⟨hnm,hν,hFz,hkz,?_⟩
  intro n ver k sz rows hn hh
  by_cases hMn:M n
  ·exact hold n ver k sz rows hMn hn hh
  ·rw [(hM n hMn).1] at hh
   refine ⟨ver,k,rows,hh,Nat.le_refl _,fun _=>⟨fun _ _ r h=>⟨r,h⟩,fun p u hp=>?_⟩⟩
   exact aCC hkz p (k+1) sz rows (g.ν n) u (g.F n) (hi.obj n _ hh) (hkF n _ hMn hh) hp
 refine ⟨⟨fun b o hb=>hFz b o (hi.fz0 b o hb),?_,?_,fun b ob h=>⟨fun o=>hFz b o ((hi.gl b ob h).1 o),(hblk b (hi.fzlt b 0 ((hi.gl b ob h).1 0)) (fun o ⟨m,ob',_,hom,hb'⟩=>(hi.mine m ob' hom b o hb').2 ((hi.gl b ob h).1 o))) ▸ (hi.gl b ob h).2⟩,⟨hside.1.trans hi.side.1,hside.2.trans hi.side.2⟩,Nat.le_trans hi.size hs,?_,?_,?_,?_,?_,?_,?_⟩,hx⟩
 ·intro b o hb
  rcases hFz' b o hb with h1|⟨m,ob,_,hom,hb'⟩|h1
  ·exact Nat.lt_of_lt_of_le (hi.fzlt b o h1) hs
  ·exact Nat.lt_of_lt_of_le (hi.lt m ob hom b o hb') hs
  ·exact h1.2
 ·intro b o hb
  rcases hFz' b o hb with h1|⟨m,ob,_,hom,hb'⟩|h1
  ·exact hi.fzof b o h1
  ·exact .inr (hi.mine m ob hom b o hb').1
  ·exact .inr (.inr (Nat.le_trans hi.size h1.1))
 ·intro b hb hS
  have hnt:∀ o,¬Tch g h M b o:=by
   rintro o ⟨m,ob,_,hom,hb'⟩
   rcases (hi.mine m ob hom b o hb').1 with h1|h1
   ·exact hS o h1
   ·omega
  rw [hblk b (Nat.lt_of_lt_of_le hb hi.size) hnt]
  exact hi.blk b hb hS
 ·intro b o hb hS
  have hnt:¬Tch g h M b o:=by
   rintro ⟨m,ob,_,hom,hb'⟩
   rcases (hi.mine m ob hom b o hb').1 with h1|h1
   ·exact hS h1
   ·omega
  have h1:=hcell b o (Nat.lt_of_lt_of_le hb hi.size) hnt
  have h2:=hi.cell b o hb hS
  exact ⟨h1.1.trans h2.1,h1.2.trans h2.2⟩
 ·intro n o ho
  by_cases hMn:M n
  ·exact (hro hx n o hMn ho).1
  ·rw [(hM n hMn).1] at ho
   exact hnm n (hi.nm n o ho)
 ·intro n o ho
  by_cases hMn:M n
  ·exact (hro hx n o hMn ho).2
  ·rw [(hM n hMn).1] at ho
   have hn:=hi.nm n o ho
   exact (hi.obj n o ho).ext hx hn ((hM n hMn).2 hn) (hkF n o hMn ho)
 ·intro n o ho x y hxy
  by_cases hMn:M n
  ·exact (hin n o hMn ho x y hxy).2.1
  ·rw [(hM n hMn).1] at ho
   rw [(hM n hMn).2 (hi.nm n o ho)] at hxy
   exact Nat.lt_of_lt_of_le (hi.lt n o ho x y hxy) hs
 ·intro n m o o' ho ho' hne x y hxy hxy'
  by_cases hMn:M n
  ·by_cases hMm:M m
   ·exact hdj n m o o' hMn hMm ho ho' hne x y hxy hxy'
   ·rw [(hM m hMm).1] at ho'
    rw [(hM m hMm).2 (hi.nm m o' ho')] at hxy'
    rcases (hin n o hMn ho x y hxy).1 with ⟨q,ob,hq,hoq,hb⟩|h1
    ·exact hi.disj q m ob o' hoq ho' (fun e=>hMm (e ▸ hq)) x y hb hxy'
    ·have:=hi.lt m o' ho' x y hxy';omega
  ·rw [(hM n hMn).1] at ho
   rw [(hM n hMn).2 (hi.nm n o ho)] at hxy
   by_cases hMm:M m
   ·rcases (hin m o' hMm ho' x y hxy').1 with ⟨q,ob,hq,hoq,hb⟩|h1
    ·exact hi.disj q n ob o hoq ho (fun e=>hMn (e ▸ hq)) x y hb hxy
    ·have:=hi.lt n o ho x y hxy;omega
   ·rw [(hM m hMm).1] at ho'
    rw [(hM m hMm).2 (hi.nm m o' ho')] at hxy'
    exact hi.disj n m o o' ho ho' hne x y hxy hxy'
 ·intro n o ho x y hxy
  by_cases hMn:M n
  ·obtain ⟨h1,h2,h3⟩:=hin n o hMn ho x y hxy
   refine ⟨?_,h3⟩
   rcases h1 with ⟨q,ob,hq,hoq,hb⟩|h1
   ·exact (hi.mine q ob hoq x y hb).1
   ·exact .inr (Nat.le_trans hi.size h1)
  ·rw [(hM n hMn).1] at ho
   rw [(hM n hMn).2 (hi.nm n o ho)] at hxy
   obtain ⟨h1,h2⟩:=hi.mine n o ho x y hxy
   refine ⟨h1,fun hz=>?_⟩
   rcases hFz' x y hz with h3|⟨q,ob,hq,hoq,hb⟩|h3
   ·exact h2 h3
   ·exact hi.disj q n ob o hoq ho (fun e=>hMn (e ▸ hq)) x y hb hxy
   ·have:=hi.lt n o ho x y hxy;omega
theorem rJ {c:Ctx} {g g':Gh} {h h':Nat->Option O} {w w':World} (hi:fB c g h w) (M:Nat->Prop)
  (hside:w'.os=w.os/\w'.output=w.output) (hs:w.heap.size<=w'.heap.size)
  (hM:∀ n,¬M n->h' n=h n/\(g.Nm n->g'.F n=g.F n))
  (hnm:∀ n,g.Nm n->g'.Nm n) (hν:∀ n,g.Nm n->g'.ν n=g.ν n)
  (hblk:∀ b,b<w.heap.size->(∀ o,¬Tch g h M b o)->w'.heap[b]?=w.heap[b]?)
  (hcell:∀ b o,b<w.heap.size->¬Tch g h M b o->w'.cell? (at_ b o)=w.cell? (at_ b o)/\w'.frz? (at_ b o)=w.frz? (at_ b o))
  (hFz:∀ b o,g.Fz b o->g'.Fz b o)
  (hFz':∀ b o,g'.Fz b o->g.Fz b o\/Tch g h M b o\/(w.heap.size<=b/\b<w'.heap.size))
  (hold:∀ n ver k sz rows,M n->g.Nm n->h' n=some (.arr ver k sz rows)->∃ ver0 k0 rows0,h n=some (.arr ver0 k0 sz rows0)/\ver0<ver)
  (hro:Ext g g' h h' w w'->∀ n o,M n->h' n=some o->g'.Nm n/\RO g' h' w' n o)
  (hin:∀ n o,M n->h' n=some o->∀ x y,g'.F n x y->(Tch g h M x y\/w.heap.size<=x)/\x<w'.heap.size/\¬g'.Fz x y)
  (hdj:∀ n m o o',M n->M m->h' n=some o->h' m=some o'->n≠m->∀ x y,g'.F n x y->¬g'.F m x y):
  fB c g' h' w'/\Ext g g' h h' w w':=
 aNK hi M hside hs hM hnm hν hblk hcell hFz hFz' (fun n ver k sz rows h1 h2 h3=>by
  obtain ⟨ver0,k0,rows0,h0,hlt⟩:=hold n ver k sz rows h1 h2 h3
  exact ⟨ver0,k0,rows0,h0,by omega,fun e=>by omega⟩) hro hin hdj
inductive Loc where
 |slot (v:Bool) (s:Nat)
 |obj (n:Nat)
 deriving DecidableEq
structure Env where
 sl:Bool->Nat->Option A
 h:Nat->Option O
 V:FuncId->List C->C->List (Option C)->Prop
def Res {α:Type} (e:Env):RM α->α->List Loc->Prop
 |.ret a,r,l=>r=a/\l=[]
 |.fail,_,_=>False
 |.rs v s k,r,l=>∃ x l',e.sl v s=some x/\Res e (k x) r l'/\l=.slot v s::l'
 |.rh n k,r,l=>∃ o l',e.h n=some o/\Res e (k o) r l'/\l=.obj n::l'
 |.ite b x y,r,l=>(b=true/\Res e x r l)\/(b=false/\Res e y r l)
 |.need p k,r,l=>p/\Res e k r l
 |.call f cs k,r,l=>∃ c os,e.V f cs c os/\Res e (k c os) r l
theorem Res.bind {α β:Type} {e:Env} {f:α->RM β} {r:β}:∀ {m:RM α} {l:List Loc},Res e (m.bind f) r l->∃ a l1 l2,Res e m a l1/\Res e (f a) r l2/\l=l1++l2:=by
 intro m
 induction m with
 |ret a=>intro l h;exact ⟨a,[],l,⟨rfl,rfl⟩,h,rfl⟩
 |fail=>intro l h;exact h.elim
 |rs v s k ih=>
  rintro l ⟨x,l',hx,h,rfl⟩
  obtain ⟨a,l1,l2,h1,h2,rfl⟩:=ih x h
  exact ⟨a,.slot v s::l1,l2,⟨x,l1,hx,h1,rfl⟩,h2,rfl⟩
 |rh n k ih=>
  rintro l ⟨x,l',hx,h,rfl⟩
  obtain ⟨a,l1,l2,h1,h2,rfl⟩:=ih x h
  exact ⟨a,.obj n::l1,l2,⟨x,l1,hx,h1,rfl⟩,h2,rfl⟩
 |ite b x y ihx ihy=>
  rintro l (⟨hb,h⟩|⟨hb,h⟩)
  ·obtain ⟨a,l1,l2,h1,h2,rfl⟩:=ihx h
   exact ⟨a,l1,l2,.inl ⟨hb,h1⟩,h2,rfl⟩
  ·obtain ⟨a,l1,l2,h1,h2,rfl⟩:=ihy h
   exact ⟨a,l1,l2,.inr ⟨hb,h1⟩,h2,rfl⟩
 |need p k ih=>
  rintro l ⟨hp,h⟩
  obtain ⟨a,l1,l2,h1,h2,rfl⟩:=ih h
  exact ⟨a,l1,l2,⟨hp,h1⟩,h2,rfl⟩
 |call f cs k ih=>
  rintro l ⟨c,os,hv,h⟩
  obtain ⟨a,l1,l2,h1,h2,rfl⟩:=ih c os h
  exact ⟨a,l1,l2,⟨c,os,hv,h1⟩,h2,rfl⟩
def Out {α:Type} (e:Env) (m:RM α) (r:α):Prop:=∃ l,Res e m r l
section
variable {α β:Type} {e:Env} {r:α}
theorem Out.bind {m:RM β} {f:β->RM α} (h:Out e (m.bind f) r):∃ a,Out e m a/\Out e (f a) r:=by
 obtain ⟨l,h⟩:=h
 obtain ⟨a,l1,l2,h1,h2,_⟩:=h.bind
 exact ⟨a,⟨l1,h1⟩,⟨l2,h2⟩⟩
theorem Out.ret {a:α} (h:Out e (.ret a) r):r=a:=let ⟨_,h⟩:=h;h.1
theorem Out.fail (h:Out e .fail r):False:=let ⟨_,h⟩:=h;h
theorem Out.rs {v:Bool} {s:Nat} {k:A->RM α} (h:Out e (.rs v s k) r):∃ x,e.sl v s=some x/\Out e (k x) r:=let ⟨_,x,l',hx,h,_⟩:=h;⟨x,hx,l',h⟩
theorem Out.rh {n:Nat} {k:O->RM α} (h:Out e (.rh n k) r):∃ o,e.h n=some o/\Out e (k o) r:=let ⟨_,x,l',hx,h,_⟩:=h;⟨x,hx,l',h⟩
theorem Out.ite {b:Bool} {x y:RM α} (h:Out e (.ite b x y) r):(b=true/\Out e x r)\/(b=false/\Out e y r):=by
 obtain ⟨l,h⟩:=h
 rcases h with ⟨hb,h⟩|⟨hb,h⟩
 ·exact .inl ⟨hb,l,h⟩
 ·exact .inr ⟨hb,l,h⟩
theorem Out.need {p:Prop} {k:RM α} (h:Out e (.need p k) r):p/\Out e k r:=let ⟨l,hp,h⟩:=h;⟨hp,l,h⟩
theorem Out.call {f:FuncId} {cs:List C} {k:C->List (Option C)->RM α} (h:Out e (.call f cs k) r):∃ c os,e.V f cs c os/\Out e (k c os) r:=
 let ⟨l,c,os,hv,h⟩:=h;⟨c,os,hv,l,h⟩
end
theorem Out.mapM {α β:Type} {e:Env} {f:α->RM β}:∀ {xs:List α} {ys:List β},Out e (RM.mapM f xs) ys->ys.length=xs.length/\∀ (i:Nat) x y,xs[i]?=some x->ys[i]?=some y->Out e (f x) y:=by
 intro xs
 induction xs with
 |nil=>intro ys h;have:=h.ret;subst this;exact ⟨rfl,fun i x y hx=>by simp at hx⟩
 |cons x xs ih=>
  intro ys h
  obtain ⟨y,h1,h2⟩:=Out.bind h
  obtain ⟨zs,h3,h4⟩:=Out.bind h2
  have:=h4.ret
  subst this
  obtain ⟨hl,hi⟩:=ih h3
  refine ⟨by simp [hl],fun i x' y' hx hy=>?_⟩
  cases i with
  |zero=>simp at hx hy;subst hx;subst hy;exact h1
  |succ i=>exact hi i x' y' (by simpa using hx) (by simpa using hy)
def eS (h:Nat->Option O):List (Nat×Option O)->Nat->Option O
 |[],m=>h m
 |(n,o)::r,m=>eS (fun q=>if q=n then o else h q) r m
def qM (objs:List (Nat×O)):List (Nat×Option O)->List (Nat×O)
 |[]=>objs
 |(n,some o)::r=>qM (put objs n o) r
 |(n,none)::r=>qM (del objs n) r
theorem nQ {α:Type} (s:Nat) (x:α) (t:Nat):∀ l:List (Nat×α),cQ (put l s x) t=if t=s then some x else cQ l t:=by
 intro l
 induction l with
 |nil=>simp only [put,cQ];by_cases h:s=t<;>simp [h,eq_comm]
 |cons p l ih=>
  obtain ⟨u,y⟩:=p
  simp only [put]
  by_cases h:u=s
  ·subst h
   simp only [if_pos,cQ]
   by_cases h2:u=t
   ·simp [h2]
   ·have h3:¬t=u:=fun e=>h2 e.symm
    simp [h2,h3]
  ·simp only [if_neg h,cQ]
   by_cases h2:u=t
   ·subst h2;simp [h]
   ·simp [h2,ih]
theorem aQZ {α:Type} (s t:Nat):∀ l:List (Nat×α),cQ (del l s) t=if t=s then none else cQ l t:=by
 intro l
 induction l with
 |nil=>simp [del,cQ]
 |cons p l ih=>
  obtain ⟨u,y⟩:=p
  simp only [del]
  by_cases h:u=s
  ·subst h
   simp only [if_pos,cQ,ih]
   by_cases h2:u=t
   ·simp [h2]
   ·have:¬t=u:=fun e=>h2 e.symm
    simp [h2,this]
  ·simp only [if_neg h,cQ,ih]
   by_cases h2:u=t
   ·subst h2;simp [h]
   ·simp [h2]
theorem fT:∀ (us:List (Nat×Option O)) (objs:List (Nat×O)),cQ (qM objs us)=eS (cQ objs) us:=by
 intro us
 induction us with
 |nil=>intro objs;rfl
 |cons u us ih=>
  intro objs
  obtain ⟨n,o⟩:=u
  cases o with
  |none=>
   simp only [qM,ih]
   funext m
   simp only [eS]
   congr 1
   funext q
   exact aQZ n q objs
  |some o=>
   simp only [qM,ih]
   funext m
   simp only [eS]
   congr 1
   funext q
   exact nQ n o q objs
def mL (P : Program) (c : Ctx) (g : Gh) (h : Nat → Option O) (w : World) (base : Nat) (r : Sem Value) (wr : Wr) : Prop :=
  ∃ v g' w', r.run P w = .ok v w' ∧ fB c g' (eS h wr.objs) w' ∧ Ext g g' h (eS h wr.objs) w w' ∧ RA g' (eS h wr.objs) w' wr.val v ∧
    ∀ n, g'.Nm n → g.Nm n ∨ (base ≤ n ∧ n < base + 64)
theorem Ext.refl (g : Gh) (h : Nat → Option O) (w : World) : Ext g g h h w w :=
  ⟨fun _ h => h, fun _ _ => rfl, fun _ _ h => h, eZ.refl _ _, fun _ ver k _ rows _ hh => ⟨ver, k, rows, hh, Nat.le_refl _, fun _ => ⟨fun _ _ r h => ⟨r, h⟩, fun _ _ h => h⟩⟩⟩
section
variable {P : Program} {c : Ctx} {g : Gh} {w : World} {base : Nat} {e : Env}
theorem mL.quiet {h : Nat → Option O} {r : Sem Value} {v : Value} {a : A} (hi : fB c g h w) (hr : r.run P w = .ok v w) (ha : RA g h w a v) : mL P c g h w base r { val := a } :=
  ⟨v, g, w, hr, hi, Ext.refl g h w, ha, fun _ h => .inl h⟩
theorem cG {a : A} {wr : Wr} (h : Out e (out a) wr) : wr = { val := a } := h.ret
theorem oO {x : Option D} {wr : Wr} (h : Out e (wI x) wr) : ∃ d, x = some d ∧ wr = { val := .d d } := by
  cases x with
  | none => exact h.fail.elim
  | some d => exact ⟨d, rfl, h.ret⟩
theorem RA.int_inv {h : Nat → Option O} {k : IntKind} {n : Int} {v : Value} (ha : RA g h w (.d (.int k n)) v) : v = .int k n := by
  cases ha with | d _ _ h1 => cases h1; rfl
theorem RA.bool_inv {h : Nat → Option O} {b : Bool} {v : Value} (ha : RA g h w (.d (.bool b)) v) : v = .bool b := by
  cases ha with | d _ _ h1 => cases h1; rfl
theorem RA.str_inv {h : Nat → Option O} {s : List UInt8} {v : Value} (ha : RA g h w (.d (.str s)) v) : v = .string ⟨s.toArray⟩ := by
  cases ha with | d _ _ h1 => cases h1; rfl
theorem RA.of_int {h : Nat → Option O} {k : IntKind} {n : Int} : RA g h w (.d (.int k n)) (.int k n) := .d _ _ (.int _ _)
theorem RA.of_bool {h : Nat → Option O} {b : Bool} : RA g h w (.d (.bool b)) (.bool b) := .d _ _ (.bool _)
theorem RA.of_str {h : Nat → Option O} {s : List UInt8} : RA g h w (.d (.str s)) (.string ⟨s.toArray⟩) := .d _ _ (.str _)
theorem aMj {t : TypeId} {op : BinOp} {k : IntKind} {a b : Int} {d : D} (hop : op ≠ .shl) (hop' : op ≠ .shr) (hd : fX op k a b = some d) :
    ∃ v, (binOp op t (.int k a) (.int k b)).run P w = .ok v w ∧ Shr w g.Fz v d := by
  cases op <;> simp only [fX, Option.some.injEq, reduceCtorEq] at hd <;> first
    | (exact absurd rfl hop) | (exact absurd rfl hop')
    | (subst hd; refine ⟨_, ?_, .int _ _⟩; simp [binOp, Op.intArith, Op.intBits]; done)
    | (subst hd; refine ⟨_, ?_, .bool _⟩; simp [binOp, Op.intCmp]; done)
    | (split at hd
       · cases hd
       · rename_i hb
         simp only [Option.some.injEq] at hd
         subst hd
         refine ⟨_, ?_, .int _ _⟩
         simp [binOp, Op.intDiv, hb])
theorem aGI {t : TypeId} {op : BinOp} {k k' : IntKind} {a b : Int} {d : D} (hop : op = .shl ∨ op = .shr) (hd : yA op k a b = some d) :
    ∃ v, (binOp op t (.int k a) (.int k' b)).run P w = .ok v w ∧ Shr w g.Fz v d := by
  unfold yA at hd
  split at hd
  · cases hd
  · rename_i hb
    rcases hop with rfl | rfl <;> simp only [Option.some.injEq] at hd <;> subst hd <;> refine ⟨_, ?_, .int _ _⟩ <;> simp [binOp, Op.shift, hb]
theorem aEl {ty : TypeId} {op : BinOp} {s t : List UInt8} {d : D} (hop : op = .add → s.length + t.length ≤ dP) (hd : aHB op s t = some d) :
    ∃ v, (binOp op ty (.string ⟨s.toArray⟩) (.string ⟨t.toArray⟩)).run P w = .ok v w ∧ Shr w g.Fz v d := by
  have e1 : (⟨s.toArray⟩ : ByteArray).toList = s := by simp
  have e2 : (⟨t.toArray⟩ : ByteArray).toList = t := by simp
  cases op <;> simp only [aHB, Option.some.injEq, reduceCtorEq] at hd <;> first
    | (subst hd; refine ⟨_, ?_, .bool _⟩; simp [binOp, Op.stringOp, e1, e2]; done)
    | (subst hd
       have hl := hop rfl
       unfold dP at hl
       refine ⟨.string ⟨(s ++ t).toArray⟩, ?_, .str _⟩
       have hsz : ¬ ((((⟨s.toArray⟩ : ByteArray).size + (⟨t.toArray⟩ : ByteArray).size : Nat) : Int) > IntKind.i64.max) := by
         simp only [ByteArray.size, List.size_toArray, IntKind.max, IntKind.signed, IntKind.bits]
         simp
         omega
       simp only [binOp, Op.stringOp]
       rw [if_neg hsz]
       simp only [Sem.run_pure, Result.ok.injEq, Value.string.injEq, and_true]
       apply ByteArray.ext
       simp)
end
theorem sX (P:Program) (w:World) {t:TypeId} (ht:P.underlying t=some .bool) (a b:Bool) (d:Nat):(Op.equalIn (d+1) t (.bool a) (.bool b)).run P w=.ok (a==b) w:=by
 simp [Op.equalIn,run_underlying ht]
theorem wB (P:Program) (w:World) {t:TypeId} (ht:P.underlying t=some .bool) (a b:Bool):(Op.equal t (.bool a) (.bool b)).run P w=.ok (a==b) w:=
 sX P w ht a b 9999
theorem aDA (P:Program) (w:World) {t:TypeId} {ms:Array (String×TypeId)} (ht:P.underlying t=some (.interface ms)) (d:Nat):(Op.equalIn (d+1) t .nilIface .nilIface).run P w=.ok true w:=by
 simp [Op.equalIn,run_underlying ht]
theorem yE (P:Program) (w:World) {t:TypeId} {ms:Array (String×TypeId)} (ht:P.underlying t=some (.interface ms)):(Op.equal t .nilIface .nilIface).run P w=.ok true w:=
 aDA P w ht 9999
theorem aBk (P:Program) (w:World) {t u:TypeId} {v:Value} {ms:Array (String×TypeId)} (ht:P.underlying t=some (.interface ms)) (d:Nat):(Op.equalIn (d+1) t (.iface u v) .nilIface).run P w=.ok false w:=by
 simp [Op.equalIn,run_underlying ht]
theorem mV (P:Program) (w:World) {t u:TypeId} {v:Value} {ms:Array (String×TypeId)} (ht:P.underlying t=some (.interface ms)):(Op.equal t (.iface u v) .nilIface).run P w=.ok false w:=
 aBk P w ht 9999
section
variable {P:Program} {c:Ctx} {g:Gh} {w:World} {base:Nat} {e:Env}
def aKE (P:Program) (t:TypeId):Option Nat:=match P.underlying t with
 |some (.int _)=>some 0
 |some .string=>some 1
 |some .bool=>some 2
 |_=>none
def aD9 (P:Program):Nat->List Field->Option (List Nat)
 |_,[]=>some []
 |i,f::r=>if f.name ≠ "_" ∧ f.offset=i then (aKE P f.type).bind fun k=>(aD9 P (i+1) r).map (k::·) else none
def aSF (P:Program) (t:TypeId):Option (List Nat):=match P.underlying t with
 |some (.struct fs)=>if P.stoodInHeld t=false/\P.eqGuardType P.depth t=false then aD9 P 0 fs.toList else none
 |_=>none
def aPM (P:Program) (t:TypeId) (y:Operand):Ty->Prop
 |.int|.str=>True
 |.bool=>P.underlying t=some .bool
 |.err=>(∃ ms,P.underlying t=some (.interface ms))/\y=.const .nilIface
 |.st ks=>aSF P t=some ks
theorem RA.err_inv {h:Nat->Option O} {s:Bool} {v:Value} (ha:RA g h w (.d (.err s)) v):(v=.nilIface/\s=true)\/∃ t u,v=.iface t u/\s=false:=by
 cases ha with
 |d _ _ h1=>
  cases h1 with
  |nilIface=>grind
  |iface t u=>grind
theorem aSP {h:Nat->Option O} {t:TypeId} {k:Nat} {a b:D} {u v:Value} {r:Bool} (ht:aKE P t=some k) (hr:aOD k a b=some r) (ha:RA g h w (.d a) u) (hb:RA g h w (.d b) v) (d:Nat):
  (Op.equalIn (d+1) t u v).run P w=.ok r w:=by
 unfold aKE at ht
 split at ht
 ·rename_i q hu
  cases ht
  cases a<;>cases b<;>simp only [aOD,reduceCtorEq] at hr
  split at hr
  ·rename_i e
   subst e
   cases hr
   rw [ha.int_inv,hb.int_inv]
   simp [Op.equalIn,run_underlying hu]
  grind
 ·rename_i hu
  cases ht
  cases a<;>cases b<;>simp only [aOD,reduceCtorEq] at hr
  cases hr
  rw [ha.str_inv,hb.str_inv]
  simp only [Op.equalIn,Sem.run_bind,run_underlying hu,Result.andThen_ok,Sem.run_pure]
  rename_i p q
  congr 1
  show ((p.toArray:Array UInt8)==q.toArray)=(p==q)
  simp
 ·rename_i hu
  cases ht
  cases a<;>cases b<;>simp only [aOD,reduceCtorEq] at hr
  cases hr
  rw [ha.bool_inv,hb.bool_inv]
  exact sX P w hu _ _ d
 grind
theorem aKJ {t:TypeId} {k:Nat} (ht:aKE P t=some k) {cs:Array Value} {i:Nat} (hi:i<cs.size):(part t cs i).run P w=.ok (cs.getD i Go.undef) w:=by
 have hagg:(isAgg t).run P w=.ok false w:=by
  unfold aKE at ht
  split at ht<;>rename_i hu<;>first|(simp [isAgg,run_underlying hu];done)|grind
 simp [part,hagg,Array.getElem?_eq_getElem hi,Array.getD_eq_getD_getElem?]
theorem aHN {h:Nat->Option O} (d:Nat) (vs us:Array Value):∀ (fs:List Field) (i:Nat) (ks:List Nat) (x y:List A) (r:Bool),aD9 P i fs=some ks->tV ks x y=some r →
  vs.size=i+x.length->us.size=i+y.length->(∀ m a,x[m]?=some a->RA g h w a (vs.getD (i+m) Go.undef))->(∀ m a,y[m]?=some a->RA g h w a (us.getD (i+m) Go.undef)) →
  (Op.eqFields (d+1) vs us fs).run P w=.ok r w:=by
 intro fs
 induction fs with
 |nil=>
  intro i ks x y r hk hr hv hu hx hy
  simp only [aD9,Option.some.injEq] at hk
  subst hk
  cases x<;>cases y<;>simp only [tV,reduceCtorEq] at hr
  cases hr
  rfl
 |cons f fs ih=>
  intro i ks x y r hk hr hv hu hx hy
  simp only [aD9] at hk
  split at hk
  ·rename_i hf
   obtain ⟨k,hk1,hk⟩:=Option.bind_eq_some_iff.1 hk
   obtain ⟨ks',hk2,rfl⟩:=Option.map_eq_some_iff.1 hk
   cases x with
   |nil=>grind [tV,reduceCtorEq]
   |cons a x=>
   cases y with
   |nil=>grind [tV,reduceCtorEq]
   |cons b y=>
   obtain ⟨a,rfl⟩:∃ a',a=.d a':=by cases a<;>first|exact ⟨_,rfl⟩|(simp [tV] at hr)
   obtain ⟨b,rfl⟩:∃ b',b=.d b':=by cases b<;>first|exact ⟨_,rfl⟩|(simp [tV] at hr)
   simp only [tV] at hr
   obtain ⟨r1,h1,hr⟩:=Option.bind_eq_some_iff.1 hr
   obtain ⟨r2,h2,hr⟩:=Option.bind_eq_some_iff.1 hr
   cases hr
   simp only [List.length_cons] at hv hu
   have ha:RA g h w (.d a) (vs.getD i Go.undef):=hx 0 (.d a) rfl
   have hb:RA g h w (.d b) (us.getD i Go.undef):=hy 0 (.d b) rfl
   have ih':=ih (i+1) ks' x y r2 hk2 h2 (by omega) (by omega) (fun m c hm=>by have:=hx (m+1) c (by simpa using hm);rwa [show i+(m+1)=i+1+m by omega] at this) (fun m c hm=>by have:=hy (m+1) c (by simpa using hm);rwa [show i+(m+1)=i+1+m by omega] at this)
   simp only [Op.eqFields,hf.1,hf.2,ne_eq,not_false_eq_true,if_true,Sem.run_bind,aKJ (w:=w) hk1 (show i<vs.size by omega),aKJ (w:=w) hk1 (show i<us.size by omega),Result.andThen_ok,aSP hk1 h1 ha hb d,Sem.run_ite]
   cases r1 with
   |true=>simpa using ih'
   |false=>simp
  grind
theorem aQv {h:Nat->Option O} {t:TypeId} {ks:List Nat} {x y:List A} {vx vy:Value} {r:Bool} (ht:aSF P t=some ks) (hr:tV ks x y=some r) (hx:RA g h w (.agg x) vx) (hy:RA g h w (.agg y) vy):
  (∀ op ox oy,(eqGuard op t ox oy vx vy).run P w=.ok () w)/\(binOp .eql t vx vy).run P w=.ok (.bool r) w/\(binOp .neq t vx vy).run P w=.ok (.bool (!r)) w:=by
 obtain ⟨vs,rfl,hl,hc⟩:∃ vs:Array Value,vx=.agg vs/\vs.size=x.length/\∀ m a,x[m]?=some a->RA g h w a (vs.getD m Go.undef):=by cases hx with|agg _ vs hl _ hc=>grind
 obtain ⟨us,rfl,hl',hc'⟩:∃ us:Array Value,vy=.agg us/\us.size=y.length/\∀ m a,y[m]?=some a->RA g h w a (us.getD m Go.undef):=by cases hy with|agg _ vs hl _ hc=>grind
 unfold aSF at ht
 split at ht
 ·rename_i fs hu
  split at ht
  ·rename_i hh
   have hfo:P.fieldsOf t=fs:=by simp only [Program.fieldsOf,hu]
   have he:(Op.equalIn 10000 t (.agg vs) (.agg us)).run P w=.ok r w:=by
    rw [run_equalIn_struct w 9999 t vs us (by grind) hh.1,hfo]
    exact aHN (h:=h) 9998 vs us fs.toList 0 ks x y r ht hr (by omega) (by omega) (fun m a hm=>by simpa using hc m a hm) (fun m a hm=>by grind)
   exact ⟨fun op ox oy=>run_eqGuard_agg w op t ox oy vs us hh.2,by rw [run_eql_struct,he];rfl,by rw [run_neq_struct,he];rfl⟩
  grind
 grind
theorem aVe (hi:fB c g e.h w) {t:TypeId} {x y:Operand} {a b:A} {vx vy:Value} {ty:Ty} {op:BinOp} {wr:Wr} (hx:RA g e.h w a vx) (hy:RA g e.h w b vy)
  (h:Out e (qU ty op a b) wr) (hty:aPM P t y ty):mL P c g e.h w base (do eqGuard op t x y vx vy;binOp op t vx vy) wr:=by
 unfold qU at h
 split at h
 ·rename_i k m k' n
  rw [hx.int_inv,hy.int_inv]
  have eg:∀ k m k' n,(eqGuard op t x y (.int k m) (.int k' n)).run P w=.ok () w:=by
   intro k m k' n;unfold eqGuard;simp_all
  split at h
  ·obtain ⟨d,hd,rfl⟩:=oO h
   obtain ⟨v,hv,hs⟩:=aGI (P:=P) (g:=g) (w:=w) (t:=t) (k':=k') (.inl rfl) hd
   exact .quiet hi (by simp_all) (.d _ _ hs)
  ·obtain ⟨d,hd,rfl⟩:=oO h
   obtain ⟨v,hv,hs⟩:=aGI (P:=P) (g:=g) (w:=w) (t:=t) (k':=k') (.inr rfl) hd
   exact .quiet hi (by simp_all) (.d _ _ hs)
  ·rename_i ho1 ho2
   split at h
   ·rename_i hk
    subst hk
    obtain ⟨d,hd,rfl⟩:=oO h
    obtain ⟨v,hv,hs⟩:=aMj (P:=P) (g:=g) (w:=w) (t:=t) (fun e=>ho1 e) (fun e=>ho2 e) hd
    exact .quiet hi (by simp_all) (.d _ _ hs)
   ·exact h.fail.elim
 ·rename_i s u
  rw [hx.str_inv,hy.str_inv]
  have eg:(eqGuard op t x y (.string ⟨s.toArray⟩) (.string ⟨u.toArray⟩)).run P w=.ok () w:=by
   unfold eqGuard;simp_all
  split at h
  ·obtain ⟨hl,h⟩:=h.need
   obtain ⟨d,hd,rfl⟩:=oO h
   obtain ⟨v,hv,hs⟩:=aEl (P:=P) (g:=g) (w:=w) (ty:=t) (fun _=>hl) hd
   exact .quiet hi (by simp [eg,hv]) (.d _ _ hs)
  ·rename_i ho
   obtain ⟨d,hd,rfl⟩:=oO h
   obtain ⟨v,hv,hs⟩:=aEl (P:=P) (g:=g) (w:=w) (ty:=t) (fun e=>absurd e ho) hd
   exact .quiet hi (by simp [eg,hv]) (.d _ _ hs)
 ·rename_i p q
  rw [hx.bool_inv,hy.bool_inv]
  simp only [aPM] at hty
  split at h
  ·rw [cG h]
   exact .quiet hi (by simp [eqGuard,binOp,wB _ _ hty]) .of_bool
  ·rw [cG h]
   exact .quiet hi (by simp [eqGuard,binOp,wB _ _ hty]) .of_bool
  ·exact h.fail.elim
 ·rename_i s
  simp only [aPM] at hty
  obtain ⟨⟨ms,hms⟩,rfl⟩:=hty
  have hvy:vy=.nilIface:=by
   rcases hy.err_inv with ⟨rfl,_⟩|⟨_,_,_,hf⟩
   ·rfl
   ·cases hf
  subst hvy
  rcases hx.err_inv with ⟨rfl,rfl⟩|⟨u,v,rfl,rfl⟩
  ·split at h
   ·rw [cG h];exact .quiet hi (by simp [eqGuard,binOp,yE _ _ hms]) .of_bool
   ·rw [cG h];exact .quiet hi (by simp [eqGuard,binOp,yE _ _ hms]) .of_bool
   ·exact h.fail.elim
  ·split at h
   ·rw [cG h];exact .quiet hi (by simp [eqGuard,binOp,mV _ _ hms]) .of_bool
   ·rw [cG h];exact .quiet hi (by simp [eqGuard,binOp,mV _ _ hms]) .of_bool
   ·exact h.fail.elim
 ·rename_i u k n
  simp only [aPM] at hty
  obtain ⟨⟨ms,hms⟩,rfl⟩:=hty
  have hvy:vy=.nilIface:=by
   rcases hy.err_inv with ⟨rfl,_⟩|⟨_,_,_,hf⟩
   ·rfl
   ·cases hf
  subst hvy
  have hvx:vx=.iface u (.int k n):=by cases hx with|d _ _ h1=>cases h1;rfl
  subst hvx
  split at h
  ·rw [cG h];exact .quiet hi (by simp [eqGuard,binOp,mV _ _ hms]) .of_bool
  ·rw [cG h];exact .quiet hi (by simp [eqGuard,binOp,mV _ _ hms]) .of_bool
  ·exact h.fail.elim
 ·rename_i ks x y
  simp only [aPM] at hty
  split at h
  ·rename_i r hr
   obtain ⟨h1,h2,_⟩:=aQv hty hr hx hy
   rw [cG h]
   exact .quiet hi (by simp [h1,h2]) .of_bool
  ·rename_i r hr
   obtain ⟨h1,_,h3⟩:=aQv hty hr hx hy
   rw [cG h]
   exact .quiet hi (by simp [h1,h3]) .of_bool
  ·exact h.fail.elim
 ·exact h.fail.elim
theorem aWP (hi:fB c g e.h w) {a:A} {vx:Value} {op:UnOp} {wr:Wr} (hx:RA g e.h w a vx)
  (h:Out e (unA op a) wr):mL P c g e.h w base (Op.unary op vx) wr:=by
 unfold unA at h
 split at h
 ·rw [hx.bool_inv]
  split at h
  ·rw [cG h];exact .quiet hi (by rfl) .of_bool
  ·exact h.fail.elim
 ·rw [hx.int_inv]
  split at h
  ·obtain ⟨d,hd,rfl⟩:=oO h
   simp only [fX,Option.some.injEq] at hd
   subst hd
   exact .quiet hi (by rfl) .of_int
  ·obtain ⟨d,hd,rfl⟩:=oO h
   simp only [fX,Option.some.injEq] at hd
   subst hd
   refine .quiet hi ?_ .of_int
   rfl
  ·exact h.fail.elim
 ·exact h.fail.elim
theorem aTc (hi:fB c g e.h w) {a:A} {vx:Value} {s d:TypeId} {k:IntKind} {wr:Wr} (hx:RA g e.h w a vx) (hs:∃ q,P.underlying s=some (.int q)) (hd:P.underlying d=some (.int k))
  (h:Out e (rT a fun n=>out (.d (.int k (k.wrap n)))) wr):mL P c g e.h w base (convert s d vx) wr:=by
 unfold rT at h
 split at h
 ·rw [hx.int_inv,cG h]
  obtain ⟨q',hs⟩:=hs
  exact .quiet hi (by simp [convert,run_underlying hs,run_underlying hd,Conv.intToInt]) .of_int
 ·exact h.fail.elim
theorem aS7 (hi:fB c g e.h w) {t a b:A} {vt va vb:Value} {wr:Wr} (ht:RA g e.h w t vt) (ha:RA g e.h w a va) (hb:RA g e.h w b vb)
  (h:Out e (aNz t a b) wr):mL P c g e.h w base (do pure (if <-asBool vt then va else vb)) wr:=by
 unfold aNz at h
 split at h
 ·rename_i t p q
  rw [ht.bool_inv,ha.bool_inv,hb.bool_inv,cG h]
  exact .quiet hi (by rfl) (by cases t<;>exact .of_bool)
 ·rw [ht.bool_inv]
  rcases h.ite with ⟨rfl,h'⟩|⟨rfl,h'⟩
  ·rw [cG h'];exact .quiet hi (by rfl) ha
  ·rw [cG h'];exact .quiet hi (by rfl) hb
 ·exact h.fail.elim
theorem RA.elt_inv {h:Nat->Option O} {n ver i off:Nat} {p:List (Nat×Nat)} {v:Value} (ha:RA g h w (.elt n ver p i off) v):g.Nm n/\(∃ b q,v=.pointer (some (at_ b q))) ∧
  (∀ ver' k sz rows,h n=some (.arr ver' k sz rows)->ver<=ver'/\(p=[]\/ver=ver' →
    ∃ sz' rows' b o len cap,eF sz rows p=some (sz',rows')/\iW w sz rows (g.ν n) p=some (.slice (some (at_ b o)) len cap)/\v=.pointer (some (at_ b (o+(i*sz'+off)))))):=by
 cases ha with|elt _ _ _ _ _ _ hn h1 e=>grind
theorem RA.agg_inv {h:Nat->Option O} {cells:List A} {v:Value} (ha:RA g h w (.agg cells) v):
  ∃ vs:Array Value,v=.agg vs/\vs.size=cells.length/\(∀ m a,cells[m]?=some a->(vs.getD m Go.undef).oneCell'=true)/\∀ m a,cells[m]?=some a->RA g h w a (vs.getD m Go.undef):=by
 cases ha with|agg _ vs hl h1 hc=>grind
theorem RA.tup_inv {h:Nat->Option O} {cells:List A} {v:Value} (ha:RA g h w (.tup cells) v):
  ∃ vs:Array Value,v=.tuple vs/\vs.size=cells.length/\∀ m a,cells[m]?=some a->RA g h w a (vs.getD m Go.undef):=by
 cases ha with|tup _ vs hl hc=>grind
theorem aVb (hi:fB c g e.h w) {a:A} {vx:Value} {i:Nat} {wr:Wr} (hx:RA g e.h w a vx)
  (h:Out e (aTI a i) wr):mL P c g e.h w base (Instr.extract vx i) wr:=by
 unfold aTI at h
 split at h
 ·split at h
  ·rename_i a ha
   obtain ⟨vs,rfl,hl,hc⟩:=hx.tup_inv
   rw [cG h]
   have hlt:=(List.getElem?_eq_some_iff.1 ha).1
   have hv:vs[i]?=some (vs.getD i Go.undef):=by simp_all
   exact .quiet hi (by simp only [Instr.extract,hv,Sem.run_pure]) (hc i a ha)
  ·exact h.fail.elim
 ·exact h.fail.elim
theorem pF (b o n:Nat):(at_ b o).add n=at_ b (o+n):=by
 unfold Addr.add;split<;>simp_all
theorem aVa (hi:fB c g e.h w) {a:A} {vx:Value} {s:TypeId} {i:Nat} {fs:Array Field} {f:Field} {wr:Wr} (hs:P.underlying s=some (.struct fs)) (hf:fs[i]?=some f)
  (hz:∃ inf,P.info? f.type=some inf/\inf.size≠0) (hx:RA g e.h w a vx)
  (h:Out e (aTD f.offset a) wr):mL P c g e.h w base (Instr.fieldAt s vx i) wr:=by
 obtain ⟨inf,hinf,hsz⟩:=hz
 have key:∀ b o,(Instr.fieldAt s (.pointer (some (at_ b o))) i).run P w=.ok (.pointer (some (at_ b (o+f.offset)))) w:=by
  intro b o
  have ha:Addr.add (at_ b o) f.offset=at_ b (o+f.offset):=pF b o f.offset
  simp only [Instr.fieldAt,Sem.run_bind,run_underlying hs,Result.andThen_ok,hf,Instr.sureAddr,Sem.run_pure,fieldPlace,sizeOf,typeInfo,run_program,hinf,if_neg hsz,ha]
 unfold aTD at h
 split at h
 ·rename_i n o
  cases hx with|ptr _ _ b o' hn en=>?_
  rw [cG h]
  refine .quiet hi (key b (o'+o)) ?_
  rw [Nat.add_assoc]
  exact .ptr n (o+f.offset) b o' hn en
 ·rename_i row o
  cases hx with|rp _ _ b o' vs hc hs'=>?_
  rw [cG h]
  refine .quiet hi (key b (o'+o)) ?_
  rw [Nat.add_assoc]
  exact .rp row (o+f.offset) b o' vs hc hs'
 ·rename_i n ver p j o
  rw [cG h]
  obtain ⟨hn,⟨b,q,rfl⟩,he⟩:=hx.elt_inv
  refine .quiet hi (key b q) (.elt n ver p j (o+f.offset) _ hn ⟨_,_,rfl⟩ fun ver' k sz rows hh=>?_)
  grind
 ·exact h.fail.elim
end
theorem Own.one {w:World} {Fz:bK} {k:Nat} {v:Value} {d:D} {S:bK} (h:Own w Fz k v d S):v.oneCell'=true:=by
 cases k with
 |zero=>exact h.1.one
 |succ k=>
  cases d with
  |slc sz rows=>
   rcases h with ⟨rfl,_⟩|⟨b,off,cap,T,rfl,_⟩<;>rfl
  |_=>exact h.1.one
theorem aK0 {w:World} {Fz:bK} {k b o len cap sz i j:Nat} {rows:List (List D)} {row:List D} {d:D} {S:bK}
  (h:Own w Fz k (.slice (some (at_ b o)) len cap) (.slc sz rows) S) (hi:rows[i]?=some row) (hj:row[j]?=some d):
  ∃ u S',w.cell? (at_ b (o+(i*sz+j)))=some u/\Own w Fz (k-1) u d S'/\(∀ x y,S' x y->S x y):=by
 cases k with
 |zero=>
  obtain ⟨hs,hS⟩:=h
  cases hs with
  |emp=>simp at hi
  |slc _ _ _ _ _ vs hr hcap hc hs=>
   have hm:=jN hr hi hj
   exact ⟨vs (i*sz+j),fun _ _=>False,(hc _ _ hm).1,⟨hs _ _ hm,fun _ _ h=>h⟩,fun _ _ h=>h.elim⟩
 |succ k=>
  rcases h with ⟨e1,_⟩|⟨b',o',cap',T,e1,h1,h2,h3,h4,h5,h6,h7⟩
  ·cases e1
  ·cases e1
   have hm:=jN h3 hi hj
   obtain ⟨u,hu,ho⟩:=h4 _ _ hm
   exact ⟨u,T (i*sz+j),hu,ho,fun x y hx=>(h7 x y).2 (.inr ⟨_,jB hm,hx⟩)⟩
theorem qQ {w:World} {Fz:bK} {k sz:Nat} {v:Value} {rows:List (List D)} {S:bK} (h:Own w Fz k v (.slc sz rows) S):
  ∃ a cap,v=.slice a rows.length cap/\(rows≠[]->(∀ row,row∈rows->row.length=sz)/\∃ b o,a=some (at_ b o)):=by
 cases k with
 |zero=>
  obtain ⟨hs,hS⟩:=h
  cases hs with
  |emp a cap=>exact ⟨a,cap,rfl,fun h=>absurd rfl h⟩
  |slc b o cap _ _ vs hr hcap hc hs=>exact ⟨_,cap,rfl,fun _=>⟨hr,b,o,rfl⟩⟩
 |succ k=>
  rcases h with ⟨rfl,rfl,_⟩|⟨b',o',cap',T,rfl,h1,h2,h3,h4,h5,h6,h7⟩
  ·exact ⟨none,0,rfl,fun h=>absurd rfl h⟩
  ·exact ⟨_,cap',rfl,fun _=>⟨h3,b',o',rfl⟩⟩
theorem aEz {w:World} {Fz:bK}:∀ (p:List (Nat×Nat)) (k sz:Nat) (rows:List (List D)) (v hv:Value) (S:bK) (sz':Nat) (rows':List (List D)),
  Own w Fz k v (.slc sz rows) S->iW w sz rows v p=some hv->eF sz rows p=some (sz',rows')->∃ S',Own w Fz (k-p.length) hv (.slc sz' rows') S'/\(∀ x y,S' x y->S x y):=by
 intro p
 induction p with
 |nil=>
  intro k sz rows v hv S sz' rows' ho h1 h2
  simp only [iW,Option.some.injEq] at h1
  simp only [eF,Option.some.injEq,Prod.mk.injEq] at h2
  obtain ⟨rfl,rfl⟩:=h2
  subst h1
  exact ⟨S,ho,fun _ _ h=>h⟩
 |cons ij p ih=>
  intro k sz rows v hv S sz' rows' ho h1 h2
  obtain ⟨i,j⟩:=ij
  unfold iW at h1
  split at h1
  ·rename_i a len cap sz1 rows1 he
   split at h1
   ·rename_i u hu
    unfold eF at h2
    rw [he] at h2
    simp only at h2
    obtain ⟨row,hrow,hd⟩:=mU he
    have hne:rows≠[]:=by intro h;subst h;simp at hrow
    obtain ⟨a',cap',ev,hx⟩:=qQ ho
    obtain ⟨_,b,o,rfl⟩:=hx hne
    cases ev
    obtain ⟨u',S1,hu',ho',hsub⟩:=aK0 ho hrow hd
    have:u'=u:=by
     have:=hu'.symm.trans hu
     exact Option.some.inj this
    subst this
    obtain ⟨S2,ho2,hsub2⟩:=ih (k-1) sz1 rows1 u' hv S1 sz' rows' ho' h1 h2
    refine ⟨S2,?_,fun x y h=>hsub x y (hsub2 x y h)⟩
    have:k-1-p.length=k-(p.length+1):=by omega
    rw [this] at ho2
    simpa using ho2
   ·cases h1
  ·cases h1
theorem aMX {w:World}:∀ (p:List (Nat×Nat)) (sz:Nat) (rows:List (List D)) (v u:Value) (b o len cap sz' i j sz2:Nat) (rows' rows2:List (List D)),
  iW w sz rows v p=some (.slice (some (at_ b o)) len cap)->eF sz rows p=some (sz',rows')->(rows'[i]?).bind (·[j]?)=some (.slc sz2 rows2) →
  w.cell? (at_ b (o+(i*sz'+j)))=some u->iW w sz rows v (p++[(i,j)])=some u:=by
 intro p
 induction p with
 |nil=>
  intro sz rows v u b o len cap sz' i j sz2 rows' rows2 h1 h2 h3 h4
  simp only [iW,Option.some.injEq] at h1
  simp only [eF,Option.some.injEq,Prod.mk.injEq] at h2
  obtain ⟨rfl,rfl⟩:=h2
  subst h1
  simp only [List.nil_append,iW,h3,h4]
 |cons ij p ih=>
  intro sz rows v u b o len cap sz' i j sz2 rows' rows2 h1 h2 h3 h4
  obtain ⟨i0,j0⟩:=ij
  simp only [List.cons_append]
  unfold iW at h1 ⊢
  split at h1
  ·rename_i a _ _ sz1 rows1 he
   split at h1
   ·rename_i x hx
    unfold eF at h2
    rw [he] at h2
    exact ih sz1 rows1 x u b o len cap sz' i j sz2 rows' rows2 h1 h2 h3 h4
   ·cases h1
  ·cases h1
theorem aQK {w:World} {Fz:bK} {k:Nat} {v:Value} {d:D} {S:bK} (h:Own w Fz k v d S) (hd:∀ sz rows,d≠.slc sz rows):Shr w Fz v d:=by
 cases k with
 |zero=>exact h.1
 |succ k=>
  cases d with
  |slc sz rows=>exact absurd rfl (hd sz rows)
  |_=>exact h.1
section
variable {P:Program} {c:Ctx} {g:Gh} {w:World} {base:Nat} {e:Env}
def aMS:TypeDesc->Bool
 |.struct _|.array _ _=>true
 |_=>false
def aL3 (P:Program) (t:TypeId) (agg:Bool) (n:Nat):Prop:=
 ∃ d inf,P.underlying t=some d/\P.info? t=some inf/\inf.size=n/\aMS d=agg
theorem nF {t:TypeId} {d:TypeDesc} (h:P.underlying t=some d):(isAgg t).run P w=.ok (aMS d) w:=by
 simp only [isAgg,Sem.run_bind,run_underlying h,Result.andThen_ok]
 cases d<;>rfl
theorem aEB {agg:Bool} {cells:List A} {wr:Wr} (h:Out e (yF agg cells) wr):(agg=true/\wr={ val:=.agg cells })\/(agg=false/\∃ a,cells=[a]/\wr={ val:=a }):=by
 unfold yF at h
 split at h
 ·exact .inl ⟨rfl,cG h⟩
 ·exact .inr ⟨rfl,_,rfl,cG h⟩
 ·exact h.fail.elim
theorem yX (hi:fB c g e.h w) {t:TypeId} {agg:Bool} {n b o:Nat} {cells:List A} {wr:Wr} (ht:aL3 P t agg n) (hl:cells.length=n)
  (hc:∀ (m:Nat) a,cells[m]?=some a->∃ u,w.cell? (at_ b (o+m))=some u/\u.oneCell'=true/\RA g e.h w a u)
  (h:Out e (yF agg cells) wr):mL P c g e.h w base (Instr.loadAt t (.pointer (some (at_ b o)))) wr:=by
 obtain ⟨d,inf,hd,hinf,hsz,hk⟩:=ht
 have hu:∀ m,m<cells.length->∃ u,w.cell? (at_ b (o+m))=some u/\u.oneCell'=true/\RA g e.h w (cells.getD m .undef) u:=by
  intro m hm
  obtain ⟨u,h1,h2,h3⟩:=hc m _ (List.getElem?_eq_getElem hm)
  exact ⟨u,h1,h2,by simpa [List.getD,List.getElem?_eq_getElem hm] using h3⟩
 let us:List Value:=(List.range cells.length).map fun m=>(w.cell? (at_ b (o+m))).getD Go.undef
 have hus:us.length=cells.length:=by simp [us]
 have hget:∀ m,m<cells.length->us[m]?=some ((w.cell? (at_ b (o+m))).getD Go.undef):=by
  intro m hm;simp [us,hm]
 rcases aEB h with ⟨rfl,rfl⟩|⟨rfl,a,rfl,rfl⟩
 ·have hrun:(loadCells (at_ b o) n).run P w=.ok us.toArray w:=by
   rw [<-hl,<-hus]
   refine run_loadCells_list w (at_ b o) us ?_
   intro j v hv
   have hj:j<cells.length:=by have:=(List.getElem?_eq_some_iff.1 hv).1;omega
   obtain ⟨u,h1,_,_⟩:=hu j hj
   rw [hget j hj,h1] at hv
   rw [pF,h1]
   simpa using hv
  refine .quiet (v:=.agg us.toArray) hi ?_ (.agg cells us.toArray (by simp [hus]) ?_ ?_)
  ·simp only [Instr.loadAt,Instr.sureAddr,Sem.run_bind,Sem.run_pure,Result.andThen_ok,loadVar,nF hd,hk,if_pos,sizeOf,typeInfo,run_program,hinf,hsz,hrun]
  ·intro m a ha
   have hm:=(List.getElem?_eq_some_iff.1 ha).1
   obtain ⟨u,h1,h2,h3⟩:=hu m hm
   simpa [Array.getD_eq_getD_getElem?,hget m hm,h1] using h2
  ·intro m a ha
   have hm:=(List.getElem?_eq_some_iff.1 ha).1
   obtain ⟨u,h1,h2,h3⟩:=hc m a ha
   simpa [Array.getD_eq_getD_getElem?,hget m hm,h1] using h3
 ·obtain ⟨u,h1,h2,h3⟩:=hc 0 a rfl
  refine .quiet (v:=u) hi ?_ h3
  simp only [Nat.add_zero] at h1
  simp only [Instr.loadAt,Instr.sureAddr,Sem.run_bind,Sem.run_pure,Result.andThen_ok,loadVar,nF hd,hk,Bool.false_eq_true,if_false,run_load,h1]
theorem aBl (n ver:Nat) (p:List (Nat×Nat)) (i:Nat):∀ (ds:List D) (j:Nat),(lJ n ver p i j ds).length=ds.length:=by
 intro ds
 induction ds with
 |nil=>intro j;rfl
 |cons d ds ih=>intro j;cases d<;>simp [lJ,ih]
theorem aHR (n ver:Nat) (p:List (Nat×Nat)) (i:Nat):∀ (ds:List D) (j m:Nat) (a:A),(lJ n ver p i j ds)[m]?=some a →
  ∃ d,ds[m]?=some d/\((∃ sz rows,d=.slc sz rows/\a=.inn n ver (p++[(i,j+m)]))\/a=.undef\/((∀ sz rows,d≠.slc sz rows)/\a=.d d)):=by
 intro ds
 induction ds with
 |nil=>intro j m a h;simp [lJ] at h
 |cons d ds ih=>
  intro j m a h
  cases m with
  |zero=>
   refine ⟨d,rfl,?_⟩
   cases d<;>simp [lJ] at h<;>subst h<;>simp
  |succ m=>
   have h':(lJ n ver p i (j+1) ds)[m]?=some a:=by cases d<;>simpa [lJ] using h
   obtain ⟨d',h1,h2⟩:=ih (j+1) m a h'
   refine ⟨d',by simpa using h1,?_⟩
   rw [show j+(m+1)=j+1+m by omega]
   exact h2
theorem aNN {t:TypeId} {agg:Bool} {n b o:Nat} {cells:List A} {wr:Wr} (ht:aL3 P t agg n) (hl:cells.length=n)
  (hc:∀ (m:Nat) a,cells[m]?=some a->∃ u,w.cell? (at_ b (o+m))=some u/\u.oneCell'=true/\RA g e.h w a u)
  (h:Out e (yF agg cells) wr):∃ v,(loadVar t (at_ b o)).run P w=.ok v w/\RA g e.h w wr.val v:=by
 obtain ⟨d,inf,hd,hinf,hsz,hk⟩:=ht
 let us:List Value:=(List.range cells.length).map fun m=>(w.cell? (at_ b (o+m))).getD Go.undef
 have hus:us.length=cells.length:=by simp [us]
 have hget:∀ m,m<cells.length->us[m]?=some ((w.cell? (at_ b (o+m))).getD Go.undef):=by
  intro m hm;simp [us,hm]
 rcases aEB h with ⟨rfl,rfl⟩|⟨rfl,a,rfl,rfl⟩
 ·have hrun:(loadCells (at_ b o) n).run P w=.ok us.toArray w:=by
   rw [<-hl,<-hus]
   refine run_loadCells_list w (at_ b o) us ?_
   intro j v hv
   have hj:j<cells.length:=by have:=(List.getElem?_eq_some_iff.1 hv).1;omega
   obtain ⟨u,h1,_,_⟩:=hc j _ (List.getElem?_eq_getElem hj)
   rw [hget j hj,h1] at hv
   rw [pF,h1]
   simpa using hv
  refine ⟨.agg us.toArray,?_,.agg cells us.toArray (by simp [hus]) ?_ ?_⟩
  ·simp only [Sem.run_bind,Sem.run_pure,Result.andThen_ok,loadVar,nF hd,hk,if_pos,sizeOf,typeInfo,run_program,hinf,hsz,hrun]
  ·intro m a ha
   have hm:=(List.getElem?_eq_some_iff.1 ha).1
   obtain ⟨u,h1,h2,h3⟩:=hc m a ha
   simpa [Array.getD_eq_getD_getElem?,hget m hm,h1] using h2
  ·intro m a ha
   have hm:=(List.getElem?_eq_some_iff.1 ha).1
   obtain ⟨u,h1,h2,h3⟩:=hc m a ha
   simpa [Array.getD_eq_getD_getElem?,hget m hm,h1] using h3
 ·obtain ⟨u,h1,h2,h3⟩:=hc 0 a rfl
  refine ⟨u,?_,h3⟩
  simp only [Nat.add_zero] at h1
  simp only [Sem.run_bind,Result.andThen_ok,loadVar,nF hd,hk,Bool.false_eq_true,if_false,run_load,h1]
theorem aS9 (hi:fB c g e.h w) {t:TypeId} {agg:Bool} {n:Nat} {x:A} {v:Value} {wr:Wr} (ht:aL3 P t agg n) (hx:RA g e.h w x v)
  (h:Out e (aNO agg n x) wr):mL P c g e.h w base (Instr.loadAt t v) wr:=by
 unfold aNO at h
 split at h
 ·rename_i m off
  obtain ⟨o,ho,h⟩:=h.rh
  split at h
  ·rename_i cells
   split at h
   ·rename_i hle
    obtain ⟨b,q,hν,hr,hF,hc⟩:=hi.obj m _ ho
    cases hx with|ptr _ _ b' q' hn hν'=>?_
    rw [hν] at hν'
    cases hν'
    refine yX hi ht (by simp;omega) ?_ h
    intro k a ha
    have hk:k<n:=by have:=(List.getElem?_eq_some_iff.1 ha).1;simp at this;omega
    rw [List.getElem?_take_of_lt hk,List.getElem?_drop] at ha
    obtain ⟨u,h1,h2,h3⟩:=hc _ a ha
    exact ⟨u,by rw [Nat.add_assoc];exact h1,h2,h3⟩
   ·exact h.fail.elim
  ·exact h.fail.elim
 ·rename_i row off
  split at h
  ·rename_i hle
   cases hx with|rp _ _ b q vs hc hs=>?_
   refine yX hi ht (by simp;omega) ?_ h
   intro k a ha
   have hk:k<n:=by have:=(List.getElem?_eq_some_iff.1 ha).1;simp at this;omega
   rw [List.getElem?_map,List.getElem?_take_of_lt hk,List.getElem?_drop] at ha
   cases hd:row[off+k]? with
   |none=>simp [hd] at ha
   |some d=>
    simp only [hd,Option.map_some,Option.some.injEq] at ha
    subst ha
    exact ⟨vs (off+k),by rw [Nat.add_assoc];exact (hc _ _ hd).1,(hs _ _ hd).one,.d _ _ (hs _ _ hd)⟩
  ·exact h.fail.elim
 ·rename_i m ver p i off
  obtain ⟨o,ho,h⟩:=h.rh
  split at h
  ·rename_i ver' k sz rows
   split at h
   ·rename_i hpv
    split at h
    ·rename_i sz' rows' hrows
     split at h
     ·rename_i row hrow
      split at h
      ·rename_i hle
       obtain ⟨hn,_,he⟩:=hx.elt_inv
       obtain ⟨hver,he⟩:=he _ _ _ _ ho
       obtain ⟨sz2,rows2,b,q,len,cap,e1,e2,rfl⟩:=he hpv
       rw [hrows] at e1
       cases e1
       have hown:Own w g.Fz (k+1) (g.ν m) (.slc sz rows) (g.F m):=hi.obj m _ ho
       obtain ⟨S',ho',_⟩:=aEz p _ _ _ _ _ _ _ _ hown e2 hrows
       refine yX hi ht (by simp [aBl];omega) ?_ h
       intro j a ha
       have hj:j<n:=by have:=(List.getElem?_eq_some_iff.1 ha).1;simp [aBl] at this;omega
       obtain ⟨d,hd,hcase⟩:=aHR _ _ _ _ _ _ _ _ ha
       rw [List.getElem?_take_of_lt hj,List.getElem?_drop] at hd
       obtain ⟨u,S2,hu,ho2,_⟩:=aK0 ho' hrow hd
       refine ⟨u,by rw [<-hu];congr 2;omega,ho2.one,?_⟩
       rcases hcase with ⟨sz3,rows3,rfl,rfl⟩|rfl|⟨hns,rfl⟩
       ·refine .inn m ver' _ u hn ho2.one fun ver2 k2 sz4 rows4 hh=>?_
        rw [ho] at hh
        cases hh
        refine ⟨Nat.le_refl _,fun _=>?_⟩
        exact aMX p sz rows (g.ν m) u b q len cap sz' i (off+j) sz3 rows' rows3 e2 hrows (by simp [hrow,hd]) hu
       ·exact .undef u
       ·refine .d _ _ ?_
        exact aQK ho2 hns
      ·exact h.fail.elim
     ·exact h.fail.elim
    ·exact h.fail.elim
   ·exact h.fail.elim
  ·exact h.fail.elim
 ·exact h.fail.elim
end
section
variable {P:Program} {c:Ctx} {g:Gh} {w:World} {base:Nat} {e:Env}
theorem aQP (hi:fB c g e.h w) {s:TypeId} {i:Nat} {fs:Array Field} {f:Field} {agg:Bool} {n:Nat} {x:A} {v:Value} {wr:Wr} (hs:P.underlying s=some (.struct fs)) (hf:fs[i]?=some f)
  (ht:aL3 P f.type agg n) (hx:RA g e.h w x v) (h:Out e (aIu agg f.offset n x) wr):mL P c g e.h w base (Instr.field s v i) wr:=by
 obtain ⟨d,inf,hd,hinf,hsz,hk⟩:=ht
 unfold aIu at h
 split at h
 ·rename_i cells
  split at h
  ·rename_i hle
   obtain ⟨vs,rfl,hl,h1,hc⟩:=hx.agg_inv
   rcases aEB h with ⟨rfl,rfl⟩|⟨rfl,a,ha,rfl⟩
   ·refine .quiet (v:=.agg (vs.extract f.offset (f.offset+n))) hi ?_ (.agg _ _ (by simp;omega) ?_ ?_)
    ·simp only [Instr.field,Sem.run_bind,run_underlying hs,Result.andThen_ok,hf,asAgg,Sem.run_pure,part,nF hd,hk,if_pos,sizeOf,typeInfo,run_program,hinf,hsz]
    ·intro m a ha
     have hm:m<n:=by have:=(List.getElem?_eq_some_iff.1 ha).1;simp at this;omega
     rw [List.getElem?_take_of_lt hm,List.getElem?_drop] at ha
     have:=h1 _ a ha
     have e:(vs.extract f.offset (f.offset+n)).getD m Go.undef=vs.getD (f.offset+m) Go.undef:=by
      simp only [Array.getD_eq_getD_getElem?,Array.getElem?_extract]
      rw [if_pos (by omega)]
     rw [e];exact this
    ·intro m a ha
     have hm:m<n:=by have:=(List.getElem?_eq_some_iff.1 ha).1;simp at this;omega
     rw [List.getElem?_take_of_lt hm,List.getElem?_drop] at ha
     have:=hc _ a ha
     have e:(vs.extract f.offset (f.offset+n)).getD m Go.undef=vs.getD (f.offset+m) Go.undef:=by
      simp only [Array.getD_eq_getD_getElem?,Array.getElem?_extract]
      rw [if_pos (by omega)]
     rw [e];exact this
   ·have hn:n=1:=by
     have:=congrArg List.length ha
     simp at this;omega
    have ha':cells[f.offset]?=some a:=by
     have:=congrArg (·[0]?) ha
     simp only [List.getElem?_cons_zero] at this
     rw [List.getElem?_take_of_lt (by omega),List.getElem?_drop] at this
     simpa using this
    have hlt:=(List.getElem?_eq_some_iff.1 ha').1
    have hv:vs[f.offset]?=some (vs.getD f.offset Go.undef):=by simp [Array.getD_eq_getD_getElem?,hl,hlt]
    refine .quiet (v:=vs.getD f.offset Go.undef) hi ?_ (hc _ a ha')
    simp only [Instr.field,Sem.run_bind,run_underlying hs,Result.andThen_ok,hf,asAgg,Sem.run_pure,part,nF hd,hk,Bool.false_eq_true,if_false,hv]
  ·exact h.fail.elim
 ·exact h.fail.elim
theorem aBr {i:Int} {n:Nat} {k:Nat->RM Wr} {wr:Wr} (h:Out e (idx i n k) wr):0<=i/\i<n/\Out e (k i.toNat) wr:=by
 obtain ⟨⟨h0,h1⟩,h⟩:=h.need
 exact ⟨h0,h1,h⟩
theorem sI {t el:TypeId} {inf:TypeInfo} (ht:P.underlying t=some (.slice el)) (hinf:P.info? el=some inf) {b o len cap:Nat} {k:IntKind} {i:Int} (h0:0<=i) (h1:i<len):
  (Instr.indexAt t (.slice (some (at_ b o)) len cap) (.int k i)).run P w=.ok (.pointer (some (at_ b (o+i.toNat*inf.size)))) w:=by
 have ha:Addr.add (at_ b o) (i.toNat*inf.size)=at_ b (o+i.toNat*inf.size):=pF _ _ _
 simp only [Instr.indexAt,asIntOf,Sem.run_bind,Sem.run_pure,Result.andThen_ok,run_underlying ht,sizeOf,typeInfo]
 rw [if_pos ⟨h0,h1⟩]
 simp only [Sem.run_bind,Sem.run_pure,Result.andThen_ok,ha,run_program,hinf]
theorem aTb (hi:fB c g e.h w) {t el:TypeId} {inf:TypeInfo} {x:A} {v:Value} {k:IntKind} {i:Int} {wr:Wr} (ht:P.underlying t=some (.slice el)) (hinf:P.info? el=some inf)
  (hx:RA g e.h w x v) (h:Out e (aNX inf.size x i) wr):mL P c g e.h w base (Instr.indexAt t v (.int k i)) wr:=by
 unfold aNX at h
 split at h
 ·rename_i sz rows
  split at h
  ·rename_i hsz
   subst hsz
   obtain ⟨h0,h1,h⟩:=aBr h
   split at h
   ·rename_i row hrow
    rw [cG h]
    cases hx with|d _ _ hs=>?_
    cases hs with
    |emp=>simp at hrow
    |slc b o cap _ _ vs hr hcap hc hs=>
     refine .quiet hi (sI ht hinf h0 h1) ?_
     have hpos:=RA.rp (g:=g) (h:=e.h) (w:=w) row 0 b (o+i.toNat*inf.size) (fun m=>vs (i.toNat*inf.size+m)) (fun m d hd=>by rw [Nat.add_assoc];exact hc _ _ (jN hr hrow hd)) (fun m d hd=>hs _ _ (jN hr hrow hd))
     exact hpos
   ·exact h.fail.elim
  ·exact h.fail.elim
 ·rename_i n
  obtain ⟨o,ho,h⟩:=h.rh
  split at h
  ·rename_i ver kk sz rows
   split at h
   ·rename_i hsz
    subst hsz
    obtain ⟨h0,h1,h⟩:=aBr h
    rw [cG h]
    have hown:Own w g.Fz (kk+1) (g.ν n) (.slc inf.size rows) (g.F n):=hi.obj n _ ho
    cases hx with|sl _ hn hone1=>?_
    obtain ⟨a,cap,ev,hne⟩:=qQ hown
    have hne':rows≠[]:=by intro hr;subst hr;simp at h1;omega
    obtain ⟨_,b,q,rfl⟩:=hne hne'
    rw [ev]
    refine .quiet hi (sI ht hinf h0 h1) (.elt n ver [] i.toNat 0 _ hn ⟨_,_,rfl⟩ fun ver' k' sz' rows' hh=>?_)
    rw [ho] at hh
    cases hh
    exact ⟨Nat.le_refl _,fun _=>⟨inf.size,rows,b,q,rows.length,cap,rfl,by rw [ev];rfl,by simp⟩⟩
   ·exact h.fail.elim
  ·exact h.fail.elim
 ·rename_i n sz lo hi'
  obtain ⟨o,ho,h2⟩:=h.rh
  split at h2
  ·rename_i ver kk sz'' rows
   split at h2
   ·rename_i hsz
    obtain ⟨hs1,hs2⟩:=hsz
    subst hs1
    subst hs2
    obtain ⟨h0,h1,h2⟩:=aBr h2
    rw [cG h2]
    have hown:Own w g.Fz (kk+1) (g.ν n) (.slc inf.size rows) (g.F n):=hi.obj n _ ho
    cases hx with|sv _ _ _ _ len cap a a1 hn ev hle1 hle2 hle3 h4 h5 h6=>?_
    obtain ⟨a',cap',ev',hne⟩:=qQ hown
    rw [ev] at ev'
    cases ev'
    have hne':rows≠[]:=by intro hr;subst hr;simp at hle2;omega
    obtain ⟨_,b,q,rfl⟩:=hne hne'
    have haddr:a1=some (at_ b (q+lo*inf.size)):=by
     rw [h4 (by omega)];simp [pF]
    rw [haddr]
    refine .quiet hi (sI ht hinf h0 (by omega)) (.elt n ver [] (lo+i.toNat) 0 _ hn ⟨_,_,rfl⟩ fun ver' k' sz' rows' hh=>?_)
    rw [ho] at hh
    cases hh
    refine ⟨Nat.le_refl _,fun _=>⟨inf.size,rows,b,q,rows.length,cap,rfl,by rw [ev];rfl,?_⟩⟩
    simp [Nat.add_mul,Nat.add_assoc]
   ·exact h2.fail.elim
  ·exact h2.fail.elim
 ·rename_i n ver p
  obtain ⟨o,ho,h⟩:=h.rh
  split at h
  ·rename_i ver' kk sz rows
   split at h
   ·rename_i hv
    subst hv
    split at h
    ·rename_i sz' rows' hrows
     split at h
     ·rename_i hsz
      subst hsz
      obtain ⟨h0,h1,h⟩:=aBr h
      rw [cG h]
      have hown:Own w g.Fz (kk+1) (g.ν n) (.slc sz rows) (g.F n):=hi.obj n _ ho
      cases hx with|inn _ _ _ _ hn hone he=>?_
      have hh1:=(he _ _ _ _ ho).2 rfl
      obtain ⟨S',ho',_⟩:=aEz p _ _ _ _ _ _ _ _ hown hh1 hrows
      obtain ⟨a,cap,rfl,hne⟩:=qQ ho'
      have hne':rows'≠[]:=by intro hr;subst hr;simp at h1;omega
      obtain ⟨_,b,q,rfl⟩:=hne hne'
      refine .quiet hi (sI ht hinf h0 h1) (.elt n ver p i.toNat 0 _ hn ⟨_,_,rfl⟩ fun ver2 k2 sz2 rows2 hh=>?_)
      rw [ho] at hh
      cases hh
      exact ⟨Nat.le_refl _,fun _=>⟨inf.size,rows',b,q,rows'.length,cap,hrows,hh1,by simp⟩⟩
     ·exact h.fail.elim
    ·exact h.fail.elim
   ·exact h.fail.elim
  ·exact h.fail.elim
 ·exact h.fail.elim
theorem aTa (hi:fB c g e.h w) {t:TypeId} {x:A} {v:Value} {k:IntKind} {i:Int} {wr:Wr} (ht:P.underlying t=some .string)
  (hx:RA g e.h w x v) (h:Out e (aNW x i) wr):mL P c g e.h w base (Instr.index t v (.int k i)) wr:=by
 unfold aNW at h
 split at h
 ·rename_i s
  obtain ⟨h0,h1,h⟩:=aBr h
  rw [hx.str_inv,cG h]
  refine .quiet hi ?_ .of_int
  have hlt:i.toNat<s.length:=by omega
  have hb:(⟨s.toArray⟩:ByteArray)[i.toNat]?=some (s.getD i.toNat 0):=by
   have:(⟨s.toArray⟩:ByteArray)[i.toNat]?=s[i.toNat]?:=by
    rw [getElem?_def,getElem?_def]
    simp only [ByteArray.size,List.size_toArray]
    split<;>rfl
   rw [this]
   simp [List.getD,List.getElem?_eq_getElem hlt]
  simp only [Instr.index,asIntOf,Sem.run_bind,Sem.run_pure,Result.andThen_ok,run_underlying ht,if_pos h0,hb]
 ·exact h.fail.elim
theorem aUb (hi:fB c g e.h w) {mx:Bool} {t:Array TypeId} {ty:TypeId} {x y:A} {v u:Value} {wr:Wr} (hx:RA g e.h w x v) (hy:RA g e.h w y u)
  (h:Out e (mmA mx x y) wr):mL P c g e.h w base (if mx then Builtin.max_ t ty #[v,u] else Builtin.min_ t ty #[v,u]) wr:=by
 unfold mmA at h
 split at h
 ·rename_i k m k' n
  rw [hx.int_inv,hy.int_inv,cG h]
  cases mx
  ·exact .quiet hi (by simp [Builtin.min_,Builtin.min2]) .of_int
  ·exact .quiet hi (by simp [Builtin.max_,Builtin.max2]) .of_int
 ·exact h.fail.elim
theorem aU9 (hi:fB c g e.h w) {t ty:TypeId} {str:Bool} {x:A} {v:Value} {wr:Wr} (ht:if str then P.underlying t=some .string else ∃ el,P.underlying t=some (.slice el))
  (hx:RA g e.h w x v) (h:Out e (aTt str x) wr):mL P c g e.h w base (Builtin.len_ #[t] ty #[v]) wr:=by
 have key:∀ a n cap el,P.underlying t=some (.slice el)->(Builtin.len_ #[t] ty #[.slice a n cap]).run P w=.ok (.int .i64 n) w:=by
  intro a n cap el hu
  simp [Builtin.len_,run_underlying hu,goInt]
 unfold aTt at h
 split at h
 ·rename_i s
  have hu:P.underlying t=some .string:=ht
  rw [hx.str_inv,cG h]
  have hsz:(⟨s.toArray⟩:ByteArray).size=s.length:=by show s.toArray.size=s.length;simp
  exact .quiet hi (by simp [Builtin.len_,run_underlying hu,goInt,hsz]) .of_int
 ·exact h.fail.elim
 ·obtain ⟨el,hu⟩:∃ el,P.underlying t=some (.slice el):=by simpa using ht
  split at h
  ·rename_i sz rows
   rw [cG h]
   cases hx with|d _ _ hs=>?_
   cases hs with
   |emp a cap=>exact .quiet hi (key a 0 cap el hu) .of_int
   |slc b o cap _ _ vs hr hcap hc hs=>exact .quiet hi (key _ _ cap el hu) .of_int
  ·rw [cG h]
   cases hx
   exact .quiet hi (key none 0 0 el hu) .of_int
  ·rename_i n
   obtain ⟨o,ho,h⟩:=h.rh
   split at h
   ·rename_i ver kk sz rows
    rw [cG h]
    have hown:Own w g.Fz (kk+1) (g.ν n) (.slc sz rows) (g.F n):=hi.obj n _ ho
    cases hx with|sl _ hn hone1=>?_
    obtain ⟨a,cap,ev,hne⟩:=qQ hown
    rw [ev]
    exact .quiet hi (key a _ cap el hu) .of_int
   ·exact h.fail.elim
  ·rename_i n sz lo hi'
   rw [cG h]
   cases hx with|sv _ _ _ _ len cap a a1 hn ev hle1 hle2 hle3 h4 h5 h6=>?_
   exact .quiet hi (key _ _ _ el hu) .of_int
  ·rename_i n ver p
   obtain ⟨o,ho,h⟩:=h.rh
   split at h
   ·rename_i ver' kk sz rows
    split at h
    ·rename_i hv
     subst hv
     split at h
     ·rename_i sz' rows' hrows
      rw [cG h]
      have hown:Own w g.Fz (kk+1) (g.ν n) (.slc sz rows) (g.F n):=hi.obj n _ ho
      cases hx with|inn _ _ _ _ hn hone he=>?_
      have hh1:=(he _ _ _ _ ho).2 rfl
      obtain ⟨S',ho',_⟩:=aEz p _ _ _ _ _ _ _ _ hown hh1 hrows
      obtain ⟨a,cap,rfl,hne⟩:=qQ ho'
      exact .quiet hi (key a _ cap el hu) .of_int
     ·exact h.fail.elim
    ·exact h.fail.elim
   ·exact h.fail.elim
  ·exact h.fail.elim
end
def aXv (g:Gh) (h:Nat->Option O):bK:=fun b o=>g.Fz b o\/∃ n ob,h n=some ob/\g.F n b o
theorem aG9 {rows:List (List D)} {sz:Nat} (h:∀ row,row∈rows->row.length=sz):∀ lo,lo<=rows.length->(rows.drop lo).flatten=rows.flatten.drop (lo*sz):=by
 induction rows with
 |nil=>intro lo _;simp
 |cons r rs ih=>
  intro lo hlo
  cases lo with
  |zero=>simp
  |succ lo=>
   have hr:=h r (by simp)
   simp only [List.drop_succ_cons,List.flatten_cons]
   rw [ih (fun row hrow=>h row (by simp [hrow])) lo (by simpa using hlo),List.drop_append]
   have e1:(lo+1)*sz-r.length=lo*sz:=by rw [hr,Nat.add_mul];omega
   have e2:r.drop ((lo+1)*sz)=[]:=List.drop_eq_nil_of_le (by rw [hr,Nat.add_mul];omega)
   rw [e1,e2,List.nil_append]
theorem aG7 {rows:List (List D)} {sz:Nat} (h:∀ row,row∈rows->row.length=sz):∀ hi,hi<=rows.length->(rows.take hi).flatten=rows.flatten.take (hi*sz):=by
 induction rows with
 |nil=>intro hi _;simp
 |cons r rs ih=>
  intro hi hhi
  cases hi with
  |zero=>simp
  |succ hi=>
   have hr:=h r (by simp)
   simp only [List.take_succ_cons,List.flatten_cons]
   rw [ih (fun row hrow=>h row (by simp [hrow])) hi (by simpa using hhi),List.take_append]
   have e1:(hi+1)*sz-r.length=hi*sz:=by rw [hr,Nat.add_mul];omega
   have e2:r.take ((hi+1)*sz)=r:=List.take_of_length_le (by rw [hr,Nat.add_mul];omega)
   rw [e1,e2]
theorem Shr.sub {w:World} {Fz:bK} {a:Option Addr} {len cap sz lo hi:Nat} {rows:List (List D)} (h:Shr w Fz (.slice a len cap) (.slc sz rows)) (h1:lo<=hi) (h2:hi<=rows.length):
  Shr w Fz (.slice (if cap=lo then a else a.map (·.add (lo*sz))) (hi-lo) (cap-lo)) (.slc sz ((rows.take hi).drop lo)):=by
 cases h with
 |emp=>
  simp only [List.length_nil,Nat.le_zero_eq] at h2
  subst h2
  have:lo=0:=by omega
  subst this
  simp only [List.take_nil,List.drop_nil]
  exact .emp _ _ _
 |slc b off _ _ _ vs hr hcap hc hs=>
  by_cases hlo:lo=hi
  ·subst hlo
   have:(rows.take lo).drop lo=[]:=by simp
   rw [this,Nat.sub_self]
   exact .emp _ _ _
  ·have hne:¬cap=lo:=by omega
   rw [if_neg hne]
   simp only [Option.map_some,pF]
   have hl:((rows.take hi).drop lo).length=hi-lo:=by simp;omega
   have hflat:((rows.take hi).drop lo).flatten=(rows.flatten.take (hi*sz)).drop (lo*sz):=by
    rw [aG9 (sz:=sz) (fun row hrow=>hr row (List.mem_of_mem_take hrow)) lo (by simp;omega),aG7 hr hi h2]
   have hget:∀ m d,((rows.take hi).drop lo).flatten[m]?=some d->rows.flatten[lo*sz+m]?=some d:=by
    intro m d hm
    rw [hflat,List.getElem?_drop,List.getElem?_take] at hm
    split at hm
    ·exact hm
    ·cases hm
   have:=Shr.slc (w:=w) (Fz:=Fz) b (off+lo*sz) (cap-lo) sz ((rows.take hi).drop lo) (fun m=>vs (lo*sz+m)) (fun row hrow=>hr row (List.mem_of_mem_take (List.mem_of_mem_drop hrow))) (by omega)
    (fun m d hm=>by rw [Nat.add_assoc];exact hc _ _ (hget m d hm)) (fun m d hm=>hs _ _ (hget m d hm))
   rw [hl] at this
   exact this
section
variable {c:Ctx} {g:Gh} {w:World} {e:Env}
theorem oY (hi:fB c g e.h w):∀ (f:Nat) (a:A) (v:Value) (d:D×List Nat) (Z:bK),RA g e.h w a v->Out e (mC f a) d->(∀ b o,g.Fz b o->Z b o) →
  (∀ n,n∈d.2->∀ b o,g.F n b o->Z b o)->Shr w Z v d.1/\∀ n,n∈d.2->∃ ob,e.h n=some ob:=by
 have harr:∀ (Z:bK) n ver k sz rows,(∀ b o,g.Fz b o->Z b o)->(∀ b o,g.F n b o->Z b o)->e.h n=some (.arr ver k sz rows)->Shr w Z (g.ν n) (.slc sz rows):=by
  intro Z n ver k sz rows h1 h2 ho
  exact Own.shr h1 (k+1) h2 (hi.obj n _ ho)
 have hbase:∀ (f:Nat) (a:A) (v:Value) (d:D×List Nat) (Z:bK),(∀ q caps,a≠.clo q caps)->RA g e.h w a v->Out e (mC f a) d->(∀ b o,g.Fz b o->Z b o) →
   (∀ n,n∈d.2->∀ b o,g.F n b o->Z b o)->Shr w Z v d.1/\∀ n,n∈d.2->∃ ob,e.h n=some ob:=by
  intro f a v d Z hne hx h hz hZ
  cases a with
  |d x=>
   have h':Out e (.ret (x,[])) d:=by unfold mC at h;exact h
   have:=h'.ret
   subst this
   cases hx with|d _ _ hs=>exact ⟨hs.mono (fun _ _ _=>rfl) hz,fun n hn=>by simp at hn⟩
  |nil k sz=>
   have h':Out e (.ret (.slc sz [],[])) d:=by unfold mC at h;exact h
   have:=h'.ret
   subst this
   cases hx
   exact ⟨.emp _ _ _,fun n hn=>by simp at hn⟩
  |sl n=>
   unfold mC at h
   obtain ⟨o,ho,h⟩:=h.rh
   split at h
   ·have:=h.ret
    subst this
    cases hx
    exact ⟨harr Z n _ _ _ _ hz (hZ n (by simp)) ho,fun q hq=>by simp at hq;subst hq;exact ⟨_,ho⟩⟩
   ·exact h.fail.elim
  |sv n sz lo hi'=>
   unfold mC at h
   obtain ⟨o,ho,h⟩:=h.rh
   split at h
   ·rename_i ver k sz' rows
    split at h
    ·rename_i hsz
     subst hsz
     have:=h.ret
     subst this
     cases hx with|sv _ _ _ _ len cap a a1 hn ev h1 h2 h3 h4 h5 h6=>?_
     have hs:=harr Z n _ _ _ _ hz (hZ n (by simp)) ho
     have hlen:len=rows.length:=by
      obtain ⟨a',cap',ev',_⟩:=qQ (hi.obj n _ ho:Own w g.Fz (k+1) (g.ν n) (.slc sz rows) (g.F n))
      rw [ev] at ev';cases ev';rfl
     rw [ev] at hs
     have hs':=hs.sub h1 (by omega)
     refine ⟨?_,fun q hq=>by simp at hq;subst hq;exact ⟨_,ho⟩⟩
     by_cases hlo:cap=lo
     ·have:hi'=lo:=by omega
      subst this
      have e0:(rows.take hi').drop hi'=[]:=by simp
      rw [e0,Nat.sub_self]
      exact .emp _ _ _
     ·rw [if_neg hlo] at hs'
      rw [h4 (by omega)]
      exact hs'
    ·exact h.fail.elim
   ·exact h.fail.elim
  |inn n ver p=>
   unfold mC at h
   obtain ⟨o,ho,h⟩:=h.rh
   split at h
   ·rename_i ver' k sz rows
    split at h
    ·rename_i hv
     subst hv
     split at h
     ·rename_i sz' rows' hrows
      have:=h.ret
      subst this
      cases hx with|inn _ _ _ _ hn hone he=>?_
      have hh1:=(he _ _ _ _ ho).2 rfl
      have hown:Own w g.Fz (k+1) (g.ν n) (.slc sz rows) (g.F n):=hi.obj n _ ho
      obtain ⟨S',ho',hS⟩:=aEz p _ _ _ _ _ _ _ _ hown hh1 hrows
      exact ⟨Own.shr hz _ (fun b o h=>hZ n (by simp) b o (hS b o h)) ho',fun q hq=>by simp at hq;subst hq;exact ⟨_,ho⟩⟩
     ·exact h.fail.elim
    ·exact h.fail.elim
   ·exact h.fail.elim
  |clo q caps=>exact absurd rfl (hne q caps)
  |_=>cases f<;>exact h.fail.elim
 intro f
 induction f with
 |zero=>
  intro a v d Z hx h hz hZ
  by_cases hne:∀ q caps,a≠.clo q caps
  ·exact hbase 0 a v d Z hne hx h hz hZ
  ·cases a with
   |clo q caps=>exact h.fail.elim
   |_=>exact absurd (by intro q caps h;cases h) hne
 |succ f ih=>
  intro a v d Z hx h hz hZ
  cases a with
  |clo q caps=>
   unfold mC at h
   obtain ⟨rows,h1,h2⟩:=Out.bind h
   have:=h2.ret
   subst this
   obtain ⟨hl,hget⟩:=h1.mapM
   cases hx with|clo _ _ vs hvs hc=>?_
   have key:∀ (i:Nat) (row:List D×List Nat),rows[i]?=some row->(∀ n,n∈row.2->∃ ob,e.h n=some ob)/\∃ b q,vs[i]?=some (.pointer (some (at_ b q)))/\∀ (m:Nat) d,row.1[m]?=some d->∃ u,w.cell? (at_ b (q+m))=some u/\Z b (q+m)/\Shr w Z u d:=by
    intro i row hrow
    have hilt:=(List.getElem?_eq_some_iff.1 hrow).1
    have hZrow:∀ n,n∈row.2->∀ b o,g.F n b o->Z b o:=fun n hn=>hZ n (List.mem_flatten.2 ⟨row.2,List.mem_map.2 ⟨row,List.mem_of_getElem? hrow,rfl⟩,hn⟩)
    obtain ⟨a,ha⟩:∃ a,caps[i]?=some a:=⟨_,List.getElem?_eq_getElem (by omega)⟩
    have hra:=hc i a ha
    have hv:vs[i]?=some (vs.getD i Go.undef):=by
     have:i<vs.size:=by omega
     simp [Array.getD_eq_getD_getElem?,this]
    have ho:=hget i a row ha hrow
    generalize hveq:vs.getD i Go.undef=vv at hra
    split at ho
    ·rename_i n
     obtain ⟨o,hob,ho⟩:=ho.rh
     split at ho
     ·rename_i cells
      obtain ⟨ds,ho1,ho2⟩:=Out.bind ho
      have:=ho2.ret
      subst this
      obtain ⟨hl2,hget2⟩:=ho1.mapM
      obtain ⟨b,q,hν,hr,hF,hcell⟩:=hi.obj n _ hob
      cases hra with|ptr _ _ b' q' hn hν'=>?_
      rw [hν] at hν'
      cases hν'
      have hds:∀ (m:Nat) d,ds[m]?=some d->∃ u,w.cell? (at_ b (q+m))=some u/\Z b (q+m)/\Shr w Z u d.1/\∀ n',n'∈d.2->∃ ob,e.h n'=some ob:=by
       intro m d hm
       have hmlt:=(List.getElem?_eq_some_iff.1 hm).1
       obtain ⟨a',ha'⟩:∃ a',cells[m]?=some a':=⟨_,List.getElem?_eq_getElem (by omega)⟩
       obtain ⟨u,hu,hone,hra'⟩:=hcell m a' ha'
       have hr':=ih a' u d Z hra' (hget2 m a' d ha' hm) hz (fun n' hn'=>hZrow n' (List.mem_cons_of_mem _ (List.mem_flatten.2 ⟨d.2,List.mem_map.2 ⟨d,List.mem_of_getElem? hm,rfl⟩,hn'⟩)))
       exact ⟨u,hu,hZrow n (by simp) _ _ ((hF _ _).2 ⟨rfl,by omega,by omega⟩),hr'.1,hr'.2⟩
      refine ⟨fun n' hn'=>?_,b,q,by rw [hv,hveq];rfl,fun m d hm=>?_⟩
      ·rcases List.mem_cons.1 hn' with rfl|hn'
       ·exact ⟨_,hob⟩
       ·obtain ⟨l,hl',hn'⟩:=List.mem_flatten.1 hn'
        obtain ⟨d,hd,rfl⟩:=List.mem_map.1 hl'
        obtain ⟨m,hm,rfl⟩:=List.getElem_of_mem hd
        obtain ⟨u,_,_,_,h5⟩:=hds m _ (List.getElem?_eq_getElem hm)
        exact h5 n' hn'
      ·simp only [List.getElem?_map] at hm
       cases hd:ds[m]? with
       |none=>simp [hd] at hm
       |some d'=>
        simp only [hd,Option.map_some,Option.some.injEq] at hm
        subst hm
        obtain ⟨u,h3,h4,h5,_⟩:=hds m d' hd
        exact ⟨u,h3,h4,h5⟩
     ·exact ho.fail.elim
    ·rename_i row'
     have:=ho.ret
     subst this
     cases hra with|rp _ _ b q vs' hc' hs'=>?_
     exact ⟨fun n hn=>by simp at hn,b,q,by rw [hv,hveq];rfl,fun m d hm=>⟨vs' m,(hc' m d hm).1,hz _ _ (hc' m d hm).2,(hs' m d hm).mono (fun _ _ _=>rfl) hz⟩⟩
    ·exact ho.fail.elim
   have hrow':∀ (i:Nat) (row:List D),(rows.map (·.1))[i]?=some row->∃ row',rows[i]?=some row'/\row=row'.1:=by
    intro i row h
    simp only [List.getElem?_map] at h
    cases hd:rows[i]? with
    |none=>simp [hd] at h
    |some r=>simp only [hd,Option.map_some,Option.some.injEq] at h;exact ⟨r,rfl,h.symm⟩
   let B:Nat->Nat:=fun i=>match vs[i]? with|some (.pointer (some a))=>a.block|_=>0
   let Q:Nat->Nat:=fun i=>match vs[i]? with|some (.pointer (some a))=>a.off|_=>0
   refine ⟨Shr.fn q (rows.map (·.1)) vs B Q (fun i m=>(w.cell? (at_ (B i) (Q i+m))).getD Go.undef) (by simp;omega) ?_ ?_ ?_,?_⟩
   ·intro i row hrow
    obtain ⟨row',hr,rfl⟩:=hrow' i row hrow
    obtain ⟨_,b,q,hv,_⟩:=key i row' hr
    simp only [B,Q,hv]
   ·intro i row m d hrow hm
    obtain ⟨row',hr,rfl⟩:=hrow' i row hrow
    obtain ⟨_,b,q,hv,hcell⟩:=key i row' hr
    obtain ⟨u,hu,hF,hs⟩:=hcell m d hm
    simp only [B,Q,hv]
    exact ⟨by rw [hu];rfl,hF⟩
   ·intro i row m d hrow hm
    obtain ⟨row',hr,rfl⟩:=hrow' i row hrow
    obtain ⟨_,b,q,hv,hcell⟩:=key i row' hr
    obtain ⟨u,hu,hF,hs⟩:=hcell m d hm
    simp only [B,Q,hv,hu,Option.getD_some]
    exact hs
   ·intro n hn
    obtain ⟨l,hl',hn⟩:=List.mem_flatten.1 hn
    obtain ⟨row,hrow,rfl⟩:=List.mem_map.1 hl'
    obtain ⟨i,hi',rfl⟩:=List.getElem_of_mem hrow
    exact (key i _ (List.getElem?_eq_getElem hi')).1 n hn
  |_=>exact hbase (f+1) _ v d Z (by intro q caps h;cases h) hx h hz hZ
end
section
variable {P:Program} {c:Ctx} {g:Gh} {w:World} {base:Nat} {e:Env}
inductive aCa:Option Value->Option Int->Prop
 |none:aCa none none
 |some (k:IntKind) (n:Int):aCa (some (.int k n)) (some n)
theorem aEm {isSlice:Bool} {len cap:Nat} {vl vh:Option Value} {lo hi:Option Int} (hl:aCa vl lo) (hh:aCa vh hi)
  (h0:0<=lo.getD 0) (h1:lo.getD 0<=hi.getD len) (h2:hi.getD len<=cap):
  (Instr.sliceBounds isSlice len cap vl vh none).run P w=.ok ((lo.getD 0).toNat,(hi.getD len).toNat,cap) w:=by
 cases hl<;>cases hh<;>simp only [Option.getD_some,Option.getD_none] at h0 h1 h2 <;>
  simp only [Instr.sliceBounds,Instr.sliceBound,asIntOf,Sem.run_bind,Sem.run_pure,Result.andThen_ok,Option.getD_some,Option.getD_none]
 ·simp
 ·rw [if_pos ⟨by omega,by omega⟩];simp
 ·rw [if_pos ⟨by omega,by omega⟩];simp
 ·rw [if_pos ⟨by omega,by omega⟩]
  simp only [Sem.run_pure,Result.andThen_ok]
  rw [if_pos ⟨by omega,by omega⟩];simp
theorem aOW (hi0:fB c g e.h w) {t:TypeId} {x:A} {v:Value} {vl vh:Option Value} {lo hi:Option Int} {wr:Wr} (ht:P.underlying t=some .string) (hl:aCa vl lo) (hh:aCa vh hi)
  (hx:RA g e.h w x v) (h:Out e (aDP x lo hi) wr):mL P c g e.h w base (Instr.sliceAt t v vl vh none) wr:=by
 unfold aDP at h
 split at h
 ·rename_i s
  obtain ⟨⟨h0,h1,h2⟩,h⟩:=h.need
  rw [hx.str_inv,cG h]
  have hsz:(⟨s.toArray⟩:ByteArray).size=s.length:=by show s.toArray.size=s.length;simp
  refine .quiet (v:=.string ((⟨s.toArray⟩:ByteArray).extract (lo.getD 0).toNat (hi.getD s.length).toNat)) hi0 ?_ ?_
  ·simp only [Instr.sliceAt,Sem.run_bind,run_underlying ht,Result.andThen_ok,Instr.slice,Option.isSome_none,Bool.false_eq_true,if_false,Sem.run_pure,hsz]
   have:=aEm (P:=P) (w:=w) (isSlice:=false) (len:=s.length) (cap:=s.length) hl hh h0 h1 h2
   simp [this]
  ·have he:(⟨s.toArray⟩:ByteArray).extract (lo.getD 0).toNat (hi.getD s.length).toNat=⟨((s.take (hi.getD s.length).toNat).drop (lo.getD 0).toNat).toArray⟩:=by
    apply ByteArray.ext
    simp [ByteArray.data_extract,List.extract_eq_take_drop,List.drop_take]
   rw [he]
   exact .of_str
 ·exact h.fail.elim
theorem aOX (hi0:fB c g e.h w) {t el:TypeId} {inf:TypeInfo} {x:A} {v:Value} {vl vh:Option Value} {lo hi:Option Int} {wr:Wr} (ht:P.underlying t=some (.slice el)) (hinf:P.info? el=some inf)
  (hl:aCa vl lo) (hh:aCa vh hi) (hx:RA g e.h w x v) (h:Out e (aDQ inf.size x lo hi) wr):mL P c g e.h w base (Instr.sliceAt t v vl vh none) wr:=by
 have key:∀ (a:Option Addr) (len cap:Nat),0<=lo.getD 0->lo.getD 0<=hi.getD len->hi.getD len<=cap →
   (Instr.sliceAt t (.slice a len cap) vl vh none).run P w=.ok (.slice (if cap=(lo.getD 0).toNat then a else a.map (·.add ((lo.getD 0).toNat*inf.size))) ((hi.getD len).toNat-(lo.getD 0).toNat) (cap-(lo.getD 0).toNat)) w:=by
  intro a len cap h0 h1 h2
  have:=aEm (P:=P) (w:=w) (isSlice:=true) (len:=len) (cap:=cap) hl hh h0 h1 h2
  simp only [Instr.sliceAt,Sem.run_bind,run_underlying ht,Result.andThen_ok,Instr.slice,this,sizeOf,typeInfo,run_program,hinf,Sem.run_pure]
 unfold aDQ at h
 split at h
 ·rename_i sz rows
  split at h
  ·rename_i hsz
   subst hsz
   obtain ⟨⟨h0,h1,h2⟩,h⟩:=h.need
   rw [cG h]
   cases hx with|d _ _ hs=>?_
   obtain ⟨a,cap,rfl,hcap⟩:∃ a cap,v=.slice a rows.length cap/\(rows≠[]->rows.length<=cap):=by
    cases hs with
    |emp a cap=>exact ⟨a,cap,rfl,fun h=>absurd rfl h⟩
    |slc b o cap _ _ vs hr hcap hc hs=>exact ⟨_,cap,rfl,fun _=>hcap⟩
   have hcap':hi.getD rows.length<=cap:=by
    by_cases hr:rows=[]
    ·subst hr
     simp only [List.length_nil] at h2 ⊢
     omega
    ·have:=hcap hr;omega
   refine .quiet hi0 (key a _ cap h0 h1 hcap') (.d _ _ ?_)
   exact hs.sub (by omega) (by omega)
  ·exact h.fail.elim
 ·rename_i n
  obtain ⟨o,ho,h2⟩:=h.rh
  split at h2
  ·rename_i ver kk sz rows
   split at h2
   ·rename_i hsz
    subst hsz
    obtain ⟨⟨h0,h1,h3⟩,h2⟩:=h2.need
    rw [cG h2]
    have hown:Own w g.Fz (kk+1) (g.ν n) (.slc inf.size rows) (g.F n):=hi0.obj n _ ho
    cases hx with|sl _ hn hone1=>?_
    obtain ⟨a,cap,ev,hne⟩:=qQ hown
    have hcap:rows.length<=cap:=by
     rcases hown with ⟨e1,e2,_⟩|⟨_,_,_,_,e1,h1',_⟩
     ·subst e2;simp
     ·rw [ev] at e1;cases e1;exact h1'
    rw [ev]
    refine .quiet hi0 (key a _ cap h0 h1 (by omega)) ?_
    have ha:a=none\/∃ b o,a=some (at_ b o):=by
     rcases hown with ⟨e1,_⟩|⟨b,o,_,_,e1,_⟩
     ·rw [ev] at e1;injection e1 with e1;exact .inl e1
     ·rw [ev] at e1;injection e1 with e1;exact .inr ⟨b,o,e1⟩
    refine .sv n inf.size _ _ rows.length cap a _ hn ev (by omega) (by omega) (by omega) (fun hc=>by rw [if_neg (by omega)]) (fun hc=>by rw [if_pos hc];exact ha) ha
   ·exact h2.fail.elim
  ·exact h2.fail.elim
 ·rename_i n sz a b
  split at h
  ·rename_i hsz
   subst hsz
   obtain ⟨⟨h0,h1,h2⟩,h⟩:=h.need
   rw [cG h]
   cases hx with|sv _ _ _ _ len cap q q1 hn ev h3 h4 h5 h6 h7 h8=>?_
   refine .quiet hi0 (key q1 _ _ h0 h1 (by omega)) ?_
   have e1:(hi.getD ((b-a:Nat):Int)).toNat-(lo.getD 0).toNat=(a+(hi.getD ((b-a:Nat):Int)).toNat)-(a+(lo.getD 0).toNat):=by omega
   have e2:cap-a-(lo.getD 0).toNat=cap-(a+(lo.getD 0).toNat):=by omega
   have hq1:q1=none\/∃ b o,q1=some (at_ b o):=by
    by_cases hca:cap=a
    ·exact h7 hca
    ·rw [h6 (by omega)]
     rcases h8 with rfl|⟨b',o',rfl⟩
     ·exact .inl rfl
     ·exact .inr ⟨b',o'+a*inf.size,by simp only [Option.map_some,pF]⟩
   rw [e1,e2]
   refine .sv n inf.size _ _ len cap q _ hn ev (by omega) (by omega) (by omega) ?_ ?_ h8
   ·intro hc
    rw [if_neg (by omega),h6 (by omega)]
    rcases h8 with rfl|⟨b',o',rfl⟩
    ·rfl
    ·simp only [Option.map_some,pF,Nat.add_mul,Nat.add_assoc]
   ·intro hc
    split
    ·exact hq1
    ·rcases hq1 with rfl|⟨b',o',rfl⟩
     ·exact .inl rfl
     ·exact .inr ⟨b',o'+(lo.getD 0).toNat*inf.size,by simp only [Option.map_some,pF]⟩
  ·exact h.fail.elim
 ·rename_i k sz
  obtain ⟨⟨h0,h1⟩,h⟩:=h.need
  rw [cG h]
  cases hx
  refine .quiet (v:=.slice none 0 0) hi0 ?_ (.nil _ _)
  have:=key none 0 0 (by omega) (by simp only [Int.ofNat_zero];omega) (by simp only [Int.ofNat_zero];omega)
  rw [this]
  have e1:(lo.getD 0).toNat=0:=by omega
  have e2:(hi.getD ((0:Nat):Int)).toNat=0:=by simp only [Int.ofNat_zero];omega
  rw [e1,e2]
  simp
 ·exact h.fail.elim
theorem aS8 {x:A} {v:Value} {wr:Wr} (hx:RA g e.h w x v) (h:Out e (aNI x) wr):wr={ val:=x }/\((∃ a,v=.pointer (some a))\/∃ f cs,v=.func (.func f) #[] cs):=by
 unfold aNI at h
 split at h
 ·rw [cG h];cases hx with|ptr _ _ b o=>exact ⟨rfl,.inl ⟨_,rfl⟩⟩
 ·rw [cG h];cases hx with|rp _ _ b o=>exact ⟨rfl,.inl ⟨_,rfl⟩⟩
 ·rw [cG h];obtain ⟨_,⟨b,q,rfl⟩,_⟩:=hx.elt_inv;exact ⟨rfl,.inl ⟨_,rfl⟩⟩
 ·rw [cG h];cases hx with|d _ _ hs=>cases hs;exact ⟨rfl,.inr ⟨_,_,rfl⟩⟩
 ·rw [cG h];cases hx;exact ⟨rfl,.inr ⟨_,_,rfl⟩⟩
 ·exact h.fail.elim
theorem Shr.slc_inv {w:World} {Fz:bK} {v:Value} {sz:Nat} {rows:List (List D)} (h:Shr w Fz v (.slc sz rows)):
  (rows=[]/\∃ a cap,v=.slice a 0 cap)\/∃ (b off cap:Nat) (vs:Nat->Value),v=.slice (some (at_ b off)) rows.length cap/\(∀ row,row∈rows->row.length=sz)/\rows.length<=cap ∧
   (∀ (m:Nat) d,rows.flatten[m]?=some d->w.cell? (at_ b (off+m))=some (vs m)/\Fz b (off+m))/\∀ (m:Nat) d,rows.flatten[m]?=some d->Shr w Fz (vs m) d:=by
 cases h with
 |emp a cap=>exact .inl ⟨rfl,a,cap,rfl⟩
 |slc b off cap _ _ vs hr hcap hc hs=>exact .inr ⟨b,off,cap,vs,rfl,hr,hcap,hc,hs⟩
theorem aMA:∀ (rows:List (List D)) (l:List UInt8),sK rows=some l->∃ ns:List Int,rows=ns.map (fun n=>[D.int .u8 n])/\l=ns.map fun n=>UInt8.ofNat n.toNat:=by
 intro rows
 induction rows with
 |nil=>intro l h;simp only [sK,Option.some.injEq] at h;subst h;exact ⟨[],rfl,rfl⟩
 |cons r rs ih=>
  intro l h
  unfold sK at h
  split at h
  ·rename_i he;cases he
  ·rename_i n r' he
   cases he
   cases hb:sK rs with
   |none=>simp [hb] at h
   |some l'=>
    simp only [hb,Option.map_some,Option.some.injEq] at h
    subst h
    obtain ⟨ns,rfl,rfl⟩:=ih l' hb
    exact ⟨n::ns,rfl,rfl⟩
  ·cases h
theorem aLu (ns:List Int):(ns.map (fun n=>[D.int .u8 n])).flatten=ns.map (D.int .u8):=by
 induction ns with
 |nil=>rfl
 |cons n ns ih=>simp [ih]
theorem aVf (hi:fB c g e.h w) {s d el:TypeId} {x:A} {v:Value} {wr:Wr} (hs:P.underlying s=some (.slice el)) (hel:P.underlying el=some (.int .u8)) (hd:P.underlying d=some .string)
  (hx:RA g e.h w x v) (h:Out e ((mC 0 x).bind fun p=>aKr p.1) wr):mL P c g e.h w base (convert s d v) wr:=by
 obtain ⟨y,h1,h2⟩:=h.bind
 have hsh:=(oY hi 0 x v y (aXv g e.h) hx h1 (fun _ _ h=>.inl h) (fun n hn b o hF=>.inr (by
  cases hn':e.h n with
  |some ob=>exact ⟨n,ob,hn',hF⟩
  |none=>
   have:=(oY hi 0 x v y (fun _ _=>True) hx h1 (fun _ _ _=>trivial) (fun _ _ _ _ _=>trivial)).2 n hn
   rw [hn'] at this
   obtain ⟨ob,hob⟩:=this
   cases hob))).1
 obtain ⟨y,ys⟩:=y
 simp only at hsh h2
 unfold aKr at h2
 split at h2
 ·rename_i sz rows
  split at h2
  ·rename_i he
   rw [cG h2]
   have:rows=[]:=by simpa using he
   subst this
   cases hsh with
   |slc b o cap _ _ vs hr hcap hc hs'=>
    have:=run_convert_bytes_arg (P:=P) w s el hs hel b o 0 cap [] rfl (fun i hi=>absurd hi (by omega)) d hd
    exact .quiet (v:=.string ⟨([]:List UInt8).toArray⟩) hi (by simpa [strOfNums] using this) .of_str
   |emp a cap=>
    refine .quiet (v:=.string ⟨([]:List UInt8).toArray⟩) hi ?_ .of_str
    cases a with
    |none=>simp [convert,run_underlying hs,run_underlying hd,run_underlying hel,Conv.bytesToString];rfl
    |some a=>simp [convert,run_underlying hs,run_underlying hd,run_underlying hel,Conv.bytesToString,loadCells,loadCellsFrom];rfl
  ·rename_i hne
   split at h2
   ·rename_i hsz
    subst hsz
    split at h2
    ·rename_i l hl
     rw [cG h2]
     obtain ⟨ns,rfl,rfl⟩:=aMA rows l hl
     rcases hsh.slc_inv with ⟨he,_⟩|⟨b,o,cap,vs,rfl,hr,hcap,hc,hs'⟩
     ·rw [he] at hne;simp at hne
     ·refine .quiet (v:=.string ⟨(ns.map fun n=>UInt8.ofNat n.toNat).toArray⟩) hi ?_ .of_str
      have hcells:∀ i,i<ns.length->w.cell? ⟨b,o+i,none⟩=some (.int .u8 (ns.getD i 0)):=by
       intro i hi'
       have hd':(ns.map (fun n=>[D.int .u8 n])).flatten[i]?=some (D.int .u8 (ns.getD i 0)):=by
        rw [aLu];simp [List.getElem?_eq_getElem hi',List.getD]
       have hsn:=hs' i _ hd'
       rw [(hc i _ hd').1]
       generalize vs i=q at hsn
       cases hsn
       rfl
      have:=run_convert_bytes_arg (P:=P) w s el hs hel b o ns.length cap ns rfl hcells d hd
      simpa [strOfNums] using this
    ·exact h2.fail.elim
   ·exact h2.fail.elim
 ·exact h2.fail.elim
end
theorem nV {w w':World} {b:Nat} (h:w'.heap[b]?=w.heap[b]?) (q:Nat):w'.cell? (at_ b q)=w.cell? (at_ b q)/\w'.frz? (at_ b q)=w.frz? (at_ b q):=
 ⟨World.cell?_of_block (a:=at_ b q) h,aPu (a:=at_ b q) h⟩
structure rW (w w':World) (cs:Array Value):Prop where
 side:w'.os=w.os/\w'.output=w.output
 size:w.heap.size<w'.heap.size
 old:∀ b,b<w.heap.size->w'.heap[b]?=w.heap[b]?
 cell:∀ i,w'.cell? (at_ w.heap.size i)=cs[i]?
 frz:∀ i,i<cs.size->w'.frz? (at_ w.heap.size i)=false
theorem rW.alloc (w:World) (cs:Array Value) (t:TypeId):rW w (w.alloc (.cells cs t)) cs:=
 ⟨⟨rfl,rfl⟩,by simp,fun _ hb=>heap_alloc_old w _ hb,fun i=>World.cell?_alloc_new w cs t i,fun i _=>aG6 (cs:=cs) (t:=t) (heap_alloc_new w _) rfl⟩
theorem rW.alloc_drew (w:World) (cs:Array Value) (t:TypeId):rW w (w.drew.alloc (.cells cs t)) cs:=
 ⟨⟨rfl,rfl⟩,by simp,fun _ hb=>heap_alloc_old w.drew _ hb,fun i=>World.cell?_alloc_new w.drew cs t i,fun i _=>aG6 (cs:=cs) (t:=t) (heap_alloc_new w.drew _) rfl⟩
theorem rW.keep {w w':World} {cs:Array Value} (h:rW w w' cs) {b:Nat} (hb:b<w.heap.size) (q:Nat):w'.cell? (at_ b q)=w.cell? (at_ b q)/\w'.frz? (at_ b q)=w.frz? (at_ b q):=
 nV (h.old b hb) q
theorem rW.room {w w':World} {cs:Array Value} (h:rW w w' cs) (q n:Nat) (hq:q+n<=cs.size):wY w' w.heap.size q n:=by
 intro o ho
 have hlt:q+o<cs.size:=by omega
 exact ⟨⟨cs[q+o],by rw [h.cell];simp⟩,h.frz _ hlt⟩
def Gh.add (g:Gh) (n:Nat) (v:Value) (S:bK):Gh where
 ν:=fun m=>if m=n then v else g.ν m
 F:=fun m=>if m=n then S else g.F m
 Fz:=g.Fz
 Nm:=fun m=>g.Nm m\/m=n
section
variable {P:Program} {c:Ctx} {g:Gh} {w:World} {base:Nat} {h:Nat->Option O}
theorem aGu (n:Nat) (o:Option O):eS h [(n,o)]=fun q=>if q=n then o else h q:=rfl
theorem aGR (hi:fB c g h w) (hf:¬g.Nm base) {r:Sem Value} {w':World} {cells:List A} {vs:Array Value} (hnew:rW w w' vs) (hl:vs.size=cells.length)
  (h1:∀ (m:Nat) a,cells[m]?=some a->(vs.getD m Go.undef).oneCell'=true/\RA g h w a (vs.getD m Go.undef))
  (hr:r.run P w=.ok (.pointer (some (at_ w.heap.size 0))) w'):mL P c g h w base r { val:=.ptr base 0,objs:=[(base,some (.box cells))] }:=by
 have hnone:h base=none:=by
  cases hh:h base with
  |none=>rfl
  |some o=>exact absurd (hi.nm base o hh) hf
 have hT:∀ b o,¬Tch g h (fun n=>n=base) b o:=by
  rintro b o ⟨n,ob,rfl,ho,_⟩
  rw [hnone] at ho;grind
 let g':=g.add base (.pointer (some (at_ w.heap.size 0))) (rng w.heap.size 0 cells.length)
 have hstep:=rJ (g':=g') (h':=eS h [(base,some (.box cells))]) (w':=w') hi (fun n=>n=base) hnew.side (Nat.le_of_lt hnew.size)
  (fun n hn=>by
   have hn':n≠base:=hn
   grind [aGu,Gh.add])
  (fun n hn=>.inl hn)
  (fun n hn=>by
   have:n≠base:=fun e=>hf (e ▸ hn)
   grind [Gh.add])
  (fun b hb _=>hnew.old b hb) (fun b o hb _=>hnew.keep hb o) (fun b o hb=>hb) (fun b o hb=>.inl hb)
  (fun n ver k sz rows hn hnm=>absurd (show g.Nm base from hn ▸ hnm) hf)
  (fun x n o hn ho=>by
   have hn':n=base:=hn
   subst hn'
   simp only [aGu,if_pos,Option.some.injEq] at ho
   subst ho
   refine ⟨.inr rfl,w.heap.size,0,by grind [Gh.add],hnew.room 0 _ (by omega),by grind [Gh.add],?_⟩
   intro m a ha
   have hm:=(List.getElem?_eq_some_iff.1 ha).1
   obtain ⟨h2,h3⟩:=h1 m a ha
   refine ⟨vs.getD m Go.undef,?_,h2,h3.ext x⟩
   rw [Nat.zero_add,hnew.cell]
   have:m<vs.size:=by omega
   simp_all)
  (fun n o hn ho x y hxy=>by
   have hn':n=base:=hn
   subst hn'
   simp only [g',Gh.add,if_pos] at hxy
   obtain ⟨rfl,_,_⟩:=hxy
   refine ⟨.inr (Nat.le_refl _),hnew.size,fun hz=>?_⟩
   have:=hi.fzlt _ _ hz
   omega)
  (fun n m o o' hn hm _ _ hne=>absurd ((show n=base from hn).trans (show m=base from hm).symm) hne)
 refine ⟨_,g',_,hr,hstep.1,hstep.2,?_,fun n hn=>?_⟩
 ·have:=RA.ptr (g:=g') (h:=eS h [(base,some (.box cells))]) (w:=w') base 0 w.heap.size 0 (.inr rfl) (by grind [Gh.add])
  grind
 ·rcases hn with h2|h2
  ·grind
  grind
end
def FzP (g:Gh) (k:Nat) (ns:List Nat):bK:=fun b o=>g.Fz b o\/(k=0/\∃ n,n∈ns/\g.F n b o)
def aTY (g:Gh) (h:Nat->Option O) (w:World) (k len:Nat) (vs:Nat->Value) (ds:List D) (ns:List Nat):Prop:=
 ds.length=len/\ns.Nodup/\(∀ n,n∈ns->∃ o,h n=some o) ∧
  ∃ T:Nat->bK,(∀ (m:Nat) d,ds[m]?=some d->Own w (FzP g k ns) k (vs m) d (T m))/\(∀ m x y,T m x y->∃ n,n∈ns/\g.F n x y)/\∀ i j,i≠j->∀ x y,T i x y->¬T j x y
section
variable {P:Program} {c:Ctx} {g:Gh} {w:World} {base:Nat} {h:Nat->Option O}
theorem aCf (o:O):∀ (ns:List Nat) (h:Nat->Option O),eS h (ns.map (fun q=>(q,none))++[(base,some o)])=fun q=>if q=base then some o else if q∈ns then none else h q:=by
 intro ns
 induction ns with
 |nil=>grind [aGu]
 |cons n ns ih=>
  grind [eS]
theorem aCs (hi:fB c g h w) (hf:¬g.Nm base) {r:Sem Value} {w':World} {cs:Array Value} {k sz cap:Nat} {rows:List (List D)} {ns:List Nat} {T:Nat->bK} (hnew:rW w w' cs)
  (hlive:∀ n,n∈ns->∃ o,h n=some o) (hcap:rows.length<=cap) (hsz:cap*sz<=cs.size) (hrow:∀ row,row∈rows->row.length=sz)
  (hcell:∀ (m:Nat) d,rows.flatten[m]?=some d->Own w (FzP g k ns) k (cs.getD m Go.undef) d (T m)) (hdj:aB9 rows.flatten.length T)
  (hT:∀ m,m<rows.flatten.length->∀ x y,T m x y->∃ n,n∈ns/\g.F n x y)
  (hr:r.run P w=.ok (.slice (some (at_ w.heap.size 0)) rows.length cap) w'):
  mL P c g h w base r { val:=.sl base,objs:=ns.map (fun q=>(q,none))++[(base,some (.arr 0 k sz rows))] }:=by
 have hnb:base ∉ ns:=fun hb=>by obtain ⟨o,ho⟩:=hlive base hb;exact hf (hi.nm _ _ ho)
 have hfl:=iE hrow
 have hle:rows.length*sz<=cap*sz:=Nat.mul_le_mul_right _ hcap
 have hTlt:∀ m,m<rows.flatten.length->∀ x y,T m x y->x<w.heap.size:=by
  intro m hm x y hxy
  obtain ⟨n,hn,hF⟩:=hT m hm x y hxy
  obtain ⟨o,ho⟩:=hlive n hn
  exact hi.lt n o ho x y hF
 have hT0:k=0->∀ m,m<rows.flatten.length->∀ x y,¬T m x y:=by
  intro hk m hm x y
  have:=hcell m _ (List.getElem?_eq_getElem hm)
  subst hk
  exact this.2 x y
 have hFzlt:∀ b o,FzP g k ns b o->b<w.heap.size:=by
  rintro b o (h1|⟨_,n,hn,h2⟩)
  ·exact hi.fzlt b o h1
  ·obtain ⟨ob,ho⟩:=hlive n hn
   exact hi.lt n ob ho b o h2
 let S:bK:=fun x y=>rng w.heap.size 0 (cap*sz) x y\/∃ m,m<rows.flatten.length/\T m x y
 let g':Gh:={ ν:=fun m=>if m=base then .slice (some (at_ w.heap.size 0)) rows.length cap else g.ν m,F:=fun m=>if m=base then S else g.F m,Fz:=FzP g k ns,Nm:=fun m=>g.Nm m\/m=base }
 have hh':=aCf (base:=base) (.arr 0 k sz rows) ns h
 have hstep:=rJ (g':=g') (h':=eS h (ns.map (fun q=>(q,none))++[(base,some (.arr 0 k sz rows))])) (w':=w') hi (fun n=>n=base\/n∈ns) hnew.side (Nat.le_of_lt hnew.size)
  (fun n hn=>by
   grind)
  (fun n hn=>.inl hn)
  (fun n hn=>by
   grind)
  (fun b hb _=>hnew.old b hb) (fun b o hb _=>hnew.keep hb o) (fun b o hb=>.inl hb)
  (fun b o hb=>by
   rcases hb with h1|⟨_,n,hn,h2⟩
   ·grind
   ·obtain ⟨ob,ho⟩:=hlive n hn
    exact .inr (.inl ⟨n,ob,.inr hn,ho,h2⟩))
  (fun n ver k' sz' rows' hn hnm hh=>by
   grind)
  (fun x n o hn ho=>by
   rw [hh'] at ho
   rcases hn with rfl|hn
   ·simp only [if_pos,Option.some.injEq] at ho
    subst ho
    refine ⟨.inr rfl,?_⟩
    show Own _ (FzP g k ns) (k+1) (g'.ν n) (.slc sz rows) (g'.F n)
    refine .inr ⟨w.heap.size,0,cap,T,by simp [g'],hcap,hnew.room 0 _ (by omega),hrow,?_,hdj,?_,?_⟩
    ·intro m d hm
     have hmlt:=jB hm
     refine ⟨cs.getD m Go.undef,?_,Own.mono (fun _ _ h=>h) (fun b o hb=>hnew.keep (hFzlt b o hb) o) k (fun b o hb=>hnew.keep (hTlt m hmlt b o hb) o) (hcell m d hm)⟩
     rw [Nat.zero_add,hnew.cell]
     have:m<cs.size:=by omega
     simp [Array.getD_eq_getD_getElem?,this]
    ·intro m hm x y hxy hT'
     have:=hTlt m hm x y hT'
     have:=hxy.1
     omega
    ·intro x y;simp [g',S]
   grind)
  (fun n o hn ho x y hxy=>by
   rw [hh'] at ho
   rcases hn with rfl|hn
   ·simp only [g',if_pos] at hxy
    rcases hxy with h1|⟨m,hm,h1⟩
    ·have hx:x=w.heap.size:=h1.1
     have:=hnew.size
     refine ⟨.inr (by omega),by omega,fun hz=>?_⟩
     have:=hFzlt x y hz
     omega
    ·obtain ⟨q,hq,hF⟩:=hT m hm x y h1
     obtain ⟨ob,hob⟩:=hlive q hq
     refine ⟨.inl ⟨q,ob,.inr hq,hob,hF⟩,?_,fun hz=>?_⟩
     ·have:=hTlt m hm x y h1;have:=hnew.size;omega
     ·rcases hz with h2|⟨hk,_⟩
      ·exact (hi.mine q ob hob x y hF).2 h2
      ·exact hT0 hk m hm x y h1
   ·have:n≠base:=fun e=>hnb (e ▸ hn)
    simp [this,hn] at ho)
  (fun n m o o' hn hm ho ho' hne=>by
   rw [hh'] at ho ho'
   rcases hn with rfl|hn
   ·rcases hm with rfl|hm
    ·exact absurd rfl hne
    ·have:m≠n:=fun e=>hnb (e ▸ hm)
     simp [this,hm] at ho'
   ·have:n≠base:=fun e=>hnb (e ▸ hn)
    simp [this,hn] at ho)
 refine ⟨_,g',_,hr,hstep.1,hstep.2,?_,fun n hn=>?_⟩
 ·have:=RA.sl (g:=g') (h:=eS h (ns.map (fun q=>(q,none))++[(base,some (.arr 0 k sz rows))])) (w:=w') base (.inr rfl) (by simp [g',Value.oneCell'])
  simpa [g'] using this
 grind
theorem aA6 {e:Env} (hi:fB c g e.h w) (k:Nat):∀ (cells:List A) (vs:Nat->Value) (ds:List D) (ns:List Nat),
  (∀ (m:Nat) a,cells[m]?=some a->RA g e.h w a (vs m))->Out e (jT k cells) (ds,ns) →
  aTY g e.h w k cells.length vs ds ns:=by
 intro cells
 induction cells with
 |nil=>
  intro vs ds ns _ h
  have:=h.ret
  cases this
  exact ⟨rfl,List.nodup_nil,fun n hn=>by grind,fun _ _ _=>False,fun m d hm=>by grind,fun _ _ _ h=>h.elim,fun _ _ _ _ _ h=>h.elim⟩
 |cons a cells ih=>
  intro vs ds ns hra h
  have ha:=hra 0 a rfl
  have hra':∀ (m:Nat) a',cells[m]?=some a'->RA g e.h w a' (vs (m+1)):=fun m a' hm=>hra (m+1) a' (by grind)
  have plain:∀ (x:D) (ds':List D),(∀ Fz,(∀ b o,g.Fz b o->Fz b o)->Own w Fz k (vs 0) x (fun _ _=>False))->Out e (jT k cells) (ds',ns) →
    ds=x::ds'->aTY g e.h w k (a::cells).length vs ds ns:=by
   intro x ds' hx h2 hds
   subst hds
   obtain ⟨h3,h4,h5,T,h6,h7,h8⟩:=ih (fun m=>vs (m+1)) ds' ns hra' h2
   exact ⟨by grind,h4,h5,fun m=>(match m with|0=>fun _ _=>False|m+1=>T m),fun m d hm=>(by
     cases m with
     |zero=>simp at hm;subst hm;exact hx _ (fun b o hb=>.inl hb)
     |succ m=>grind),
    fun m x y hT=>(by
     cases m with
     |zero=>grind
     |succ m=>grind),
    fun i j hij x y hT hT'=>(by
     cases i with
     |zero=>grind
     |succ i=>
      cases j with
      |zero=>grind
      |succ j=>grind)⟩
  unfold jT at h
  split at h
  ·grind
  ·rename_i n r he
   cases he
   obtain ⟨o,ho,h⟩:=h.rh
   split at h
   ·rename_i ver k' sz rows
    split at h
    ·rename_i hk
     obtain ⟨⟨ds',ns'⟩,h1,h2⟩:=Out.bind h
     simp only at h2
     split at h2
     ·exact h2.fail.elim
     ·rename_i hnot
      have:=h2.ret
      cases this
      obtain ⟨h3,h4,h5,T,h6,h7,h8⟩:=ih (fun m=>vs (m+1)) ds' ns' hra' h1
      have hown:Own w g.Fz (k'+1) (g.ν n) (.slc sz rows) (g.F n):=hi.obj n _ ho
      have hv:vs 0=g.ν n:=by generalize vs 0=q at ha;cases ha;rfl
      refine ⟨by simp [h3],List.nodup_cons.2 ⟨hnot,h4⟩,?_,fun m=>(match m with|0=>(fun x y=>k≠0/\g.F n x y)|m+1=>T m),?_,?_,?_⟩
      ·intro q hq
       rcases List.mem_cons.1 hq with rfl|hq
       ·exact ⟨_,ho⟩
       ·exact h5 q hq
      ·intro m d hm
       cases m with
       |zero=>
        simp at hm
        subst hm
        rw [hv]
        rcases hk with rfl|rfl
        ·exact ⟨Own.shr (fun b o hb=>.inl hb) (k'+1) (fun b o hb=>.inr ⟨rfl,n,by simp,hb⟩) hown,fun x y h=>h.1 rfl⟩
        ·have:=Own.mono (w':=w) (Fz':=FzP g (k'+1) (n::ns')) (fun b o hb=>.inl hb) (eZ.refl _ _) (k'+1) (eZ.refl _ _) hown
         simpa using this
       |succ m=>
        have:=h6 m d (by simpa using hm)
        exact Own.mono (fun b o hb=>by
         rcases hb with hb|⟨hk0,q,hq,hb⟩
         ·exact .inl hb
         ·exact .inr ⟨hk0,q,by simp [hq],hb⟩) (eZ.refl _ _) k (eZ.refl _ _) this
      ·intro m x y hT
       cases m with
       |zero=>exact ⟨n,by simp,hT.2⟩
       |succ m=>
        obtain ⟨q,hq,hF⟩:=h7 m x y hT
        exact ⟨q,by simp [hq],hF⟩
      ·intro i j hij x y hT hT'
       cases i with
       |zero=>
        cases j with
        |zero=>exact hij rfl
        |succ j=>
         obtain ⟨q,hq,hF⟩:=h7 j x y hT'
         obtain ⟨oq,hoq⟩:=h5 q hq
         exact hi.disj n q _ _ ho hoq (fun e=>hnot (e ▸ hq)) x y hT.2 hF
       |succ i=>
        cases j with
        |zero=>
         obtain ⟨q,hq,hF⟩:=h7 i x y hT
         obtain ⟨oq,hoq⟩:=h5 q hq
         exact hi.disj n q _ _ ho hoq (fun e=>hnot (e ▸ hq)) x y hT'.2 hF
        |succ j=>exact h8 i j (fun e=>hij (by omega)) x y hT hT'
    ·exact h.fail.elim
   ·exact h.fail.elim
  ·rename_i k' sz r he
   cases he
   obtain ⟨⟨ds',ns'⟩,h1,h2⟩:=Out.bind h
   have:=h2.ret
   cases this
   refine plain (.slc sz []) ds' (fun Fz _=>?_) h1 rfl
   have hv:vs 0=.slice none 0 0:=by generalize vs 0=q at ha;cases ha;rfl
   rw [hv]
   cases k with
   |zero=>exact ⟨.emp _ _ _,fun _ _ h=>h⟩
   |succ k=>exact .inl ⟨rfl,rfl,fun _ _ h=>h⟩
  ·rename_i sz rows r he
   cases he
   split at h
   ·rename_i hk
    subst hk
    obtain ⟨⟨ds',ns'⟩,h1,h2⟩:=Out.bind h
    have:=h2.ret
    cases this
    refine plain (.slc sz rows) ds' (fun Fz hF=>?_) h1 rfl
    have hs:Shr w g.Fz (vs 0) (.slc sz rows):=by generalize vs 0=q at ha;cases ha with|d _ _ hs=>exact hs
    exact ⟨hs.mono (fun _ _ _=>rfl) hF,fun _ _ h=>h⟩
   ·exact h.fail.elim
  ·rename_i x r hns he
   cases he
   obtain ⟨⟨ds',ns'⟩,h1,h2⟩:=Out.bind h
   have:=h2.ret
   cases this
   refine plain x ds' (fun Fz hF=>?_) h1 rfl
   have hs:Shr w g.Fz (vs 0) x:=by generalize vs 0=q at ha;cases ha with|d _ _ hs=>exact hs
   have hs':=hs.mono (w':=w) (Fz':=Fz) (fun _ _ _=>rfl) hF
   cases k with
   |zero=>exact ⟨hs',fun _ _ h=>h⟩
   |succ k=>
    cases x with
    |slc sz rows=>exact absurd rfl (hns sz rows)
    |_=>exact ⟨hs',fun _ _ h=>h⟩
  ·exact h.fail.elim
end
def aNg (zs:Array Value) (zero:List D):Prop:=zs.size=zero.length/\∀ (m:Nat) d,zero[m]?=some d->∀ w Fz k,Own w Fz k (zs.getD m Go.undef) d (fun _ _=>False)
theorem wS (zero:List D) (n m:Nat):(List.replicate n zero).flatten[m]?=if m<n*zero.length then zero[m % zero.length]? else none:=by
 induction n generalizing m with
 |zero=>simp
 |succ n ih=>
  simp only [List.replicate_succ,List.flatten_cons]
  by_cases h:m<zero.length
  ·rw [List.getElem?_append_left h,Nat.mod_eq_of_lt h,if_pos (by rw [Nat.add_mul];omega)]
  ·rw [List.getElem?_append_right (by omega),ih]
   have e1:(m-zero.length) % zero.length=m % zero.length:=by
    rw [<-Nat.mod_eq_sub_mod (by omega)]
   rw [e1,Nat.add_mul]
   by_cases h2:m<n*zero.length+1*zero.length
   ·rw [if_pos (by omega),if_pos h2]
   ·rw [if_neg (by omega),if_neg h2]
theorem aE5 (l:List UInt8):(aB l).flatten=l.map fun b=>D.int .u8 b.toNat:=by
 unfold aB
 induction l with
 |nil=>rfl
 |cons b l ih=>simp [ih]
section
variable {P:Program} {c:Ctx} {g:Gh} {w:World} {base:Nat} {e:Env}
theorem aU7 (hi:fB c g e.h w) {s d el:TypeId} {x:A} {v:Value} {wr:Wr} (hs:P.underlying s=some .string) (hd:P.underlying d=some (.slice el)) (hel:P.underlying el=some (.int .u8))
  (hx:RA g e.h w x v) (h:Out e (aSQ x) wr):mL P c g e.h w base (convert s d v) wr:=by
 unfold aSQ at h
 split at h
 ·rename_i l
  rw [hx.str_inv,h.ret]
  have hsz:(⟨l.toArray⟩:ByteArray).size=l.length:=by show l.toArray.size=l.length;simp
  have hrun:=run_bytes_of_string (P:=P) w s d el ⟨l.toArray⟩ hs hd hel
  rw [hsz] at hrun
  have hge:=grownCap_ge w l.length 0 el
  have hflat:=aE5 l
  have hlen:(aB l).length=l.length:=by simp [aB]
  obtain ⟨cs,hcs⟩:∃ cs,cs=bytesRow ⟨l.toArray⟩ (grownCap w l.length 0 el):=⟨_,rfl⟩
  rw [<-hcs] at hrun
  have hget:∀ (m:Nat) d,(aB l).flatten[m]?=some d->∃ b:UInt8,cs[m]?=some (.int .u8 b.toNat)/\d=.int .u8 b.toNat:=fun m d hm=>by
   rw [hflat,List.getElem?_map] at hm
   obtain ⟨b,hb,rfl⟩:=Option.map_eq_some_iff.1 hm
   have hmlt:=(List.getElem?_eq_some_iff.1 hb).1
   have hbe:l[m]=b:=by have:=List.getElem?_eq_getElem hmlt;rw [hb] at this;exact (Option.some.inj this).symm
   exact ⟨b,by simp [hcs,bytesRow,Array.getElem?_append,hmlt,hbe],rfl⟩
  obtain ⟨w',hw'⟩:∃ w',w'=w.drew.alloc (.cells cs el (cs.size,cs.size+1)):=⟨_,rfl⟩
  have hnew:w'.heap[w.heap.size]?=some (.cells cs el (cs.size,cs.size+1)):=by rw [hw'];exact heap_alloc_new w.drew _
  have hold:∀ b,b<w.heap.size->w'.heap[b]?=w.heap[b]?:=fun b hb=>by rw [hw'];exact heap_alloc_old w.drew _ hb
  have hsize:w'.heap.size=w.heap.size+1:=by rw [hw'];simp
  have hside:w'.os=w.os/\w'.output=w.output:=by rw [hw'];exact ⟨rfl,rfl⟩
  have hstep:=rJ (g':={ g with Fz:=fun b o=>g.Fz b o\/b=w.heap.size }) (h':=eS e.h []) (w':=w') hi (fun _=>False) hside (by omega) (fun n _=>⟨rfl,fun _=>rfl⟩) (fun n h=>h) (fun n _=>rfl)
   (fun b hb _=>hold b hb) (fun b o hb _=>nV (hold b hb) o) (fun b o h=>.inl h) (fun b o h=>h.elim .inl fun h=>.inr (.inr ⟨by omega,by omega⟩))
   (fun n ver k sz rows h=>h.elim) (fun _ n o h=>h.elim) (fun n o h=>h.elim) (fun n m o o' h=>h.elim)
  refine ⟨_,_,w',by rw [hw'];exact hrun,hstep.1,hstep.2,?_,fun n hn=>.inl hn⟩
  refine .d _ _ ?_
  have hs:=Shr.slc (w:=w') (Fz:=fun b o=>g.Fz b o\/b=w.heap.size) w.heap.size 0 (grownCap w l.length 0 el) 1 (aB l) (fun m=>(cs[m]?).getD Go.undef) (fun row hrow=>by simp [aB] at hrow;obtain ⟨_,_,rfl⟩:=hrow;rfl) (by omega)
   (fun m d hm=>by
    obtain ⟨b,hb,_⟩:=hget m d hm
    refine ⟨?_,.inr rfl⟩
    simp [World.cell?,hnew,hb])
   (fun m d hm=>by
    obtain ⟨b,hb,rfl⟩:=hget m d hm
    simp only [hb,Option.getD_some]
    exact .int _ _)
  rw [hlen] at hs
  exact hs
 ·exact h.fail.elim
theorem aMy (hi:fB c g e.h w) (hf:¬g.Nm base) {t el:TypeId} {inf:TypeInfo} {z:Value} {zero:List D} {k0:Nat} {kl kc:IntKind} {l cp:Int} {wr:Wr} (ht:P.underlying t=some (.slice el))
  (hinf:P.info? el=some inf) (hz:inf.zero=some z) (hzo:aNg z.cells zero) (hb:0<inf.bytes)
  (h:Out e (mkA base k0 inf.size inf.bytes zero l cp) wr):mL P c g e.h w base (Instr.makeSlice t (.int kl l) (.int kc cp)) wr:=by
 unfold mkA at h
 obtain ⟨⟨h0,h1,h2⟩,h⟩:=h.need
 split at h
 ·rename_i hzs
  rw [h.ret]
  unfold aM at h2
  have hcp:cp<=140737488355328:=by
   have h3:cp*1<=cp*(inf.bytes:Int):=Int.mul_le_mul_of_nonneg_left (by omega) (by omega)
   have h4:cp*(inf.bytes:Int)<=((140737488355328:Nat):Int):=h2
   omega
  have h2':(inf.bytes:Int)*cp<=281474976710656:=by rw [Int.mul_comm];have h4:cp*(inf.bytes:Int)<=((140737488355328:Nat):Int):=h2;omega
  have hrun:=run_make (P:=P) w t el inf z ht hinf hz kl kc l cp h0 h1 h2' (by omega)
  have hle:l.toNat<=cp.toNat:=by omega
  have hszl:(List.replicate l.toNat zero).length=l.toNat:=by simp
  have:=aCs (P:=P) (base:=base) (r:=Instr.makeSlice t (.int kl l) (.int kc cp)) (k:=k0) (sz:=inf.size) (cap:=cp.toNat) (rows:=List.replicate l.toNat zero) (ns:=[]) (T:=fun _ _ _=>False) hi hf
   (rW.alloc w (madeCells z.cells (cp.toNat*inf.size)) el) (fun n hn=>by simp at hn) (by simpa using hle) (by rw [size_madeCells];omega) (fun row hrow=>by rw [List.eq_of_mem_replicate hrow];exact hzs.2)
   (fun m d hm=>by
    rw [wS zero _ m] at hm
    split at hm
    ·rename_i hlt
     have hm2:m<cp.toNat*inf.size:=by
      have:l.toNat*zero.length<=cp.toNat*inf.size:=by rw [hzs.2];exact Nat.mul_le_mul_right _ hle
      omega
     have:(madeCells z.cells (cp.toNat*inf.size)).getD m Go.undef=z.cells.getD (m % zero.length) Go.undef:=by
      have hmod:m % zero.length<z.cells.size:=by rw [hzo.1];exact Nat.mod_lt _ (by omega)
      simp only [madeCells,Array.getD_eq_getD_getElem?,Array.getElem?_map,Array.getElem?_range]
      simp only [hm2,if_true,Option.map_some,Option.getD_some,hzo.1]
      rw [Array.getElem!_eq_getD,Array.getD_eq_getD_getElem?]
      simp [hmod]
     rw [this]
     exact hzo.2 _ d hm w _ k0
    ·cases hm)
   (fun i j _ _ _ x y hxy=>hxy.elim) (fun m _ x y hxy=>hxy.elim) (by rw [hszl];exact hrun)
  simpa using this
 ·exact h.fail.elim
end
end Go.Proofs.YtiejbbcpihpgpaaGreatDoor.Ab
