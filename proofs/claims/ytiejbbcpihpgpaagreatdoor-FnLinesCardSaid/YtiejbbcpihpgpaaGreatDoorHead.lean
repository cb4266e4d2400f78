/-
  A part of a proof about the given program; what is proved is said where each theorem stands.
-/
import Derived.Lib.LaidTab
import Derived.Lib.ItoaLen
import Derived.Shelf.Strconv.Itoa3
import Derived.Test.YtiejbbcpihpgpaaGreatDoorProg
import Derived.Test.YtiejbbcpihpgpaaGreatDoorFrameD
set_option linter.unusedVariables false
namespace Go.Proofs.YtiejbbcpihpgpaaGreatDoor.Ab
open Go.Proofs
noncomputable abbrev PP:Program:=Tryz.prog
def uN:Obj->Prop
 |.cells cs _ _=>cs=(Lib.pow10Tab.map fun z=>Value.int .u64 z).toArray
 |_=>False
def aBK:Obj->Prop
 |.cells cs _ _=>∃ ev,cs[0]?=some ev/\(ev=.nilIface\/∃ te pe,ev=.iface te pe)
 |_=>False
def aNS:Obj->Prop
 |.cells cs _ _=>∃ m:Int,cs[0]?=some (.int .i64 m)
 |_=>False
def GG:GV:=fun b=>if b=2 then some uN else if b=0 then some aBK else if b=3 then some aNS else if b=1 then some aBK else none
theorem P10.h:GG 2=some uN:=rfl
theorem ESyn.h:GG 0=some aBK:=rfl
theorem MaxL.h:GG 3=some aNS:=rfl
theorem ERng.h:GG 1=some aBK:=rfl
noncomputable abbrev QQ:Program:={ toTables:=Tryz.progTables,funcs:=#[] }
def CF:Cfg:=[(15,[],[],[(.box 3)]),
 (16,[(.box 3),.borrow],[some (.box 3),none],[]),
 (17,[(.box 3),.borrow],[some (.box 3),none],[]),
 (18,[(.box 3),.borrow],[some (.box 3),none],[]),
 (19,[(.box 3),.give],[some (.box 3),none],[]),
 (29,[(.box 3),.borrow],[some (.box 3),none],[]),
 (33,[(.box 3),.borrow,.borrow],[some (.box 3),none,none],[]),
 (34,[(.box 3)],[some (.box 3)],[]),
 (47,[.borrow,(.box 6),.borrow,.borrow],[none,some (.box 6),none,none],[]),
 (48,[(.box 3),.give],[some (.box 3),none],[]),
 (52,[(.box 3),.borrow],[some (.box 3),none],[]),
 (53,[(.box 3)],[some (.box 3)],[]),
 (55,[(.box 3),.lend],[some (.box 3),some .give],[]),
 (56,[(.box 3),.lend],[some (.box 3),some .give],[]),
 (57,[(.box 3)],[some (.box 3)],[]),
 (72,[(.box 3)],[some (.box 3)],[]),
 (76,[(.box 3)],[some (.box 3)],[]),
 (118,[.give,.lend],[none,some .give],[]),
 (151,[],[],[.borrow,.give]),
 (152,[],[],[.borrow]),
 (157,[],[],[.borrow,.give,.give]),
 (159,[.borrow,.borrow,.give],[],[.borrow,.give]),
 (162,[],[],[.borrow]),
 (201,[.borrow,.borrow,.give,.borrow],[],[.borrow,.give])]
def CM:List (Nat×List eN):=[(16,[(.box 3),.borrow]),(17,[(.box 3),.borrow]),(18,[(.box 3),.borrow]),(19,[(.box 3),.give]),(29,[(.box 3),.borrow]),(33,[(.box 3),.borrow,.borrow]),(34,[(.box 3)]),(47,[.borrow,(.box 6),.borrow,.borrow]),(48,[(.box 3),.give]),(52,[(.box 3),.borrow]),(53,[(.box 3)]),(55,[(.box 3),.lend]),(56,[(.box 3),.lend]),(57,[(.box 3)]),(58,[.give,.borrow]),(72,[(.box 3)]),(76,[(.box 3)]),(78,[.give,.borrow]),(80,[.give,.borrow]),(82,[.borrow,.give]),(110,[.give,.borrow,.give]),(112,[.give,.borrow]),(118,[.give,.lend]),(149,[.give,.borrow]),(153,[.give,.borrow]),(159,[.borrow,.borrow,.give]),(191,[.give,.borrow]),(201,[.borrow,.borrow,.give,.borrow])]
theorem cv {f:FuncId} {fn:Func} {om:List (Option eN)} {vl:List Nat} {rs:List (eN×Nat×Option (Bool×Nat))} {x y c:aI} {vm gs:Nat} {ls:Option Sk} {cs:List C} {r:C} {os:List (Option C)} (hf:PP.funcs[f]?=some fn) (rcs:List C)
  (hW:W PP vl (fn.ntmps,lK 0 om) (aC PP GG) c (rR cs) (Fin (aC PP GG) rs om rcs os) (fun _ _=>False) (Fin (aC PP GG) rs om rcs os))
  (h1:aT8 QQ CF f fn=(om,rs)->True:=by intro h;(conv at h=>lhs;cbv);have t:type_of% h:=rfl;clear t;trivial) (h2:aT7 QQ om fn=x->True:=by intro h;(conv at h=>lhs;cbv);have t:type_of% h:=rfl;clear t;trivial)
  (h3:aT6 x (fn.params.size+fn.nfree) fn.ntmps fn.results.toList=(vm,gs,vl)->True:=by intro h;(conv at h=>lhs;cbv);have t:type_of% h:=rfl;clear t;trivial) (h4:aT5 CM x vm gs=y->True:=by intro h;(conv at h=>lhs;cbv);have t:type_of% h:=rfl;clear t;trivial)
  (h5:aT4 y vm fn.ntmps om fn.results.toList=ls->True:=by intro h;(conv at h=>lhs;cbv);have t:type_of% h:=rfl;clear t;trivial) (h5b:aT3 fn.ntmps y ls=c->True:=by intro h;(conv at h=>lhs;cbv);have t:type_of% h:=rfl;clear t;trivial) (h6:aMz PP vl om rs fn cs.length rcs.length=true:=by kernel_rfl)
  (h7:rS PP (fn.ntmps,lK 0 om) vl (fn.body.getD .skip)=some c.erase:=by kernel_rfl) (h8:wC rcs=r:=by rfl):aC PP GG f cs r os:=cvM hf rcs h6 h7 h8 hW
theorem cvD {α:Type} {f:FuncId} {fn:Func} {om:List (Option eN)} {vl:List Nat} {rs:List (eN×Nat×Option (Bool×Nat))} {x y c:aI} {vm gs:Nat} {ls:Option Sk} {cs:List C} (hf:PP.funcs[f]?=some fn) (nr:Nat) (R:α->Prop) (rc:α->List C) (oc:α->List (Option C)) (hn:∀ a,(rc a).length=nr)
  (hW:Dt PP vl (fn.ntmps,lK 0 om) (aC PP GG) c (rR cs) (fun st=>∃ a,R a/\Fin (aC PP GG) rs om (rc a) (oc a) st) (fun _ _=>False) (fun st=>∃ a,R a/\Fin (aC PP GG) rs om (rc a) (oc a) st))
  (h1:aT8 QQ CF f fn=(om,rs)->True:=by intro h;(conv at h=>lhs;cbv);have t:type_of% h:=rfl;clear t;trivial) (h2:aT7 QQ om fn=x->True:=by intro h;(conv at h=>lhs;cbv);have t:type_of% h:=rfl;clear t;trivial)
  (h3:aT6 x (fn.params.size+fn.nfree) fn.ntmps fn.results.toList=(vm,gs,vl)->True:=by intro h;(conv at h=>lhs;cbv);have t:type_of% h:=rfl;clear t;trivial) (h4:aT5 CM x vm gs=y->True:=by intro h;(conv at h=>lhs;cbv);have t:type_of% h:=rfl;clear t;trivial)
  (h5:aT4 y vm fn.ntmps om fn.results.toList=ls->True:=by intro h;(conv at h=>lhs;cbv);have t:type_of% h:=rfl;clear t;trivial) (h5b:aT3 fn.ntmps y ls=c->True:=by intro h;(conv at h=>lhs;cbv);have t:type_of% h:=rfl;clear t;trivial) (h6:aMz PP vl om rs fn cs.length nr=true:=by kernel_rfl)
  (h7:rS PP (fn.ntmps,lK 0 om) vl (fn.body.getD .skip)=some c.erase:=by kernel_rfl):∃ a,R a/\aC PP GG f cs (wC (rc a)) (oc a):=aVz hf nr R rc oc hn h6 h7 hW
end Go.Proofs.YtiejbbcpihpgpaaGreatDoor.Ab
