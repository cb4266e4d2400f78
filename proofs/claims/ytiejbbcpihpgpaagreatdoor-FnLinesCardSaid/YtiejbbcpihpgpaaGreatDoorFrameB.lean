/-
  A part of a proof about the given program; what is proved is said where each theorem stands.
-/
import Derived.Laws.Tables
import Derived.Great.BuildSlice
import Derived.Test.YtiejbbcpihpgpaaGreatDoorFrameA
namespace Go.Proofs.YtiejbbcpihpgpaaGreatDoor.Ab
def aFt (cs:Array Value) (off:Nat) (v:Value):Array Value:=v.cells.zipIdx.foldl (fun cs (c,j)=>cs.setIfInBounds (off+j) c) cs
theorem aPw (off:Nat):∀ (l:List (Value×Nat)) (cs:Array Value),(l.foldl (fun cs (c,j)=>cs.setIfInBounds (off+j) c) cs).size=cs.size:=by
 intro l
 induction l with
 |nil=>grind
 |cons x l ih=>grind
theorem aPx (off:Nat):∀ (us:List Value) (k:Nat) (cs:Array Value) (m:Nat),off+k+us.length<=cs.size →
  ((us.zipIdx k).foldl (fun cs (c,j)=>cs.setIfInBounds (off+j) c) cs).getD m Go.undef=if off+k<=m/\m<off+k+us.length then us.getD (m-(off+k)) Go.undef else cs.getD m Go.undef:=by
 intro us
 induction us with
 |nil=>simp;grind
 |cons u us ih=>
  intro k cs m hle
  simp only [List.zipIdx_cons,List.foldl_cons]
  rw [ih (k+1) _ m (by grind)]
  simp only [List.length_cons]
  by_cases h1:off+(k+1)<=m/\m<off+(k+1)+us.length
  ·grind
  ·rw [if_neg h1]
   by_cases h2:m=off+k
   ·simp only [Nat.sub_self,Array.getD_eq_getD_getElem?]
    grind
   ·simp only [Array.getD_eq_getD_getElem?,Array.getElem?_setIfInBounds]
    grind
theorem aCk (cs:Array Value) (off:Nat) (v:Value):(aFt cs off v).size=cs.size:=by
 unfold aFt
 rw [<-Array.foldl_toList,aPw]
theorem aKC (cs:Array Value) (off:Nat) (v:Value) (m:Nat) (h:off+v.cells.size<=cs.size):
  (aFt cs off v).getD m Go.undef=if off<=m/\m<off+v.cells.size then v.cells.getD (m-off) Go.undef else cs.getD m Go.undef:=by
 unfold aFt
 rw [<-Array.foldl_toList]
 have:=aPx off v.cells.toList 0 cs m (by grind)
 simp_all
def aLy (cs:Array Value):List (Nat×Value)->Array Value
 |[]=>cs
 |(off,v)::r=>aLy (aFt cs off v) r
theorem aN2 (place:Nat->Option (Nat×Nat)):∀ (parts:List (Nat×Value)) (offs:List (Nat×Value)) (cs:Array Value),offs.length=parts.length →
  (∀ (i:Nat) p q,parts[i]?=some p->offs[i]?=some q->place p.1=some (q.1,p.2.cells.size)/\q.2=p.2/\q.1+p.2.cells.size<=cs.size) →
  Instr.fill place cs parts=some (aLy cs offs):=by
 intro parts
 induction parts with
 |nil=>intro offs cs hl _;have:offs=[]:=List.length_eq_zero_iff.1 hl;subst this;rfl
 |cons p parts ih=>
  intro offs cs hl h
  cases offs with
  |nil=>grind
  |cons q offs=>
   obtain ⟨h1,h2,h3⟩:=h 0 p q rfl rfl
   obtain ⟨i,v⟩:=p
   obtain ⟨off,v'⟩:=q
   simp only at h1 h2 h3
   subst h2
   simp only [Instr.fill,h1]
   rw [if_neg (by grind)]
   rw [ih offs _ (by grind) (fun j p q hp hq=>by
    obtain ⟨g1,g2,g3⟩:=h (j+1) p q (by grind) (by grind)
    refine ⟨g1,g2,?_⟩
    have:=aCk cs off v'
    grind [aFt])]
   rfl
theorem aOY {v:Value} (h:v.oneCell'=true):v.cells=#[v]:=by cases v<;>first|rfl|cases h
section
variable {P:Program} {c:Ctx} {g:Gh} {w:World} {base:Nat} {e:Env}
theorem RA.one {h:Nat->Option O} {a:A} {v:Value} (ha:RA g h w a v) (hc:a.cellB=true):v.oneCell'=true:=by
 cases ha with
 |d _ _ hs=>exact hs.one
 |nil=>rfl
 |sl _ _ h1=>grind
 |sv=>rfl
 |inn _ _ _ _ _ h1=>grind
 |elt _ _ _ _ _ _ _ h1=>obtain ⟨b,q,rfl⟩:=h1;rfl
 |ptr=>rfl
 |rp=>rfl
 |agg=>cases hc
 |tup=>cases hc
 |clo=>rfl
 |skip=>cases hc
 |undef=>cases hc
theorem RA.cells {h:Nat->Option O} {a:A} {v:Value} (ha:RA g h w a v) (hc:∀ b,b∈eM a->(∃ l,a=.agg l)\/b.cellB=true):
  v.cells.size=(eM a).length/\∀ (m:Nat) b,(eM a)[m]?=some b->(v.cells.getD m Go.undef).oneCell'=true/\RA g h w b (v.cells.getD m Go.undef):=by
 cases a with
 |agg l=>
  obtain ⟨vs,rfl,hl,h1,h2⟩:=ha.agg_inv
  exact ⟨hl,fun m b hb=>⟨h1 m b hb,h2 m b hb⟩⟩
 |_=>
  have hb:A.cellB _=true:=(hc _ (by simp only [eM,List.mem_singleton];rfl)).resolve_left (by grind)
  have h1:=ha.one hb
  rw [aOY h1]
  refine ⟨rfl,fun m b hm=>?_⟩
  simp only [eM] at hm
  cases m with
  |zero=>simp_all
  |succ m=>simp at hm
theorem wG {k:Nat}:∀ {cells:List A} {r:List D×List Nat},Out e (jT k cells) r->∀ b,b∈cells->b.cellB=true:=by
 intro cells
 induction cells with
 |nil=>grind
 |cons a cells ih=>
  intro r h b hb
  unfold jT at h
  split at h
  ·grind
  ·rename_i n q he
   cases he
   rcases List.mem_cons.1 hb with rfl|hb
   ·rfl
   ·obtain ⟨o,_,h⟩:=h.rh
    split at h
    ·split at h
     ·obtain ⟨x,h1,_⟩:=Out.bind h
      exact ih h1 b hb
     ·exact h.fail.elim
    ·exact h.fail.elim
  ·rename_i he
   cases he
   rcases List.mem_cons.1 hb with rfl|hb
   ·rfl
   ·obtain ⟨x,h1,_⟩:=Out.bind h
    grind
  ·rename_i he
   cases he
   rcases List.mem_cons.1 hb with rfl|hb
   ·rfl
   ·split at h
    ·obtain ⟨x,h1,_⟩:=Out.bind h
     grind
    ·exact h.fail.elim
  ·rename_i he
   cases he
   rcases List.mem_cons.1 hb with rfl|hb
   ·rfl
   ·obtain ⟨x,h1,_⟩:=Out.bind h
    grind
  ·exact h.fail.elim
theorem yY:∀ {ns:List Nat},yZ ns=true->ns.Nodup:=by
 intro ns
 induction ns with
 |nil=>grind
 |cons n ns ih=>
  intro h
  simp only [yZ,Bool.and_eq_true,Bool.not_eq_true',List.contains_eq_mem,decide_eq_false_iff_not] at h
  grind
structure Fam (g:Gh) (h:Nat->Option O) (w:World) (k sz n:Nat) (rows:List (List D)) (cs:Array Value) (ns:List Nat) (T:Nat->bK):Prop where
 len:rows.length=n
 row:∀ r,r∈rows->r.length=sz
 size:cs.size=n*sz
 own:∀ (m:Nat) d,rows.flatten[m]?=some d->Own w (FzP g k ns) k (cs.getD m Go.undef) d (T m)
 disj:∀ i j,i≠j->∀ x y,T i x y->¬T j x y
 sub:∀ m x y,T m x y->∃ n,n∈ns/\g.F n x y
 live:∀ n,n∈ns->∃ o,h n=some o
theorem aE4 {rows:List (List D)} {sz:Nat} (h:∀ row,row∈rows->row.length=sz) {i:Nat} (hi:i<rows.length) {ds:List D} (hd:ds.length=sz) (m:Nat):
  (rows.set i ds).flatten[m]?=if i*sz<=m/\m<i*sz+sz then ds[m-i*sz]? else rows.flatten[m]?:=by
 induction rows generalizing i m with
 |nil=>grind
 |cons r rs ih=>
  have hr:=h r (by simp)
  cases i with
  |zero=>
   grind
  |succ i=>
   simp only [List.set_cons_succ,List.flatten_cons]
   by_cases hm:m<sz
   ·grind
   ·rw [List.getElem?_append_right (by omega),List.getElem?_append_right (by omega),ih (fun row hrow=>h row (by simp [hrow])) (by simpa using hi)]
    rw [hr]
    by_cases h2:i*sz<=m-sz/\m-sz<i*sz+sz
    ·rw [if_pos h2,if_pos (by rw [Nat.add_mul];omega)]
     congr 1
     rw [Nat.add_mul];omega
    ·rw [if_neg h2,if_neg (by rw [Nat.add_mul];omega)]
theorem Fam.set {h:Nat->Option O} {k sz n:Nat} {rows:List (List D)} {cs:Array Value} {ns ms:List Nat} {T:Nat->bK} (hi:fB c g h w) (f:Fam g h w k sz n rows cs ns T) {i:Nat} (hin:i<n) {v:Value} {ds:List D}
  (hv:v.cells.size=sz) (hd:ds.length=sz) (t:aTY g h w k sz (fun m=>v.cells.getD m Go.undef) ds ms) (hap:∀ q,q∈ms->q ∉ ns):
  ∃ T',Fam g h w k sz n (rows.set i ds) (aFt cs (i*sz) v) (ms++ns) T':=by
 obtain ⟨t1,t2,t3,T2,t4,t5,t6⟩:=t
 have hmul:i*sz+sz<=n*sz:=by
  have:(i+1)*sz<=n*sz:=Nat.mul_le_mul_right _ hin
  grind
 have hsz:=f.size
 refine ⟨fun m=>if i*sz<=m/\m<i*sz+sz then T2 (m-i*sz) else T m,by simp [f.len],?_,by grind [aCk],?_,?_,?_,?_⟩
 ·intro r hr
  rcases List.mem_or_eq_of_mem_set hr with h1|rfl
  ·exact f.row r h1
  grind
 ·intro m d hm
  rw [aE4 f.row (by rw [f.len];grind) hd] at hm
  rw [aKC _ _ _ _ (by omega),hv]
  by_cases h2:i*sz<=m/\m<i*sz+sz
  ·rw [if_pos h2] at hm
   rw [if_pos h2,if_pos h2]
   refine Own.mono (fun b o hb=>?_) (eZ.refl _ _) k (eZ.refl _ _) (t4 _ d hm)
   rcases hb with hb|⟨hk0,q,hq,hb⟩
   ·exact .inl hb
   ·exact .inr ⟨hk0,q,by grind,hb⟩
  ·rw [if_neg h2] at hm
   rw [if_neg h2,if_neg h2]
   refine Own.mono (fun b o hb=>?_) (eZ.refl _ _) k (eZ.refl _ _) (f.own _ d hm)
   rcases hb with hb|⟨hk0,q,hq,hb⟩
   ·exact .inl hb
   ·exact .inr ⟨hk0,q,by grind,hb⟩
 ·intro a b hab x y h1 h2
  have key:∀ p q x y,T2 p x y->T q x y->False:=by
   intro p q x y hp hq
   obtain ⟨n1,hn1,hF1⟩:=t5 p x y hp
   obtain ⟨n2,hn2,hF2⟩:=f.sub q x y hq
   obtain ⟨o1,ho1⟩:=t3 n1 hn1
   obtain ⟨o2,ho2⟩:=f.live n2 hn2
   exact hi.disj n1 n2 o1 o2 ho1 ho2 (fun e=>hap n1 hn1 (e ▸ hn2)) x y hF1 hF2
  split at h1
  ·split at h2
   ·exact t6 _ _ (by omega) x y h1 h2
   ·exact key _ _ x y h1 h2
  ·split at h2
   ·exact key _ _ x y h2 h1
   ·exact f.disj a b hab x y h1 h2
 ·intro m x y hm
  split at hm
  ·obtain ⟨q,hq,hF⟩:=t5 _ x y hm
   exact ⟨q,by simp [hq],hF⟩
  ·obtain ⟨q,hq,hF⟩:=f.sub _ x y hm
   exact ⟨q,by simp [hq],hF⟩
 ·intro q hq
  rcases List.mem_append.1 hq with h1|h1
  ·exact t3 q h1
  ·exact f.live q h1
theorem aTp (hi:fB c g e.h w) (k sz n:Nat):∀ (as:List (Nat×A)) (vals:List (Nat×Value)) (es:List (Nat×List D)) (ms ns:List Nat) (rows:List (List D)) (cs:Array Value) (T:Nat->bK),
  vals.length=as.length->(∀ (i:Nat) p q,as[i]?=some p->vals[i]?=some q->q.1=p.1/\RA g e.h w p.2 q.2)->Out e (wK k as) (es,ms) →
  (∀ e',e'∈es->e'.2.length=sz/\e'.1<n)->(ms++ns).Nodup->Fam g e.h w k sz n rows cs ns T →
  ∃ T' ns',Fam g e.h w k sz n (aBw rows es) (aLy cs (vals.map fun q=>(q.1*sz,q.2))) ns' T'/\(∀ q,q∈ns' ↔ q∈ms\/q∈ns)/\(∀ q,q∈vals->q.2.cells.size=sz/\q.1<n):=by
 intro as
 induction as with
 |nil=>
  intro vals es ms ns rows cs T hl _ h _ _ hf
  have:vals=[]:=List.length_eq_zero_iff.1 hl
  subst this
  have:=h.ret
  cases this
  exact ⟨T,ns,hf,by simp,by simp⟩
 |cons p as ih=>
  intro vals es ms ns rows cs T hl hra h hes hnd hf
  cases vals with
  |nil=>grind
  |cons q vals=>
   obtain ⟨i,a⟩:=p
   obtain ⟨i',v⟩:=q
   obtain ⟨h1,h2⟩:=hra 0 _ _ rfl rfl
   simp only at h1 h2
   subst h1
   unfold wK at h
   obtain ⟨⟨ds,ns1⟩,h3,h4⟩:=Out.bind h
   simp only at h4
   obtain ⟨⟨es',ms'⟩,h5,h6⟩:=Out.bind h4
   have:=h6.ret
   cases this
   obtain ⟨hds,hin⟩:=hes (i',ds) (by simp)
   simp only at hds hin
   have hcell:=h2.cells (fun b hb=>by
    by_cases ha:∃ l,a=.agg l
    ·exact .inl ha
    ·exact .inr (wG h3 b hb))
   have htook:=aA6 hi k (eM a) (fun m=>v.cells.getD m Go.undef) ds ns1 (fun m b hb=>(hcell.2 m b hb).2) h3
   have hvs:v.cells.size=sz:=by rw [hcell.1,<-htook.1];exact hds
   rw [<-hcell.1,hvs] at htook
   have hnd':=hnd
   rw [List.append_assoc,List.nodup_append] at hnd'
   obtain ⟨n1,n2,n3⟩:=hnd'
   obtain ⟨T2,hf2⟩:=hf.set hi hin hvs hds htook (fun q hq hq'=>n3 q hq q (by simp [hq']) rfl)
   obtain ⟨T',ns',g1,g2,g3⟩:=ih vals es' ms' (ns1++ns) (rows.set i' ds) (aFt cs (i'*sz) v) T2 (by simpa using hl) (fun j p q hp hq=>hra (j+1) p q (by simpa using hp) (by simpa using hq)) h5
    (fun e' he'=>hes e' (by simp [he'])) (by
     rw [List.nodup_append] at n2 ⊢
     obtain ⟨a1,a2,a3⟩:=n2
     refine ⟨a1,List.nodup_append.2 ⟨n1,a2,fun x hx y hy=>n3 x hx y (by simp [hy])⟩,?_⟩
     intro x hx y hy
     rcases List.mem_append.1 hy with hy|hy
     ·exact fun e=>n3 y hy x (by simp [hx]) e.symm
     ·exact a3 x hx y hy) hf2
   refine ⟨T',ns',g1,fun q=>?_,?_⟩
   ·rw [g2 q];simp only [List.mem_append]
    constructor
    ·rintro (h|h|h)
     ·exact .inl (.inr h)
     ·exact .inl (.inl h)
     ·exact .inr h
    ·rintro ((h|h)|h)
     ·exact .inr (.inl h)
     ·exact .inl h
     ·exact .inr (.inr h)
   ·intro q hq
    rcases List.mem_cons.1 hq with rfl|hq
    ·exact ⟨hvs,hin⟩
    ·exact g3 q hq
end
def aSa (P:Program) (fs:Array Field) (places:List (Nat×Nat)):Prop:=fs.toList.mapM (fun f=>(P.info? f.type).map fun i=>(f.offset,i.size))=some places
theorem aVC:∀ (as:List (Nat×Nat×A)) (cells:List A),(∀ p,p∈as->(eM p.2.2).length=p.2.1/\p.1+p.2.1<=cells.length)->(aCN cells as).length=cells.length:=by
 intro as
 induction as with
 |nil=>intro cells _;rfl
 |cons p as ih=>
  intro cells h
  obtain ⟨off,n,a⟩:=p
  obtain ⟨h1,h2⟩:=h (off,n,a) (by simp)
  have hl:(gK cells off (eM a)).length=cells.length:=by grind [gK]
  grind [aCN]
theorem uC (cells:List A) (off:Nat) (new:List A) (m:Nat) (h:off+new.length<=cells.length):
  (gK cells off new)[m]?=if off<=m/\m<off+new.length then new[m-off]? else cells[m]?:=by
 unfold gK
 by_cases h1:m<off
 ·grind
 grind
section
variable {P:Program} {c:Ctx} {g:Gh} {w:World} {base:Nat} {e:Env}
def pN (g:Gh) (h:Nat->Option O) (w:World) (cells:List A) (vs:Array Value):Prop:=
 vs.size=cells.length/\∀ (m:Nat) a,cells[m]?=some a->(vs.getD m Go.undef).oneCell'=true/\RA g h w a (vs.getD m Go.undef)
theorem pN.set {h:Nat->Option O} {cells new:List A} {vs:Array Value} {v:Value} {off:Nat} (hc:pN g h w cells vs) (hle:off+new.length<=cells.length) (hv:pN g h w new v.cells):
  pN g h w (gK cells off new) (aFt vs off v):=by
 refine ⟨by rw [aCk,hc.1];grind [gK],fun m a ha=>?_⟩
 rw [uC _ _ _ _ hle] at ha
 rw [aKC _ _ _ _ (by rw [hv.1,hc.1];grind),hv.1]
 by_cases h2:off<=m/\m<off+new.length
 ·rw [if_pos h2] at ha
  rw [if_pos h2]
  exact hv.2 _ a ha
 ·rw [if_neg h2] at ha
  rw [if_neg h2]
  exact hc.2 _ a ha
theorem RA.cells' {h:Nat->Option O} {a:A} {v:Value} (ha:RA g h w a v) (hp:yU a=true):pN g h w (eM a) v.cells:=by
 have:=ha.cells (fun b hb=>by
  cases a with
  |agg l=>grind
  |_=>simp only [eM,List.mem_singleton] at hb;subst hb;exact .inr hp)
 exact this
theorem aPG:∀ (as:List (Nat×Nat×A)) (vals:List (Nat×Value)) (cells:List A) (vs:Array Value),vals.length=as.length →
  (∀ (i:Nat) p q,as[i]?=some p->vals[i]?=some q->q.1=p.1/\RA g e.h w p.2.2 q.2)->(∀ p,p∈as->(eM p.2.2).length=p.2.1/\p.1+p.2.1<=cells.length/\yU p.2.2=true) →
  pN g e.h w cells vs->pN g e.h w (aCN cells as) (aLy vs vals)/\∀ (i:Nat) p q,as[i]?=some p->vals[i]?=some q->q.2.cells.size=p.2.1:=by
 intro as
 induction as with
 |nil=>
  intro vals cells vs hl _ _ hc
  have:vals=[]:=List.length_eq_zero_iff.1 hl
  subst this
  exact ⟨hc,fun i p q hp=>by grind⟩
 |cons p as ih=>
  intro vals cells vs hl hra hok hc
  cases vals with
  |nil=>grind
  |cons q vals=>
   obtain ⟨off,n,a⟩:=p
   obtain ⟨off',v⟩:=q
   obtain ⟨h1,h2⟩:=hra 0 _ _ rfl rfl
   simp only at h1 h2
   subst h1
   obtain ⟨h3,h4,h5⟩:=hok (off',n,a) (by simp)
   simp only at h3 h4 h5
   have hv:=h2.cells' h5
   have hset:=hc.set (off:=off') (by omega) hv
   have hlen:(gK cells off' (eM a)).length=cells.length:=by simp [gK];omega
   obtain ⟨g1,g2⟩:=ih vals (gK cells off' (eM a)) (aFt vs off' v) (by simpa using hl) (fun j p q hp hq=>hra (j+1) p q (by simpa using hp) (by simpa using hq))
    (fun p hp=>by rw [hlen];exact hok p (by simp [hp])) hset
   refine ⟨g1,fun i p q hp hq=>?_⟩
   cases i with
   |zero=>simp at hp hq;subst hp;subst hq;simp only;rw [hv.1,h3]
   |succ i=>exact g2 i p q (by simpa using hp) (by simpa using hq)
theorem aQQ (hi:fB c g e.h w) {t:TypeId} {it:TypeInfo} {fs:Array Field} {z:Value} {places:List (Nat×Nat)} {zero:List A} {as:List (Nat×Nat×A)} {parts:List (Nat×Value)} {wr:Wr}
  (ht:P.underlying t=some (.struct fs)) (hit:P.info? t=some it) (hz:it.zero=some z) (hpl:aSa P fs places) (hzo:∀ g h w,pN g h w zero z.cells)
  (hl:parts.length=as.length) (hparts:∀ (i:Nat) p q,as[i]?=some p->parts[i]?=some q->places[q.1]?=some (p.1,p.2.1)/\RA g e.h w p.2.2 q.2)
  (h:Out e (aDU zero as) wr):
  mL P c g e.h w base (Instr.build t parts.toArray) wr:=by
 unfold aDU at h
 split at h
 ·rename_i hall
  rw [cG h]
  have hok:∀ p,p∈as->(eM p.2.2).length=p.2.1/\p.1+p.2.1<=zero.length/\yU p.2.2=true:=by
   grind
  let vals:List (Nat×Value):=(as.zip parts).map fun x=>(x.1.1,x.2.2)
  have hvl:vals.length=as.length:=by grind
  have hfam:=aPG (g:=g) (w:=w) (e:=e) as vals zero z.cells hvl (fun i p q hp hq=>by
   grind) hok (hzo _ _ _)
  have hsz:=(hzo g e.h w).1
  have hfill:=aN2 (fun i=>places.toArray[i]?) parts vals z.cells (by omega) (fun i p q hp hq=>by
   grind)
  have hbuilt:P.built t parts.toArray.toList=some (aLy z.cells vals):=by
   unfold Program.built
   grind [aSa]
  refine .quiet hi (run_build w t _ _ hbuilt) (.agg _ _ hfam.1.1 (fun m a ha=>(hfam.1.2 m a ha).1) (fun m a ha=>(hfam.1.2 m a ha).2))
 ·exact h.fail.elim
theorem aSR {P:Program} (w:World) (t e:TypeId) (len:Nat) (parts:Array (Nat×Value)) (cells:Array Value) (ie:TypeInfo) (z:Value)
  (hu:P.underlying t=some (.slice e)) (hie:P.info? e=some ie) (hz:ie.zero=some z) (hsmall:¬len*ie.size>2 ^ 24)
  (h:Instr.fill (fun i=>some (i*ie.size,ie.size)) ((Array.range (len*ie.size)).map (z.cells[· % z.cells.size]!)) parts.toList=some cells) (h0:len*ie.size=0->parts=#[]):
  (Instr.buildSlice t len parts).run P w=.ok (.slice (some ⟨w.heap.size,0,none⟩) len len) (w.alloc (.cells cells e)):=by
 by_cases hpos:len*ie.size=0
 ·have hp:=h0 hpos
  subst hp
  simp only [Instr.fill,Option.some.injEq] at h
  have e0:Array.range 0=#[]:=rfl
  simp [Instr.buildSlice,run_underlying hu,sizeOf,typeInfo,hie,hpos,newRow,Instr.fill,<-h,e0]
 ·exact run_buildSlice w t e len parts cells ie z hu hie hz hsmall hpos h
theorem aU8 (hi:fB c g e.h w) (hf:¬g.Nm base) {t el:TypeId} {inf:TypeInfo} {z:Value} {zero:List D} {k0 n:Nat} {as:List (Nat×A)} {parts:List (Nat×Value)} {wr:Wr} (ht:P.underlying t=some (.slice el))
  (hinf:P.info? el=some inf) (hz:inf.zero=some z) (hzo:aNg z.cells zero) (hsmall:n*inf.size<=2 ^ 24)
  (hl:parts.length=as.length) (hparts:∀ (i:Nat) p q,as[i]?=some p->parts[i]?=some q->q.1=p.1/\RA g e.h w p.2 q.2)
  (h:Out e (sP base k0 inf.size n zero as) wr):mL P c g e.h w base (Instr.buildSlice t n parts.toArray) wr:=by
 unfold sP at h
 simp only at h
 generalize (if as.any (fun x=>xN (eM x.2))=true then 0 else k0)=k at h
 obtain ⟨⟨es,ns⟩,h1,h2⟩:=Out.bind h
 simp only at h2
 split at h2
 ·rename_i hc
  obtain ⟨c1,c2,c3,c4⟩:=hc
  rw [h2.ret]
  rw [List.all_eq_true] at c2
  have hes:∀ e',e'∈es->e'.2.length=inf.size/\e'.1<n:=by
   grind
  let cs0:Array Value:=(Array.range (n*inf.size)).map (z.cells[· % z.cells.size]!)
  have hzs:z.cells.size=inf.size:=by rw [hzo.1,c3]
  have hf0:Fam g e.h w k inf.size n (List.replicate n zero) cs0 [] (fun _ _ _=>False):=by
   refine ⟨by simp,fun r hr=>by grind,by grind,?_,fun _ _ _ _ _ h=>h.elim,fun _ _ _ h=>h.elim,fun n hn=>by grind⟩
   intro m d hm
   rw [wS] at hm
   split at hm
   ·rename_i hlt
    rw [c3] at hlt
    have:cs0.getD m Go.undef=z.cells.getD (m % zero.length) Go.undef:=by
     have hmod:m % zero.length<z.cells.size:=by grind
     simp only [cs0,Array.getD_eq_getD_getElem?,Array.getElem?_map,Array.getElem?_range]
     grind
    rw [this]
    exact hzo.2 _ d hm w _ k
   grind
  obtain ⟨T',ns',g1,g2,g3⟩:=aTp hi k inf.size n as parts es ns [] (List.replicate n zero) cs0 _ hl hparts h1 hes (by simpa using yY c1) hf0
  have hfill:=aN2 (fun i=>some (i*inf.size,inf.size)) parts (parts.map fun q=>(q.1*inf.size,q.2)) cs0 (by simp) (fun i p q hp hq=>by
   rw [List.getElem?_map,hp] at hq
   simp only [Option.map_some,Option.some.injEq] at hq
   subst hq
   obtain ⟨q1,q2⟩:=g3 p (List.mem_of_getElem? hp)
   have hmul:p.1*inf.size+inf.size<=n*inf.size:=by
    have:(p.1+1)*inf.size<=n*inf.size:=Nat.mul_le_mul_right _ q2
    rw [Nat.add_mul] at this;omega
   exact ⟨by rw [q1],rfl,by simp only [cs0,Array.size_map,Array.size_range];rw [q1];exact hmul⟩)
  have hrun:=aSR (P:=P) w t el n parts.toArray _ inf z ht hinf hz (by omega) hfill (fun h0=>by
   have hn0:n=0:=by
    rcases Nat.mul_eq_zero.1 h0 with h|h
    ·exact h
    ·omega
   subst hn0
   cases hp:parts with
   |nil=>rfl
   |cons p ps=>have:=(g3 p (by rw [hp];simp)).2;omega)
  have:=aCs (P:=P) (base:=base) (r:=Instr.buildSlice t n parts.toArray) (k:=k) (sz:=inf.size) (cap:=n) (rows:=aBw (List.replicate n zero) es) (ns:=ns) (T:=T') hi hf
   (rW.alloc w _ el) (fun q hq=>g1.live q ((g2 q).2 (.inl hq))) (Nat.le_of_eq g1.len) (by rw [g1.size];exact Nat.le_refl _) g1.row
   (fun m d hm=>Own.mono (fun b o hb=>by
    rcases hb with hb|⟨hk0,q,hq,hb⟩
    ·exact .inl hb
    ·exact .inr ⟨hk0,q,by simpa using (g2 q).1 hq,hb⟩) (eZ.refl _ _) k (eZ.refl _ _) (g1.own m d hm)) (fun i j _ _ hij=>g1.disj i j hij)
   (fun m _ x y hxy=>by obtain ⟨q,hq,hF⟩:=g1.sub m x y hxy;exact ⟨q,by simpa using (g2 q).1 hq,hF⟩) (by rw [g1.len];exact hrun)
  grind
 ·exact h2.fail.elim
theorem aVc (hi:fB c g e.h w) {f:FuncId} {as:List A} {vs:Array Value} (hl:vs.size=as.length) (hra:∀ (m:Nat) a,as[m]?=some a->RA g e.h w a (vs.getD m Go.undef)):
  mL P c g e.h w base (Instr.makeFunc (.func f) #[] vs) { val:=.clo f as }:=
 .quiet hi (by rfl) (.clo f as vs hl hra)
end
def eU (w:World) (b:Nat):Nat->List Value->World
 |_,[]=>w
 |q,v::r=>eU (w.setCell (at_ b q) v) b (q+1) r
theorem lD (b:Nat):∀ (vs:List Value) (w:World) (q:Nat),(eU w b q vs).heap.size=w.heap.size:=by
 intro vs
 induction vs with
 |nil=>intro w q;rfl
 |cons v vs ih=>simp only [eU];simp_all
theorem uA (b:Nat):∀ (vs:List Value) (w:World) (q:Nat),(eU w b q vs).os=w.os/\(eU w b q vs).output=w.output:=by
 intro vs
 induction vs with
 |nil=>intro w q;exact ⟨rfl,rfl⟩
 |cons v vs ih=>intro w q;exact ih _ _
theorem uB (b:Nat) {k:Nat} (hk:k≠b):∀ (vs:List Value) (w:World) (q:Nat),(eU w b q vs).heap[k]?=w.heap[k]?:=by
 intro vs
 induction vs with
 |nil=>intro w q;rfl
 |cons v vs ih=>intro w q;simp only [eU];rw [ih];exact heap_setCell_other w _ k v hk
theorem iR (b:Nat) (a:Addr):∀ (vs:List Value) (w:World) (q:Nat),(eU w b q vs).frz? a=w.frz? a:=by
 intro vs
 induction vs with
 |nil=>intro w q;rfl
 |cons v vs ih=>simp only [eU];simp_all
theorem fF (b:Nat) {x m:Nat}:∀ (vs:List Value) (w:World) (q:Nat),¬(x=b/\q<=m/\m<q+vs.length)->(eU w b q vs).cell? (at_ x m)=w.cell? (at_ x m):=by
 intro vs
 induction vs with
 |nil=>intro w q _;rfl
 |cons v vs ih=>
  intro w q h
  simp only [List.length_cons] at h
  simp only [eU]
  rw [ih _ _ (by omega)]
  refine World.cell?_setCell_other w _ _ v ?_
  grind
theorem nC (b:Nat):∀ (vs:List Value) (w:World) (q:Nat),wY w b q vs.length->∀ (m:Nat) v,vs[m]?=some v->(eU w b q vs).cell? (at_ b (q+m))=some v:=by
 intro vs
 induction vs with
 |nil=>grind
 |cons u vs ih=>
  intro w q hr m v hm
  simp only [eU]
  obtain ⟨⟨x,hx⟩,_⟩:=hr 0 (by simp)
  have hset:=World.cell?_setCell_same w (at_ b q) u hx
  cases m with
  |zero=>
   simp at hm
   rw [fF b vs _ _ (by omega)]
   grind
  |succ m=>
   have hr':wY (w.setCell (at_ b q) u) b (q+1) vs.length:=by
    intro o ho
    obtain ⟨⟨y,hy⟩,hf⟩:=hr (o+1) (by grind)
    refine ⟨⟨y,?_⟩,by simpa [Nat.add_assoc,Nat.add_comm 1 o] using hf⟩
    rw [World.cell?_setCell_other w _ _ u (by grind)]
    grind
   grind
theorem wA (P:Program) (b o:Nat):∀ (vs:List Value) (w:World) (i:Nat),wY w b (o+i) vs.length->(∀ v,v∈vs->v.oneCell'=true) →
  (storeCells (at_ b o) vs i).run P w=.ok () (eU w b (o+i) vs):=by
 intro vs
 induction vs with
 |nil=>intro w i _ _;rfl
 |cons v vs ih=>
  intro w i hr h1
  obtain ⟨⟨x,hx⟩,hf⟩:=hr 0 (by simp)
  simp only [Nat.add_zero] at hx hf
  have ha:Addr.add (at_ b o) i=at_ b (o+i):=pF b o i
  simp only [storeCells,Sem.run_bind,ha,run_store P w (at_ b (o+i)) v .plain (h1 v (by simp)),hx,aPv hx hf,Bool.false_eq_true,if_false,Result.andThen_ok]
  rw [ih (w.setCell (at_ b (o+i)) v) (i+1) ?_ (fun u hu=>h1 u (by grind))]
  ·rfl
  ·intro q hq
   obtain ⟨⟨y,hy⟩,hf⟩:=hr (q+1) (by grind)
   refine ⟨⟨y,?_⟩,by simpa [Nat.add_assoc,Nat.add_comm 1 q] using hf⟩
   rw [World.cell?_setCell_other w _ _ v (by grind)]
   grind
theorem Own.congr {w:World} {Fz:bK} {k:Nat} {v:Value} {d:D} {S S':bK} (h:Own w Fz k v d S) (e:∀ x y,S x y ↔ S' x y):Own w Fz k v d S':=by
 have:S=S':=by grind
 grind
theorem aG8 {rows:List (List D)} {sz i j:Nat} {row:List D} {d0 d:D} (h:∀ r,r∈rows->r.length=sz) (hi:rows[i]?=some row) (hj:row[j]?=some d0) (m:Nat):
  (rows.set i ((rows.getD i []).set j d)).flatten[m]?=if m=i*sz+j then some d else rows.flatten[m]?:=by
 have hlt:=(List.getElem?_eq_some_iff.1 hi).1
 have hg:rows.getD i []=row:=by grind
 have hrl:row.length=sz:=h row (List.mem_of_getElem? hi)
 rw [aE4 h hlt (by grind)]
 by_cases h1:i*sz<=m/\m<i*sz+sz
 ·by_cases h2:m=i*sz+j
  ·grind
  ·have hm:m-i*sz<row.length:=by omega
   have:=jN h hi (List.getElem?_eq_getElem hm)
   grind
 grind
def aSn (T:Nat->bK) (n:Nat) (S:bK):Nat->bK:=fun m=>if m=n then S else T m
theorem jS (T:Nat->bK) (n:Nat) (S:bK):aSn T n S n=S:=if_pos rfl
theorem mF (T:Nat->bK) {n m:Nat} (S:bK) (h:m≠n):aSn T n S m=T m:=if_neg h
theorem aH1 {w:World} {Fz:bK}:∀ (p:List (Nat×Nat)) (k sz:Nat) (rows:List (List D)) (v hv:Value) (S:bK) (sz':Nat) (rows':List (List D)),
  Own w Fz k v (.slc sz rows) S->iW w sz rows v p=some hv->eF sz rows p=some (sz',rows')->p.length<k →
  ∃ S1:bK,(∀ x y,S1 x y->S x y)/\Own w Fz (k-p.length) hv (.slc sz' rows') S1 ∧
   ∀ (w':World) (Fz':bK) (new:List (List D)) (S1':bK),(∀ b o,Fz b o->Fz' b o)->eZ w w' Fz →
    (∀ b o,S b o->¬S1 b o->w'.cell? (at_ b o)=w.cell? (at_ b o)/\w'.frz? (at_ b o)=w.frz? (at_ b o))->(∀ x y,S1' x y->S1 x y\/¬S x y) →
    Own w' Fz' (k-p.length) hv (.slc sz' new) S1'->Own w' Fz' k v (.slc sz (lA sz rows p new)) (fun x y=>(S x y/\¬S1 x y)\/S1' x y):=by
 intro p
 induction p with
 |nil=>
  intro k sz rows v hv S sz' rows' ho h1 h2 hk
  simp only [iW,Option.some.injEq] at h1
  simp only [eF,Option.some.injEq,Prod.mk.injEq] at h2
  obtain ⟨rfl,rfl⟩:=h2
  subst h1
  refine ⟨S,fun _ _ h=>h,ho,fun w' Fz' new S1' _ _ _ _ hn=>hn.congr fun x y=>⟨fun h=>.inr h,fun h=>h.elim (fun h=>absurd h.1 h.2) id⟩⟩
 |cons ij p ih=>
  intro k sz rows v hv S sz' rows' ho h1 h2 hk
  obtain ⟨i,j⟩:=ij
  simp only [List.length_cons] at hk
  obtain ⟨k,rfl⟩:∃ q,k=q+1:=⟨k-1,by omega⟩
  unfold iW at h1
  split at h1
  ·rename_i a len cap sz1 rows1 he
   split at h1
   ·rename_i u hu
    unfold eF at h2
    rw [he] at h2
    simp only at h2
    obtain ⟨row,hrow,hd⟩:=mU he
    rcases ho with ⟨e1,_⟩|⟨b,off,cap',T,e1,g1,g2,g3,g4,g5,g6,g7⟩
    ·grind
    ·cases e1
     have hm:=jN g3 hrow hd
     have hmlt:=jB hm
     have hfl:=iE g3
     have hle:rows.length*sz<=cap*sz:=Nat.mul_le_mul_right _ g1
     obtain ⟨u',hu',ho'⟩:=g4 _ _ hm
     have:u'=u:=by
      have:=hu'.symm.trans hu
      exact Option.some.inj this
     subst this
     obtain ⟨S1,s1,s2,s3⟩:=ih k sz1 rows1 u' hv (T (i*sz+j)) sz' rows' ho' h1 h2 (by omega)
     have hkk:k+1-(p.length+1)=k-p.length:=by omega
     refine ⟨S1,fun x y h=>(g7 x y).2 (.inr ⟨_,hmlt,s1 x y h⟩),by rw [List.length_cons,hkk];exact s2,?_⟩
     intro w' Fz' new S1' f1 f2 f3 f4 f6
     rw [List.length_cons,hkk] at f6
     have hS1rng:∀ x y,S1 x y->¬rng b off (cap*sz) x y:=fun x y h hr=>g6 _ hmlt x y hr (s1 x y h)
     have hkeep:eZ w w' (rng b off (cap*sz)):=fun x y hr=>f3 x y ((g7 x y).2 (.inl hr)) fun h=>hS1rng x y h hr
     have hTn:∀ x y,T (i*sz+j) x y->S x y:=fun x y h=>(g7 x y).2 (.inr ⟨_,hmlt,h⟩)
     have hnew:=s3 w' Fz' new S1' f1 f2 (fun x y h h'=>f3 x y (hTn x y h) h') (fun x y h=>(f4 x y h).imp id fun h1 h2=>h1 (hTn x y h2)) f6
     have hset:lA sz rows ((i,j)::p) new=rows.set i ((rows.getD i []).set j (.slc sz1 (lA sz1 rows1 p new))):=by
      simp only [lA,he]
     rw [hset]
     have hlen:(rows.set i ((rows.getD i []).set j (.slc sz1 (lA sz1 rows1 p new)))).length=rows.length:=by simp
     have hrl:∀ r,r∈rows.set i ((rows.getD i []).set j (.slc sz1 (lA sz1 rows1 p new)))->r.length=sz:=by
      intro r hr
      rcases List.mem_or_eq_of_mem_set hr with h|rfl
      ·exact g3 r h
      ·have:rows.getD i []=row:=by simp [List.getD,hrow]
       rw [this];simp [g3 row (List.mem_of_getElem? hrow)]
     have hfl':(rows.set i ((rows.getD i []).set j (.slc sz1 (lA sz1 rows1 p new)))).flatten.length=rows.flatten.length:=by
      rw [iE hrl,hlen,hfl]
     refine .inr ⟨b,off,cap,aSn T (i*sz+j) (fun x y=>(T (i*sz+j) x y/\¬S1 x y)\/S1' x y),by rw [hlen],by rw [hlen];exact g1,g2.keep hkeep,hrl,?_,?_,?_,?_⟩
     ·intro m d hmd
      rw [aG8 g3 hrow hd] at hmd
      by_cases hmm:m=i*sz+j
      ·subst hmm
       rw [if_pos rfl] at hmd
       cases hmd
       refine ⟨u',?_,by rw [jS];exact hnew⟩
       exact ((hkeep b (off+(i*sz+j)) ⟨rfl,by omega,by omega⟩).1).trans hu'
      ·rw [if_neg hmm] at hmd
       have hmlt':=jB hmd
       obtain ⟨x,hx,hox⟩:=g4 m d hmd
       refine ⟨x,((hkeep b (off+m) ⟨rfl,by omega,by omega⟩).1).trans hx,?_⟩
       rw [mF _ _ hmm]
       refine Own.mono f1 f2 k (fun y z hyz=>f3 y z ((g7 y z).2 (.inr ⟨m,hmlt',hyz⟩)) fun h=>g5 m _ hmlt' hmlt hmm y z hyz (s1 y z h)) hox
     ·rw [hfl']
      intro m m' hm1 hm2 hne x y h1 h2
      by_cases c1:m=i*sz+j
      ·have c2:m'≠i*sz+j:=fun e=>hne (c1.trans e.symm)
       rw [c1,jS] at h1
       rw [mF _ _ c2] at h2
       rcases h1 with h1|h1
       ·exact g5 _ m' hmlt hm2 (fun e=>c2 e.symm) x y h1.1 h2
       ·rcases f4 x y h1 with h3|h3
        ·exact g5 _ m' hmlt hm2 (fun e=>c2 e.symm) x y (s1 x y h3) h2
        ·exact h3 ((g7 x y).2 (.inr ⟨m',hm2,h2⟩))
      ·rw [mF _ _ c1] at h1
       by_cases c2:m'=i*sz+j
       ·rw [c2,jS] at h2
        rcases h2 with h2|h2
        ·exact g5 m _ hm1 hmlt c1 x y h1 h2.1
        ·rcases f4 x y h2 with h3|h3
         ·exact g5 m _ hm1 hmlt c1 x y h1 (s1 x y h3)
         ·exact h3 ((g7 x y).2 (.inr ⟨m,hm1,h1⟩))
       ·rw [mF _ _ c2] at h2
        exact g5 m m' hm1 hm2 hne x y h1 h2
     ·rw [hfl']
      intro m hm1 x y hr h1
      by_cases c1:m=i*sz+j
      ·rw [c1,jS] at h1
       rcases h1 with h1|h1
       ·exact g6 _ hmlt x y hr h1.1
       ·rcases f4 x y h1 with h3|h3
        ·exact hS1rng x y h3 hr
        ·exact h3 ((g7 x y).2 (.inl hr))
      ·rw [mF _ _ c1] at h1
       exact g6 m hm1 x y hr h1
     ·intro x y
      rw [hfl']
      constructor
      ·rintro (⟨h1,h2⟩|h1)
       ·rcases (g7 x y).1 h1 with h3|⟨m,hm1,h3⟩
        ·exact .inl h3
        ·by_cases c1:m=i*sz+j
         ·exact .inr ⟨i*sz+j,hmlt,by rw [jS];exact .inl ⟨c1 ▸ h3,h2⟩⟩
         ·exact .inr ⟨m,hm1,by rw [mF _ _ c1];exact h3⟩
       ·exact .inr ⟨i*sz+j,hmlt,by rw [jS];exact .inr h1⟩
      ·rintro (h1|⟨m,hm1,h1⟩)
       ·exact .inl ⟨(g7 x y).2 (.inl h1),fun h=>hS1rng x y h h1⟩
       ·by_cases c1:m=i*sz+j
        ·rw [c1,jS] at h1
         rcases h1 with ⟨h1,h2⟩|h1
         ·exact .inl ⟨hTn x y h1,h2⟩
         ·exact .inr h1
        ·rw [mF _ _ c1] at h1
         exact .inl ⟨(g7 x y).2 (.inr ⟨m,hm1,h1⟩),fun h=>g5 m _ hm1 hmlt c1 x y h1 (s1 x y h)⟩
   grind
  grind
theorem aIh {sz i j i2 j2:Nat} (h:i*sz+j=i2*sz+j2) (hj:j<sz) (hj2:j2<sz):i=i2/\j=j2:=by
 have:i=i2:=by
  rcases Nat.lt_trichotomy i i2 with h1|h1|h1
  ·have:=Nat.mul_le_mul_right sz (show i+1<=i2 from h1);grind
  ·grind
  ·have:=Nat.mul_le_mul_right sz (show i2+1<=i from h1);grind
 grind
theorem aQw {new:List (List D)}:∀ (p:List (Nat×Nat)) (sz:Nat) (rows:List (List D)) (sz':Nat) (rows':List (List D)),eF sz rows p=some (sz',rows') →
  (∀ (i j s:Nat) (r:List (List D)),(rows'[i]?).bind (·[j]?)=some (D.slc s r)->(new[i]?).bind (·[j]?)=some (D.slc s r)) →
  ∀ (p2:List (Nat×Nat)) (s:Nat) (r0:List (List D)),eF sz rows p2=some (s,r0)->∃ r,eF sz (lA sz rows p new) p2=some (s,r):=by
 intro p
 induction p with
 |nil=>
  intro sz rows sz' rows' h1 hn p2 s r0 h
  simp only [eF,Option.some.injEq,Prod.mk.injEq] at h1
  obtain ⟨rfl,rfl⟩:=h1
  cases p2 with
  |nil=>grind [eF,Option.some.injEq,Prod.mk.injEq,lA]
  |cons ij q=>
   obtain ⟨i,j⟩:=ij
   unfold eF at h
   split at h
   ·rename_i s1 r1 he
    refine ⟨r0,?_⟩
    simp only [lA]
    unfold eF
    rw [hn i j s1 r1 he]
    exact h
   grind
 |cons ij p ih=>
  intro sz rows sz' rows' h1 hn p2 s r0 h
  obtain ⟨i,j⟩:=ij
  unfold eF at h1
  split at h1
  ·rename_i s1 r1 he
   obtain ⟨row,hrow,hd⟩:=mU he
   have hset:lA sz rows ((i,j)::p) new=rows.set i ((rows.getD i []).set j (.slc s1 (lA s1 r1 p new))):=by grind [lA]
   rw [hset]
   have hg:rows.getD i []=row:=by grind
   rw [hg]
   have hil:=(List.getElem?_eq_some_iff.1 hrow).1
   have hjl:=(List.getElem?_eq_some_iff.1 hd).1
   cases p2 with
   |nil=>simp only [eF,Option.some.injEq,Prod.mk.injEq] at h;obtain ⟨rfl,_⟩:=h;exact ⟨_,rfl⟩
   |cons ij2 q=>
    obtain ⟨i2,j2⟩:=ij2
    unfold eF at h
    split at h
    ·rename_i s2 r2 he2
     by_cases hii:i2=i
     ·subst hii
      rw [hrow,Option.bind_some] at he2
      by_cases hjj:j2=j
      ·subst hjj
       rw [hd] at he2
       cases he2
       obtain ⟨r,hr⟩:=ih s1 r1 sz' rows' h1 hn q s r0 h
       refine ⟨r,?_⟩
       unfold eF
       simp only [List.getElem?_set_self hil,Option.bind_some,List.getElem?_set_self hjl]
       exact hr
      ·refine ⟨r0,?_⟩
       unfold eF
       simp only [List.getElem?_set_self hil,Option.bind_some,List.getElem?_set_ne (Ne.symm hjj),he2]
       exact h
     ·refine ⟨r0,?_⟩
      unfold eF
      simp only [List.getElem?_set_ne (Ne.symm hii),he2]
      exact h
    grind
  grind
theorem aTB {w w':World} {Fz Wt:bK} (hz:eZ w w' Fz) {new:List (List D)}:∀ (p:List (Nat×Nat)) (k sz:Nat) (rows:List (List D)) (v hv:Value) (S:bK) (sz':Nat) (rows':List (List D)),
  Own w Fz k v (.slc sz rows) S->iW w sz rows v p=some hv->eF sz rows p=some (sz',rows')->p.length<k →
  (∀ x y,Wt x y->∃ (b q len cap i j:Nat) (d:D),hv=.slice (some (at_ b q)) len cap/\x=b/\y=q+(i*sz'+j)/\(rows'[i]?).bind (·[j]?)=some d/\aBB d=false) →
  (∀ (i j s:Nat) (r:List (List D)),(rows'[i]?).bind (·[j]?)=some (D.slc s r)->(new[i]?).bind (·[j]?)=some (D.slc s r)) →
  (∀ x y,S x y->¬Wt x y->w'.cell? (at_ x y)=w.cell? (at_ x y)/\w'.frz? (at_ x y)=w.frz? (at_ x y)) →
  ∀ (p2:List (Nat×Nat)) (u:Value),iW w sz rows v p2=some u->iW w' sz (lA sz rows p new) v p2=some u:=by
 intro p
 induction p with
 |nil=>
  intro k sz rows v hv S sz' rows' ho h1 h2 hk hW hn hkeep p2 u h
  simp only [iW,Option.some.injEq] at h1
  simp only [eF,Option.some.injEq,Prod.mk.injEq] at h2
  obtain ⟨rfl,rfl⟩:=h2
  subst h1
  cases p2 with
  |nil=>exact h
  |cons ij q=>
   obtain ⟨i,j⟩:=ij
   obtain ⟨k,rfl⟩:∃ q,k=q+1:=⟨k-1,by grind⟩
   simp only [lA]
   unfold iW at h ⊢
   split at h
   ·rename_i a len cap s1 r1 he
    split at h
    ·rename_i x hx
     obtain ⟨row,hrow,hd⟩:=mU he
     rcases ho with ⟨e1,_⟩|⟨b,off,cap',T,e1,g1,g2,g3,g4,g5,g6,g7⟩
     ·grind
     ·cases e1
      have hm:=jN g3 hrow hd
      have hmlt:=jB hm
      have hfl:=iE g3
      have hle:rows.length*sz<=cap*sz:=Nat.mul_le_mul_right _ g1
      have hjl:=(List.getElem?_eq_some_iff.1 hd).1
      rw [g3 row (List.mem_of_getElem? hrow)] at hjl
      have hWr:∀ x y,Wt x y->x=b/\∃ i2 j2 d,y=off+(i2*sz+j2)/\(rows[i2]?).bind (·[j2]?)=some d/\aBB d=false/\j2<sz/\i2*sz+j2<cap*sz:=by
       intro x y hxy
       obtain ⟨b',q',l',c',i2,j2,d,e1,e2,e3,e4,e5⟩:=hW x y hxy
       cases e1
       obtain ⟨row2,hr2,hd2⟩:=mU e4
       have h2:=jB (jN g3 hr2 hd2)
       have hj2:=(List.getElem?_eq_some_iff.1 hd2).1
       rw [g3 row2 (List.mem_of_getElem? hr2)] at hj2
       exact ⟨e2,i2,j2,d,e3,e4,e5,hj2,by omega⟩
      have hcell:w'.cell? (at_ b (off+(i*sz+j)))=some x:=by
       rw [(hkeep b (off+(i*sz+j)) ((g7 _ _).2 (.inl ⟨rfl,by omega,by omega⟩)) fun hw=>?_).1]
       ·exact hx
       ·obtain ⟨_,i2,j2,d,e3,e4,e5,e6,_⟩:=hWr _ _ hw
        obtain ⟨rfl,rfl⟩:=aIh (show i*sz+j=i2*sz+j2 by omega) hjl e6
        rw [he] at e4
        cases e4
        simp [aBB] at e5
      obtain ⟨x',hx',hox⟩:=g4 _ _ hm
      have hxx:x'=x:=Option.some.inj (hx'.symm.trans hx)
      subst hxx
      rw [hn i j s1 r1 he]
      simp only [hcell]
      refine aCC hz q k s1 r1 x' u (T (i*sz+j)) hox (fun y z hyz=>hkeep y z ((g7 y z).2 (.inr ⟨_,hmlt,hyz⟩)) fun hw=>?_) h
      obtain ⟨e1,i2,j2,d,e3,_,_,_,e6⟩:=hWr _ _ hw
      exact g6 _ hmlt y z ⟨e1,by omega,by omega⟩ hyz
    grind
   grind
 |cons ij p ih=>
  intro k sz rows v hv S sz' rows' ho h1 h2 hk hW hn hkeep p2 u h
  obtain ⟨i,j⟩:=ij
  simp only [List.length_cons] at hk
  obtain ⟨k,rfl⟩:∃ q,k=q+1:=⟨k-1,by omega⟩
  unfold iW at h1
  split at h1
  ·rename_i a len cap s1 r1 he
   split at h1
   ·rename_i x hx
    unfold eF at h2
    rw [he] at h2
    simp only at h2
    obtain ⟨row,hrow,hd⟩:=mU he
    rcases ho with ⟨e1,_⟩|⟨b,off,cap',T,e1,g1,g2,g3,g4,g5,g6,g7⟩
    ·cases e1
    ·cases e1
     have hm:=jN g3 hrow hd
     have hmlt:=jB hm
     have hfl:=iE g3
     have hle:rows.length*sz<=cap*sz:=Nat.mul_le_mul_right _ g1
     have hjl:=(List.getElem?_eq_some_iff.1 hd).1
     have hjs:=hjl
     rw [g3 row (List.mem_of_getElem? hrow)] at hjs
     have hil:=(List.getElem?_eq_some_iff.1 hrow).1
     obtain ⟨x',hx',hox⟩:=g4 _ _ hm
     have hxx:x'=x:=Option.some.inj (hx'.symm.trans hx)
     subst hxx
     have hset:lA sz rows ((i,j)::p) new=rows.set i ((rows.getD i []).set j (.slc s1 (lA s1 r1 p new))):=by simp only [lA,he]
     have hg:rows.getD i []=row:=by simp [List.getD,hrow]
     rw [hset,hg]
     have hWT:∀ y z,Wt y z->T (i*sz+j) y z:=by
      intro y z hyz
      obtain ⟨S1,c1,c2,_⟩:=aH1 p k s1 r1 x' hv (T (i*sz+j)) sz' rows' hox h1 h2 (by omega)
      obtain ⟨b',q',l',c',i2,j2,d,e1,e2,e3,e4,e5⟩:=hW y z hyz
      refine c1 y z ?_
      rw [show k-p.length=(k-p.length-1)+1 by omega] at c2
      obtain ⟨row2,hr2,hd2⟩:=mU e4
      rcases c2 with ⟨f1,_⟩|⟨b2,off2,cap2,T2,f1,q1,q2,q3,q4,q5,q6,q7⟩
      ·rw [f1] at e1;cases e1
      ·rw [f1] at e1;cases e1
       have h3:=jB (jN q3 hr2 hd2)
       rw [iE q3] at h3
       have hle2:rows'.length*sz'<=c'*sz':=Nat.mul_le_mul_right _ q1
       exact (q7 y z).2 (.inl ⟨e2,by omega,by omega⟩)
     cases p2 with
     |nil=>exact h
     |cons ij2 q=>
      obtain ⟨i2,j2⟩:=ij2
      unfold iW at h ⊢
      split at h
      ·rename_i a2 len2 cap2 s2 r2 ha2 he2
       split at h
       ·rename_i x2 hx2
        cases ha2
        obtain ⟨row2,hrow2,hd2⟩:=mU he2
        have hm2:=jN g3 hrow2 hd2
        have hmlt2:=jB hm2
        have hj2:=(List.getElem?_eq_some_iff.1 hd2).1
        rw [g3 row2 (List.mem_of_getElem? hrow2)] at hj2
        have hcell:w'.cell? (at_ b (off+(i2*sz+j2)))=some x2:=by
         rw [(hkeep b (off+(i2*sz+j2)) ((g7 _ _).2 (.inl ⟨rfl,by omega,by omega⟩)) fun hw=>g6 _ hmlt _ _ ⟨rfl,by omega,by omega⟩ (hWT _ _ hw)).1]
         exact hx2
        obtain ⟨y2,hy2,hoy⟩:=g4 _ _ hm2
        have hyy:y2=x2:=Option.some.inj (hy2.symm.trans hx2)
        subst hyy
        have other:i2*sz+j2≠i*sz+j->iW w' s2 r2 y2 q=some u:=fun hne=>
         aCC hz q k s2 r2 y2 u (T (i2*sz+j2)) hoy (fun y z hyz=>hkeep y z ((g7 y z).2 (.inr ⟨_,hmlt2,hyz⟩)) fun hw=>g5 _ _ hmlt2 hmlt hne y z hyz (hWT y z hw)) h
        by_cases hii:i2=i
        ·subst hii
         rw [hrow,Option.bind_some] at he2
         by_cases hjj:j2=j
         ·subst hjj
          rw [hd] at he2
          cases he2
          have hxe:y2=x':=Option.some.inj (hy2.symm.trans hx')
          subst hxe
          simp only [List.getElem?_set_self hil,Option.bind_some,List.getElem?_set_self hjl,hcell]
          exact ih k s1 r1 y2 hv (T (i2*sz+j2)) sz' rows' hoy h1 h2 (by omega) hW hn (fun y z hyz hw=>hkeep y z ((g7 y z).2 (.inr ⟨_,hmlt,hyz⟩)) hw) q u h
         ·simp only [List.getElem?_set_self hil,Option.bind_some,List.getElem?_set_ne (Ne.symm hjj),he2,hcell]
          exact other (fun e=>hjj (aIh e hj2 hjs).2)
        ·simp only [List.getElem?_set_ne (Ne.symm hii),he2,hcell]
         exact other (fun e=>hii (aIh e hj2 hjs).1)
       ·cases h
      ·cases h
   ·cases h1
  ·cases h1
theorem aOT {rows:List (List D)} {i off n:Nat} {row ds:List D} (hrow:rows[i]?=some row) (hle:off+n<=row.length) (hdl:ds.length=n) (h1:∀ d,d∈(row.drop off).take n->aBB d=false):
  ∀ (i2 j2 s:Nat) (r:List (List D)),(rows[i2]?).bind (·[j2]?)=some (D.slc s r)->((rows.set i (oG row off ds))[i2]?).bind (·[j2]?)=some (D.slc s r):=by
 intro i2 j2 s r h
 have hil:=(List.getElem?_eq_some_iff.1 hrow).1
 by_cases hii:i2=i
 ·subst hii
  rw [List.getElem?_set_self hil,Option.bind_some]
  have hno:¬(off<=j2/\j2<off+n):=by
   rintro ⟨h3,h4⟩
   have:(.slc s r:D)∈(row.drop off).take n:=by
    refine List.mem_of_getElem? (i:=j2-off) ?_
    grind
   grind [aBB]
  unfold oG
  by_cases h3:j2<off
  ·grind
  ·rw [List.getElem?_append_right (by grind),List.getElem?_drop]
   grind
 grind
def aUv (P:Program) (c:Ctx) (g:Gh) (h:Nat->Option O) (w:World) (base:Nat) (r:Sem Unit) (wr:Wr):Prop:=
 ∃ g' w',r.run P w=.ok () w'/\fB c g' (eS h wr.objs) w'/\Ext g g' h (eS h wr.objs) w w'/\RA g' (eS h wr.objs) w' wr.val Go.undef ∧
  ∀ n,g'.Nm n->g.Nm n\/(base<=n/\n<base+64)
theorem aOB (row:List D) (off:Nat) (ds:List D) (h:off+ds.length<=row.length) (m:Nat):
  (oG row off ds)[m]?=if off<=m/\m<off+ds.length then ds[m-off]? else row[m]?:=by
 unfold oG
 by_cases h1:m<off
 ·rw [if_neg (by omega),List.append_assoc,List.getElem?_append_left (by simp;omega),List.getElem?_take_of_lt h1]
 ·by_cases h2:m<off+ds.length
  ·rw [if_pos ⟨by omega,h2⟩,List.append_assoc,List.getElem?_append_right (by simp;omega),List.getElem?_append_left (by simp;omega)]
   congr 1;simp;omega
  ·rw [if_neg (by omega),List.append_assoc,List.getElem?_append_right (by simp;omega),List.getElem?_append_right (by simp;omega),List.getElem?_drop]
   congr 1;simp;omega
theorem aGG (row:List D) (off:Nat) (ds:List D) (h:off+ds.length<=row.length):(oG row off ds).length=row.length:=by simp [oG];omega
section
variable {P:Program} {c:Ctx} {g:Gh} {w:World} {base:Nat} {e:Env}
theorem aC2 {t:TypeId} {inf:TypeInfo} (hinf:P.info? t=some inf) {b q:Nat} {v:Value} (hv:v.cells.size=inf.size) (hr:wY w b q v.cells.size) (h1:∀ u,u∈v.cells.toList->u.oneCell'=true):
  (Instr.storeAt t (.pointer (some (at_ b q))) v).run P w=.ok () (eU w b q v.cells.toList):=by
 have hs:=wA P b q v.cells.toList w 0 (by simpa using hr) h1
 simp only [Nat.add_zero] at hs
 simp only [Instr.storeAt,Instr.sureAddr,Sem.run_bind,Sem.run_pure,Result.andThen_ok,storeVar,sizeOf,typeInfo,run_program,hinf]
 rw [if_neg (by simp [hv])]
 exact hs
theorem aS6 {k b o len cap sz i off:Nat} {rows:List (List D)} {row ds:List D} {S:bK} {vs:Nat->Value} {us:List Value} {ns:List Nat} {Fz':bK} {h:Nat->Option O}
  (ho:Own w g.Fz (k+1) (.slice (some (at_ b o)) len cap) (.slc sz rows) S) (hrow:rows[i]?=some row) (hle:off+ds.length<=row.length)
  (ht:aTY g h w k ds.length vs ds ns) (hus:us.length=ds.length) (hv:∀ (m:Nat) u,us[m]?=some u->u=vs m) (hF:∀ x y,FzP g k ns x y->Fz' x y)
  (hout:∀ q,q∈ns->∀ x y,g.F q x y->¬S x y) (hSz:∀ x y,S x y->¬g.Fz x y):
  ∃ S',(∀ x y,S' x y->S x y\/∃ q,q∈ns/\g.F q x y)/\(k=0->∀ x y,S' x y->S x y)/\wY w b (o+(i*sz+off)) ds.length/\(∀ m,m<ds.length->S b (o+(i*sz+off)+m)) ∧
   Own (eU w b (o+(i*sz+off)) us) Fz' (k+1) (.slice (some (at_ b o)) len cap) (.slc sz (rows.set i (oG row off ds))) S':=by
 obtain ⟨t1,t2,t3,T2,t4,t5,t6⟩:=ht
 rcases ho with ⟨e1,_⟩|⟨b',o',cap',T,e1,g1,g2,g3,g4,g5,g6,g7⟩
 ·cases e1
 ·cases e1
  have hil:=(List.getElem?_eq_some_iff.1 hrow).1
  have hrl:row.length=sz:=g3 row (List.mem_of_getElem? hrow)
  have hfl:=iE g3
  have hle2:rows.length*sz<=cap*sz:=Nat.mul_le_mul_right _ g1
  have hmul:i*sz+sz<=rows.length*sz:=by
   have:(i+1)*sz<=rows.length*sz:=Nat.mul_le_mul_right _ hil
   rw [Nat.add_mul] at this;omega
  have hroom:wY w b (o+(i*sz+off)) ds.length:=by
   intro q hq
   obtain ⟨h1,h2⟩:=g2 (i*sz+off+q) (by omega)
   rw [show o+(i*sz+off)+q=o+(i*sz+off+q) by omega]
   exact ⟨h1,h2⟩
  have hin:∀ m,m<ds.length->S b (o+(i*sz+off)+m):=fun m hm=>(g7 _ _).2 (.inl ⟨rfl,by omega,by omega⟩)
  have hnr:∀ x y,¬(x=b/\o+(i*sz+off)<=y/\y<o+(i*sz+off)+us.length) →
    (eU w b (o+(i*sz+off)) us).cell? (at_ x y)=w.cell? (at_ x y)/\(eU w b (o+(i*sz+off)) us).frz? (at_ x y)=w.frz? (at_ x y):=
   fun x y h=>⟨fF b us w _ h,iR b _ us w _⟩
  have hkz:∀ (Z:bK),(∀ x y,Z x y->¬rng b o (cap*sz) x y)->eZ w (eU w b (o+(i*sz+off)) us) Z:=by
   intro Z hZ x y hz
   refine hnr x y fun h=>hZ x y hz ⟨h.1,by omega,by omega⟩
  let T':Nat->bK:=fun m=>if i*sz+off<=m/\m<i*sz+off+ds.length then T2 (m-(i*sz+off)) else T m
  have hnl:(rows.set i (oG row off ds)).length=rows.length:=by simp
  have hnr':∀ r,r∈rows.set i (oG row off ds)->r.length=sz:=by
   intro r hr
   rcases List.mem_or_eq_of_mem_set hr with h|rfl
   ·exact g3 r h
   ·rw [aGG _ _ _ hle];exact hrl
  have hnf:(rows.set i (oG row off ds)).flatten.length=rows.flatten.length:=by rw [iE hnr',hnl,hfl]
  have hget:∀ m,(rows.set i (oG row off ds)).flatten[m]?=if i*sz+off<=m/\m<i*sz+off+ds.length then ds[m-(i*sz+off)]? else rows.flatten[m]?:=by
   intro m
   rw [aE4 g3 hil (by rw [aGG _ _ _ hle];exact hrl)]
   by_cases h1:i*sz<=m/\m<i*sz+sz
   ·rw [if_pos h1,aOB _ _ _ hle]
    by_cases h2:i*sz+off<=m/\m<i*sz+off+ds.length
    ·rw [if_pos (by omega),if_pos h2];congr 1;omega
    ·rw [if_neg (by omega),if_neg h2]
     have hm:m-i*sz<row.length:=by omega
     have:=jN g3 hrow (List.getElem?_eq_getElem hm)
     rw [show i*sz+(m-i*sz)=m by omega] at this
     rw [this,List.getElem?_eq_getElem hm]
   ·rw [if_neg h1,if_neg (by omega)]
  have hT2:∀ m x y,T2 m x y->¬rng b o (cap*sz) x y/\∀ q,q<rows.flatten.length->¬T q x y:=by
   intro m x y hm
   obtain ⟨q,hq,hF'⟩:=t5 m x y hm
   have:=hout q hq x y hF'
   exact ⟨fun hr=>this ((g7 x y).2 (.inl hr)),fun p hp hT=>this ((g7 x y).2 (.inr ⟨p,hp,hT⟩))⟩
  have hFz0:∀ x y,g.Fz x y->¬rng b o (cap*sz) x y:=fun x y hz hr=>hSz x y ((g7 x y).2 (.inl hr)) hz
  have hFzP:∀ x y,FzP g k ns x y->¬rng b o (cap*sz) x y:=by
   rintro x y (h1|⟨_,q,hq,h1⟩)
   ·exact hFz0 x y h1
   ·exact fun hr=>hout q hq x y h1 ((g7 x y).2 (.inl hr))
  refine ⟨fun x y=>rng b o (cap*sz) x y\/∃ m,m<rows.flatten.length/\T' m x y,?_,?_,hroom,hin,.inr ⟨b,o,cap,T',by rw [hnl],by rw [hnl];exact g1,?_,hnr',?_,?_,?_,?_⟩⟩
  ·rintro x y (h1|⟨m,hm,h1⟩)
   ·exact .inl ((g7 x y).2 (.inl h1))
   ·simp only [T'] at h1
    split at h1
    ·exact .inr (t5 _ x y h1)
    ·exact .inl ((g7 x y).2 (.inr ⟨m,hm,h1⟩))
  ·rintro rfl x y (h1|⟨m,hm,h1⟩)
   ·exact (g7 x y).2 (.inl h1)
   ·simp only [T'] at h1
    split at h1
    ·rename_i h2
     have:=t4 (m-(i*sz+off)) _ (List.getElem?_eq_getElem (by omega))
     exact (this.2 x y h1).elim
    ·exact (g7 x y).2 (.inr ⟨m,hm,h1⟩)
  ·intro q hq
   obtain ⟨⟨u,hu⟩,hf⟩:=g2 q hq
   refine ⟨?_,by rw [iR];exact hf⟩
   by_cases h1:o+(i*sz+off)<=o+q/\o+q<o+(i*sz+off)+us.length
   ·have hl:o+q-(o+(i*sz+off))<us.length:=by omega
    have:=nC b us w (o+(i*sz+off)) (by rw [hus];exact hroom) _ _ (List.getElem?_eq_getElem hl)
    rw [show o+(i*sz+off)+(o+q-(o+(i*sz+off)))=o+q by omega] at this
    exact ⟨_,this⟩
   ·exact ⟨u,by rw [fF b us w _ (by omega)];exact hu⟩
  ·intro m d hm
   rw [hget m] at hm
   by_cases h2:i*sz+off<=m/\m<i*sz+off+ds.length
   ·rw [if_pos h2] at hm
    have hl:m-(i*sz+off)<us.length:=by omega
    have hu:=List.getElem?_eq_getElem hl
    have:=nC b us w (o+(i*sz+off)) (by rw [hus];exact hroom) _ _ hu
    rw [show o+(i*sz+off)+(m-(i*sz+off))=o+m by omega] at this
    refine ⟨_,this,?_⟩
    rw [hv _ _ hu]
    simp only [T']
    rw [if_pos h2]
    exact Own.mono hF (hkz _ hFzP) k (hkz _ fun x y h=>(hT2 _ x y h).1) (t4 _ d hm)
   ·rw [if_neg h2] at hm
    obtain ⟨u,hu,hou⟩:=g4 m d hm
    have hml:=jB hm
    refine ⟨u,by rw [fF b us w _ (by omega)];exact hu,?_⟩
    simp only [T']
    rw [if_neg h2]
    exact Own.mono (fun x y h=>hF x y (.inl h)) (hkz _ hFz0) k (hkz _ fun x y h hr=>g6 m hml x y hr h) hou
  ·rw [hnf]
   intro p q hp hq hne x y h1 h2
   simp only [T'] at h1 h2
   split at h1
   ·split at h2
    ·exact t6 _ _ (by omega) x y h1 h2
    ·exact (hT2 _ x y h1).2 q hq h2
   ·split at h2
    ·exact (hT2 _ x y h2).2 p hp h1
    ·exact g5 p q hp hq hne x y h1 h2
  ·rw [hnf]
   intro m hm x y hr h1
   simp only [T'] at h1
   split at h1
   ·exact (hT2 _ x y h1).1 hr
   ·exact g6 m hm x y hr h1
  ·intro x y
   rw [hnf]
end
theorem aL7 (m:Nat) (o:O):∀ (ns:List Nat) (h:Nat->Option O),eS h (ns.map (fun q=>(q,none))++[(m,some o)])=fun q=>if q=m then some o else if q∈ns then none else h q:=aCf o
section
variable {P:Program} {c:Ctx} {g:Gh} {w:World} {base:Nat} {e:Env}
theorem aQO (hi:fB c g e.h w) {t:TypeId} {inf:TypeInfo} {x a:A} {v vx:Value} {wr:Wr} (hinf:P.info? t=some inf) (hx:RA g e.h w x vx) (hv:RA g e.h w a v)
  (h:Out e (aHC inf.size x a) wr):aUv P c g e.h w base (Instr.storeAt t vx v) wr:=by
 unfold aHC at h
 split at h
 ·exact h.fail.elim
 ·rename_i hlen
  have hlen:(eM a).length=inf.size:=by omega
  split at h
  ·rename_i m off
   obtain ⟨o,ho,h2⟩:=h.rh
   split at h2
   ·rename_i cells
    split at h2
    ·rename_i hcond
     obtain ⟨hle,hpo⟩:=hcond
     rw [h2.ret]
     obtain ⟨b,q,hν,hr,hF,hc⟩:=hi.obj m _ ho
     cases hx with|ptr _ _ b' q' hn hν'=>?_
     rw [hν] at hν'
     cases hν'
     obtain ⟨c1,c2⟩:=hv.cells' hpo
     have hroom:wY w b (q+off) v.cells.size:=by
      intro j hj
      have:=hr (off+j) (by omega)
      rwa [<-Nat.add_assoc] at this
     have h1:∀ u,u∈v.cells.toList->u.oneCell'=true:=by
      intro u hu
      obtain ⟨j,hj,rfl⟩:=List.getElem_of_mem hu
      have hj':j<(eM a).length:=by rw [<-c1];simpa using hj
      have:=(c2 j _ (List.getElem?_eq_getElem hj')).1
      have hj2:j<v.cells.size:=by simpa using hj
      simpa [Array.getD_eq_getD_getElem?,hj2] using this
     have hrun:=aC2 (P:=P) (w:=w) hinf (by rw [c1,hlen]) hroom h1
     have hcl:(gK cells off (eM a)).length=cells.length:=by simp [gK];omega
     have hFm:∀ y,q+off<=y/\y<q+off+v.cells.toList.length->g.F m b y:=by
      intro y hy
      simp only [Array.length_toList] at hy
      exact (hF _ _).2 ⟨rfl,by omega,by omega⟩
     have hstep:=rJ (g':=g) (h':=eS e.h [(m,some (.box (gK cells off (eM a))))]) (w':=eU w b (q+off) v.cells.toList) hi (fun n=>n=m) (uA _ _ _ _) (by rw [lD];exact Nat.le_refl _)
      (fun n hn'=>⟨by have:n≠m:=hn';simp [aGu,this],fun _=>rfl⟩) (fun n h=>h) (fun n _=>rfl)
      (fun k hk hT=>by
       by_cases hkb:k=b
       ·subst hkb
        by_cases hz:v.cells.toList=[]
        ·rw [hz];rfl
        ·exact absurd ⟨m,_,rfl,ho,hFm (q+off) ⟨Nat.le_refl _,by have:=List.length_pos_iff.2 hz;omega⟩⟩ (hT (q+off))
       ·exact uB b hkb _ w _)
      (fun k y hk hT=>⟨fF b _ w _ (fun hky=>by obtain ⟨rfl,h3,h4⟩:=hky;exact hT ⟨m,_,rfl,ho,hFm y ⟨h3,h4⟩⟩),iR b _ _ w _⟩)
      (fun k y h=>h) (fun k y h=>.inl h)
      (fun n ver k sz rows hn' _ hh=>by
       have hn2:n=m:=hn'
       subst hn2
       simp [aGu] at hh)
      (fun ex n o' hn' ho'=>by
       have hn2:n=m:=hn'
       subst hn2
       simp only [aGu,if_pos,Option.some.injEq] at ho'
       subst ho'
       refine ⟨hn,b,q,hν,?_,by rw [hcl];exact hF,?_⟩
       ·rw [hcl]
        intro j hj
        obtain ⟨⟨u,hu⟩,hf⟩:=hr j hj
        refine ⟨?_,by rw [iR];exact hf⟩
        by_cases hin:q+off<=q+j/\q+j<q+off+v.cells.toList.length
        ·have hl:q+j-(q+off)<v.cells.toList.length:=by omega
         have:=nC b v.cells.toList w (q+off) (by simpa using hroom) _ _ (List.getElem?_eq_getElem hl)
         rw [show q+off+(q+j-(q+off))=q+j by omega] at this
         exact ⟨_,this⟩
        ·exact ⟨u,by rw [fF b _ w _ (by omega)];exact hu⟩
       ·intro j a' ha'
        rw [uC _ _ _ _ (by omega)] at ha'
        by_cases hin:off<=j/\j<off+(eM a).length
        ·rw [if_pos hin] at ha'
         obtain ⟨g1,g2⟩:=c2 _ a' ha'
         have hl:j-off<v.cells.size:=by omega
         have hl':j-off<v.cells.toList.length:=by simpa using hl
         have:=nC b v.cells.toList w (q+off) (by simpa using hroom) _ _ (List.getElem?_eq_getElem hl')
         rw [show q+off+(j-off)=q+j by omega] at this
         have e1:v.cells.getD (j-off) Go.undef=v.cells.toList[j-off]:=by simp [Array.getD_eq_getD_getElem?,hl]
         rw [e1] at g1 g2
         exact ⟨_,this,g1,g2.ext ex⟩
        ·rw [if_neg hin] at ha'
         obtain ⟨u,hu,g1,g2⟩:=hc j a' ha'
         have hjl:=(List.getElem?_eq_some_iff.1 ha').1
         exact ⟨u,by rw [fF b _ w _ (by simp;omega)];exact hu,g1,g2.ext ex⟩)
      (fun n o' hn' ho' x y hxy=>by
       have hn2:n=m:=hn'
       subst hn2
       exact ⟨.inl ⟨n,_,rfl,ho,hxy⟩,by rw [lD];exact hi.lt n _ ho x y hxy,(hi.mine n _ ho x y hxy).2⟩)
      (fun n n' o1 o2 hn1 hn2 _ _ hne=>absurd ((show n=m from hn1).trans (show n'=m from hn2).symm) hne)
     exact ⟨g,_,hrun,hstep.1,hstep.2,.skip,fun n h=>.inl h⟩
    ·exact h2.fail.elim
   ·exact h2.fail.elim
  ·rename_i m ver p i off
   obtain ⟨o,ho,h2⟩:=h.rh
   split at h2
   ·rename_i ver' k sz rows
    split at h2
    ·rename_i hcond
     obtain ⟨hpv,hpk⟩:=hcond
     split at h2
     ·rename_i sz' rows' hrows
      split at h2
      ·rename_i row hrow
       split at h2
       ·rename_i hle
        obtain ⟨⟨ds,ns⟩,h3,h4⟩:=Out.bind h2
        simp only at h4
        split at h4
        ·exact h4.fail.elim
        ·rename_i hmns
         rw [h4.ret]
         obtain ⟨nv,hnv⟩:∃ nv,(if aCq p ((row.drop off).take inf.size) ds then ver' else ver'+1)=nv:=⟨_,rfl⟩
         rw [hnv]
         obtain ⟨hn,_,he⟩:=hx.elt_inv
         obtain ⟨hver,he⟩:=he _ _ _ _ ho
         obtain ⟨sz2,rows2,b,q,len,cap,e1,e2,rfl⟩:=he hpv
         rw [hrows] at e1
         cases e1
         have hown:Own w g.Fz (k+1) (g.ν m) (.slc sz rows) (g.F m):=hi.obj m _ ho
         obtain ⟨S1,s1,s2,s3⟩:=aH1 p (k+1) sz rows (g.ν m) _ (g.F m) sz' rows' hown e2 hrows (by omega)
         have hkk:k+1-p.length=(k-p.length)+1:=by omega
         rw [hkk] at s2 s3
         obtain ⟨c1,c2⟩:=hv.cells (fun b' hb'=>by
          by_cases ha:∃ l,a=.agg l
          ·exact .inl ha
          ·exact .inr (wG h3 b' hb'))
         have htook:=aA6 hi (k-p.length) (eM a) (fun j=>v.cells.getD j Go.undef) ds ns (fun j b' hb'=>(c2 j b' hb').2) h3
         have hdl:ds.length=(eM a).length:=htook.1
         rw [<-hdl] at htook
         have hout:∀ r,r∈ns->∀ x y,g.F r x y->¬g.F m x y:=by
          intro r hr x y hxy hxy'
          obtain ⟨or,hor⟩:=htook.2.2.1 r hr
          exact hi.disj r m or _ hor ho (fun e=>hmns (e ▸ hr)) x y hxy hxy'
         have hvl:v.cells.toList.length=ds.length:=by simp [c1,hdl]
         obtain ⟨S2,u1,u2,u3,u4,u5⟩:=aS6 (g:=g) (h:=e.h) (Fz':=FzP g (k-p.length) ns) (us:=v.cells.toList) (i:=i) (off:=off) (row:=row) s2 hrow (by omega) htook hvl
          (fun j u hj=>by
           have hjl:j<v.cells.size:=by have:=(List.getElem?_eq_some_iff.1 hj).1;simpa using this
           simp [Array.getD_eq_getD_getElem?,hjl] at hj ⊢
           exact hj.symm) (fun x y h=>h) (fun r hr x y hxy h=>hout r hr x y hxy (s1 x y h)) (fun x y h=>(hi.mine m _ ho x y (s1 x y h)).2)
         have hroom:wY w b (q+(i*sz'+off)) v.cells.size:=by rw [c1,<-hdl];exact u3
         have h1:∀ u,u∈v.cells.toList->u.oneCell'=true:=by
          intro u hu
          obtain ⟨j,hj,rfl⟩:=List.getElem_of_mem hu
          have hj':j<(eM a).length:=by rw [<-c1];simpa using hj
          have:=(c2 j _ (List.getElem?_eq_getElem hj')).1
          have hj2:j<v.cells.size:=by simpa using hj
          simpa [Array.getD_eq_getD_getElem?,hj2] using this
         have hrun:=aC2 (P:=P) (w:=w) hinf (by rw [c1,hlen]) hroom h1
         have hnb:∀ x y,¬S1 x y->(eU w b (q+(i*sz'+off)) v.cells.toList).cell? (at_ x y)=w.cell? (at_ x y)/\(eU w b (q+(i*sz'+off)) v.cells.toList).frz? (at_ x y)=w.frz? (at_ x y):=by
          intro x y hS
          refine ⟨fF b _ w _ (fun hky=>?_),iR b _ _ w _⟩
          obtain ⟨rfl,h5,h6⟩:=hky
          have:=u4 (y-(q+(i*sz'+off))) (by omega)
          rw [show q+(i*sz'+off)+(y-(q+(i*sz'+off)))=y by omega] at this
          exact hS this
         have hfin:=s3 (eU w b (q+(i*sz'+off)) v.cells.toList) (FzP g (k-p.length) ns) (rows'.set i (oG row off ds)) S2 (fun x y h=>.inl h)
          (fun x y hz=>hnb x y fun h=>(hi.mine m _ ho x y (s1 x y h)).2 hz) (fun x y _ h=>hnb x y h)
          (fun x y h=>(u1 x y h).imp id fun ⟨r,hr,hF⟩=>hout r hr x y hF) u5
         let S':bK:=fun x y=>(g.F m x y/\¬S1 x y)\/S2 x y
         let g':Gh:={ g with F:=fun n=>if n=m then S' else g.F n,Fz:=FzP g (k-p.length) ns }
         have hh':=aL7 m (.arr nv k sz (lA sz rows p (rows'.set i (oG row off ds)))) ns e.h
         have hT:∀ x y,S1 x y->Tch g e.h (fun n=>n=m\/n∈ns) x y:=fun x y h=>⟨m,_,.inl rfl,ho,s1 x y h⟩
         have hstep:=aNK (g':=g') (h':=eS e.h (ns.map (fun r=>(r,none))++[(m,some (.arr nv k sz (lA sz rows p (rows'.set i (oG row off ds)))))])) (w':=eU w b (q+(i*sz'+off)) v.cells.toList) hi
          (fun n=>n=m\/n∈ns) (uA _ _ _ _) (by rw [lD];exact Nat.le_refl _)
          (fun n hn'=>by
           have n1:n≠m:=fun e=>hn' (.inl e)
           have n2:n ∉ ns:=fun e=>hn' (.inr e)
           exact ⟨by rw [hh'];simp [n1,n2],fun _=>by simp [g',n1]⟩) (fun n h=>h) (fun n _=>rfl)
          (fun k' hk hT'=>by
           by_cases hkb:k'=b
           ·subst hkb
            by_cases hz:v.cells.toList=[]
            ·rw [hz];rfl
            ·have hp:=List.length_pos_iff.2 hz
             exact absurd (hT _ _ (u4 0 (by omega))) (hT' _)
           ·exact uB b hkb _ w _)
          (fun k' y hk hT'=>hnb k' y fun h=>hT' (hT _ _ h))
          (fun k' y h=>.inl h)
          (fun k' y hz=>by
           rcases hz with h5|⟨_,r,hr,hF⟩
           ·exact .inl h5
           ·obtain ⟨or,hor⟩:=htook.2.2.1 r hr
            exact .inr (.inl ⟨r,or,.inr hr,hor,hF⟩))
          (fun n ver2 k2 sz2 rows2 hn' _ hh=>by
           rw [hh'] at hh
           rcases hn' with rfl|hn'
           ·simp only [if_pos,Option.some.injEq,O.arr.injEq] at hh
            obtain ⟨rfl,rfl,rfl,rfl⟩:=hh
            refine ⟨ver',_,rows,ho,by rw [<-hnv];split<;>omega,fun ev=>?_⟩
            have hpl:aCq p ((row.drop off).take inf.size) ds=true:=by
             cases hc:aCq p ((row.drop off).take inf.size) ds with
             |true=>rfl
             |false=>rw [hc] at hnv;simp at hnv;omega
            have hpl1:∀ d,d∈(row.drop off).take inf.size->aBB d=false:=by
             unfold aCq at hpl
             split at hpl
             ·cases hpl
             ·rw [Bool.and_eq_true,List.all_eq_true] at hpl
              intro d hd
              have:=hpl.1 d hd
              simpa using this
            have hent:=aOT (ds:=ds) hrow hle (by omega) hpl1
            refine ⟨fun p2 s r0=>aQw p sz rows sz' rows' hrows hent p2 s r0,?_⟩
            refine aTB (Fz:=g.Fz) (Wt:=fun x y=>x=b/\q+(i*sz'+off)<=y/\y<q+(i*sz'+off)+v.cells.toList.length) (fun x y hz=>hnb x y fun h=>(hi.mine n _ ho x y (s1 x y h)).2 hz) p _ sz rows _ _ (g.F n) sz' rows' hown e2 hrows (by omega) ?_ hent ?_
            ·rintro x y ⟨rfl,h5,h6⟩
             have hlt:y-(q+i*sz')<row.length:=by simp at h6;omega
             refine ⟨x,q,len,cap,i,y-(q+i*sz'),row[y-(q+i*sz')],rfl,rfl,by omega,by rw [hrow,Option.bind_some,List.getElem?_eq_getElem hlt],?_⟩
             refine hpl1 _ (List.mem_of_getElem? (i:=y-(q+i*sz'+off)) ?_)
             rw [List.getElem?_take_of_lt (by simp at h6;omega),List.getElem?_drop,show off+(y-(q+i*sz'+off))=y-(q+i*sz') by omega,List.getElem?_eq_getElem hlt]
            ·intro x y _ hw
             exact ⟨fF b _ w _ hw,iR b _ _ w _⟩
           ·have:n≠m:=fun e=>hmns (e ▸ hn')
            simp [this,hn'] at hh)
          (fun ex n o' hn' ho'=>by
           rw [hh'] at ho'
           rcases hn' with rfl|hn'
           ·simp only [if_pos,Option.some.injEq] at ho'
            subst ho'
            refine ⟨hn,?_⟩
            have hF':g'.F n=S':=if_pos rfl
            have goal:Own (eU w b (q+(i*sz'+off)) v.cells.toList) g'.Fz (k+1) (g'.ν n) (.slc sz (lA sz rows p (rows'.set i (oG row off ds)))) (g'.F n):=by rw [hF'];exact hfin
            exact goal
           ·have:n≠m:=fun e=>hmns (e ▸ hn')
            simp [this,hn'] at ho')
          (fun n o' hn' ho' x y hxy=>by
           rw [hh'] at ho'
           rcases hn' with rfl|hn'
           ·simp only [g',if_pos,S'] at hxy
            rcases hxy with ⟨h5,_⟩|h5
            ·refine ⟨.inl ⟨n,_,.inl rfl,ho,h5⟩,by rw [lD];exact hi.lt n _ ho x y h5,fun hz=>?_⟩
             rcases hz with h6|⟨_,r,hr,hF⟩
             ·exact (hi.mine n _ ho x y h5).2 h6
             ·exact hout r hr x y hF h5
            ·rcases u1 x y h5 with h6|⟨r,hr,hF⟩
             ·refine ⟨.inl (hT x y h6),by rw [lD];exact hi.lt n _ ho x y (s1 x y h6),fun hz=>?_⟩
              rcases hz with h7|⟨_,r,hr,hF⟩
              ·exact (hi.mine n _ ho x y (s1 x y h6)).2 h7
              ·exact hout r hr x y hF (s1 x y h6)
             ·obtain ⟨or,hor⟩:=htook.2.2.1 r hr
              refine ⟨.inl ⟨r,or,.inr hr,hor,hF⟩,by rw [lD];exact hi.lt r or hor x y hF,fun hz=>?_⟩
              rcases hz with h7|⟨hk0,_⟩
              ·exact (hi.mine r or hor x y hF).2 h7
              ·exact hout r hr x y hF (s1 x y (u2 hk0 x y h5))
           ·have:n≠m:=fun e=>hmns (e ▸ hn')
            simp [this,hn'] at ho')
          (fun n n' o1 o2 hn1 hn2 ho1 ho2 hne=>by
           rw [hh'] at ho1 ho2
           rcases hn1 with rfl|hn1
           ·rcases hn2 with rfl|hn2
            ·exact absurd rfl hne
            ·have:n'≠n:=fun e=>hne e.symm
             simp [this,hn2] at ho2
           ·have:n≠m:=fun e=>hmns (e ▸ hn1)
            simp [this,hn1] at ho1)
         refine ⟨g',_,?_,hstep.1,hstep.2,.skip,fun n h=>.inl h⟩
         exact hrun
       ·exact h2.fail.elim
      ·exact h2.fail.elim
     ·exact h2.fail.elim
    ·exact h2.fail.elim
   ·exact h2.fail.elim
  ·exact h.fail.elim
end
structure aJ6 (P:Program) (w:World) (u:TypeId) (size n:Nat) (x:Value) (news:List Value):Prop where
 ty:∃ d,P.underlying u=some d/\∀ k,d≠.int k
 len:∀ w':World,(Builtin.lenOf x).run P w'=.ok n w'
 cells:∀ w':World,(w'=w\/w'=w.drew)->(Builtin.firstCells size n x).run P w'=.ok news.toArray w'
 one:∀ v,v∈news->v.oneCell'=true
section
variable {P:Program} {w:World}
theorem aXf {u:TypeId} {d:TypeDesc} (h:P.underlying u=some d) (hk:∀ k,d≠.int k) (w':World):
  (do pure ((<-underlying u) matches .int _):Sem Bool).run P w'=.ok false w':=by
 simp only [Sem.run_bind,run_underlying h,Result.andThen_ok]
 cases d<;>first|rfl|exact absurd rfl (hk _)
theorem aCo {t u ty el:TypeId} {inf:TypeInfo} (ht:P.underlying t=some (.slice el)) (hinf:P.info? el=some inf) {b o sLen sCap n:Nat} {x:Value} {news:List Value}
  (hs:aJ6 P w u inf.size n x news) (hle:sLen+n<=sCap) (hroom:wY w b (o+sLen*inf.size) news.length):
  (Builtin.append_ #[t,u] ty #[.slice (some (at_ b o)) sLen sCap,x]).run P w=.ok (.slice (some (at_ b o)) (sLen+n) sCap) (eU w b (o+sLen*inf.size) news):=by
 obtain ⟨d,hd,hk⟩:=hs.ty
 have h1:=hs.len w
 have h2:=hs.cells w (.inl rfl)
 have ha:Addr.add (at_ b o) (sLen*inf.size)=at_ b (o+sLen*inf.size):=pF _ _ _
 have h3:=wA P b (o+sLen*inf.size) news w 0 (by grind) hs.one
 simp only [Builtin.append_,List.getElem?_toArray,List.getElem?_cons_zero,List.getElem?_cons_succ,Sem.run_bind,run_underlying ht,Result.andThen_ok,sizeOf,typeInfo,run_program,hinf,Sem.run_pure,run_underlying hd]
 simp [h1,hle,h2,ha,h3]
theorem aDB {t u ty el:TypeId} {inf:TypeInfo} (ht:P.underlying t=some (.slice el)) (hinf:P.info? el=some inf) {x:Value} {news:List Value}
  (hs:aJ6 P w u inf.size 0 x news):(Builtin.append_ #[t,u] ty #[.slice none 0 0,x]).run P w=.ok (.slice none 0 0) w:=by
 obtain ⟨d,hd,hk⟩:=hs.ty
 have h1:=hs.len w
 have h2:=hs.cells w (.inl rfl)
 simp only [Builtin.append_,List.getElem?_toArray,List.getElem?_cons_zero,List.getElem?_cons_succ,Sem.run_bind,run_underlying ht,Result.andThen_ok,sizeOf,typeInfo,run_program,hinf,Sem.run_pure,run_underlying hd]
 simp [h1,h2]
theorem aCp {t u ty el:TypeId} {inf:TypeInfo} {z:Value} (ht:P.underlying t=some (.slice el)) (hinf:P.info? el=some inf) (hz:inf.zero=some z) {base:Option Addr} {sLen sCap n:Nat} {x:Value} {olds news:List Value}
  (hs:aJ6 P w u inf.size n x news) (hlt:sCap<sLen+n) (hb:0<inf.bytes) (hlim:(sLen+n)*inf.bytes<=aM)
  (hold:∀ w':World,(w'=w\/w'=w.drew)->(Builtin.firstCells inf.size sLen (.slice base sLen sCap)).run P w'=.ok olds.toArray w'):
  (Builtin.append_ #[t,u] ty #[.slice base sLen sCap,x]).run P w =
   .ok (.slice (some (at_ w.heap.size 0)) (sLen+n) (grownCap w (sLen+n) sCap el)) (w.drew.alloc (.cells (olds.toArray++(news.toArray++Builtin.zeroCells z.cells (grownCap w (sLen+n) sCap el-(sLen+n)))) el)):=by
 obtain ⟨d,hd,hk⟩:=hs.ty
 have h1:=hs.len w
 have h2:=hs.cells w.drew (.inr rfl)
 have h3:=hold w.drew (.inr rfl)
 have hnn:¬(sLen+n<=sCap):=by omega
 have h48:=growslice_fits hlt hlim
 have h48':¬(281474976710656<Builtin.nextslicecap (sLen+n) sCap*inf.bytes):=by omega
 have hb0:¬inf.bytes=0:=by omega
 simp only [Builtin.append_,List.getElem?_toArray,List.getElem?_cons_zero,List.getElem?_cons_succ,Sem.run_bind,run_underlying ht,Result.andThen_ok,sizeOf,typeInfo,run_program,hinf,Sem.run_pure,run_underlying hd]
 simp [h1,hnn,h48',hb0,Question.forced,h2,h3,newRow,grownCap,zeroValue,typeInfo,hinf,hz]
end
theorem tF {w:World} {Fz:bK} {k sz:Nat} {a':Option Addr} (h:a'=none\/∃ b o,a'=some (at_ b o)):Own w Fz (k+1) (.slice a' 0 0) (.slc sz []) (fun _ _=>False):=by
 rcases h with rfl|⟨b,o,rfl⟩
 ·exact .inl ⟨rfl,rfl,fun _ _ h=>h⟩
 ·refine .inr ⟨b,o,0,fun _ _ _=>False,rfl,Nat.le_refl _,fun q hq=>by simp at hq,fun r hr=>by simp at hr,fun m d hm=>by simp at hm,fun i j hi=>by simp at hi,fun m hm=>by simp at hm,fun x y=>?_⟩
  constructor
  ·intro h;exact h.elim
  ·rintro (⟨_,h1,h2⟩|⟨m,hm,_⟩)
   ·simp at h2;omega
   ·simp at hm
theorem Own.sub {w:World} {Fz:bK} {k sz len cap lo hi:Nat} {a a':Option Addr} {rows:List (List D)} {S:bK} (h:Own w Fz (k+1) (.slice a len cap) (.slc sz rows) S) (h1:lo<=hi) (h2:hi<=len) (h3:hi<=cap)
  (h4:lo<cap->a'=a.map (·.add (lo*sz))) (h5:cap=lo->a'=none\/∃ b o,a'=some (at_ b o)):
  ∃ S',Own w Fz (k+1) (.slice a' (hi-lo) (cap-lo)) (.slc sz ((rows.take hi).drop lo)) S'/\∀ x y,S' x y->S x y:=by
 obtain ⟨_,_,ev,_⟩:=qQ h
 have hlen:len=rows.length:=by cases ev;rfl
 subst hlen
 by_cases hc:cap=lo
 ·have e1:hi-lo=0:=by omega
  have e2:cap-lo=0:=by omega
  have e3:(rows.take hi).drop lo=[]:=by apply List.drop_eq_nil_of_le;simp;omega
  rw [e1,e2,e3]
  exact ⟨_,tF (h5 hc),fun _ _ h=>h.elim⟩
 ·rcases h with ⟨e1,rfl,_⟩|⟨b,off,cap',T,e1,g1,g2,g3,g4,g5,g6,g7⟩
  ·cases e1;simp at h2;omega
  ·cases e1
   rw [h4 (by omega)]
   simp only [Option.map_some,pF]
   have hfl:=iE g3
   have hl:((rows.take hi).drop lo).length=hi-lo:=by simp;omega
   have hrl:∀ r,r∈(rows.take hi).drop lo->r.length=sz:=fun r hr=>g3 r (List.mem_of_mem_take (List.mem_of_mem_drop hr))
   have hflat:((rows.take hi).drop lo).flatten=(rows.flatten.take (hi*sz)).drop (lo*sz):=by
    rw [aG9 (sz:=sz) (fun row hrow=>g3 row (List.mem_of_mem_take hrow)) lo (by simp;omega),aG7 g3 hi h2]
   have hget:∀ m d,((rows.take hi).drop lo).flatten[m]?=some d->rows.flatten[lo*sz+m]?=some d:=by
    intro m d hm
    rw [hflat,List.getElem?_drop,List.getElem?_take] at hm
    split at hm
    ·exact hm
    ·cases hm
   have hlt:∀ m,m<((rows.take hi).drop lo).flatten.length->lo*sz+m<rows.flatten.length:=fun m hm=>jB (hget m _ (List.getElem?_eq_getElem hm))
   have hcl:lo*sz+(cap-lo)*sz=cap*sz:=by rw [<-Nat.add_mul];congr 1;omega
   have hsub:∀ x y,rng b (off+lo*sz) ((cap-lo)*sz) x y->rng b off (cap*sz) x y:=fun x y h=>⟨h.1,by have:=h.2.1;omega,by have:=h.2.2;omega⟩
   refine ⟨fun x y=>rng b (off+lo*sz) ((cap-lo)*sz) x y\/∃ m,m<((rows.take hi).drop lo).flatten.length/\T (lo*sz+m) x y,.inr ⟨b,off+lo*sz,cap-lo,fun m=>T (lo*sz+m),by rw [hl],by rw [hl];omega,?_,hrl,?_,?_,?_,fun x y=>Iff.rfl⟩,?_⟩
   ·intro q hq
    have:=g2 (lo*sz+q) (by omega)
    rwa [<-Nat.add_assoc] at this
   ·intro m d hm
    obtain ⟨u,hu,ho⟩:=g4 _ d (hget m d hm)
    exact ⟨u,by rw [Nat.add_assoc];exact hu,ho⟩
   ·intro i j hi' hj' hne
    exact g5 _ _ (hlt i hi') (hlt j hj') (by omega)
   ·intro m hm x y hr
    exact g6 _ (hlt m hm) x y (hsub x y hr)
   ·rintro x y (hr|⟨m,hm,hT⟩)
    ·exact (g7 x y).2 (.inl (hsub x y hr))
    ·exact (g7 x y).2 (.inr ⟨_,hlt m hm,hT⟩)
section
variable {P:Program} {c:Ctx} {g:Gh} {w:World} {base:Nat} {e:Env}
def aPP (g:Gh) (h:Nat->Option O) (w:World) (v:Value) (k sz:Nat) (rows:List (List D)) (ns:List Nat):Prop:=
 ∃ S1,Own w g.Fz (k+1) v (.slc sz rows) S1/\(∀ x y,S1 x y->∃ n,n∈ns/\g.F n x y)/\ns.Nodup/\∀ n,n∈ns->∃ o,h n=some o
theorem aBq (hi:fB c g e.h w) {x:A} {v:Value} {r:Nat×Nat×List (List D)×List Nat} (hx:RA g e.h w x v) (h:Out e (aMv x) r):aPP g e.h w v r.1 r.2.1 r.2.2.1 r.2.2.2:=by
 unfold aMv at h
 split at h
 ·rename_i k sz
  rw [h.ret]
  cases hx
  exact ⟨fun _ _=>False,tF (.inl rfl),fun _ _ h=>h.elim,List.nodup_nil,fun n hn=>by simp at hn⟩
 ·rename_i n
  obtain ⟨o,ho,h⟩:=h.rh
  split at h
  ·rw [h.ret]
   cases hx with|sl _ hn hone1=>?_
   exact ⟨g.F n,hi.obj n _ ho,fun x y h=>⟨n,by simp,h⟩,List.nodup_cons.2 ⟨by simp,List.nodup_nil⟩,fun q hq=>by simp at hq;subst hq;exact ⟨_,ho⟩⟩
  ·exact h.fail.elim
 ·rename_i n sz lo hi'
  obtain ⟨o,ho,h⟩:=h.rh
  split at h
  ·rename_i ver k sz' rows
   split at h
   ·rename_i hc
    obtain ⟨hsz,hlo,hhi⟩:=hc
    subst hsz
    rw [h.ret]
    cases hx with|sv _ _ _ _ len cap a a1 hn ev h1 h2 h3 h4 h5 h6=>?_
    have hown:Own w g.Fz (k+1) (g.ν n) (.slc sz rows) (g.F n):=hi.obj n _ ho
    rw [ev] at hown
    obtain ⟨S',ho',hS⟩:=hown.sub h1 h2 h3 h4 h5
    exact ⟨S',ho',fun x y h=>⟨n,by simp,hS x y h⟩,List.nodup_cons.2 ⟨by simp,List.nodup_nil⟩,fun q hq=>by simp at hq;subst hq;exact ⟨_,ho⟩⟩
   ·exact h.fail.elim
  ·exact h.fail.elim
 ·exact h.fail.elim
def nZ (w:World) (b o n:Nat):List Value:=(List.range n).map fun j=>(w.cell? (at_ b (o+j))).getD Go.undef
theorem mK (w:World) (b o n:Nat):(nZ w b o n).length=n:=by simp [nZ]
theorem aGJ (P:Program) {w w':World} (hw:w'.heap=w.heap) {b o size n len cap:Nat} (hc:∀ j,j<n*size->∃ u,w.cell? (at_ b (o+j))=some u):
  (Builtin.firstCells size n (.slice (some (at_ b o)) len cap)).run P w'=.ok (nZ w b o (n*size)).toArray w':=by
 have hcell:∀ a:Addr,w'.cell? a=w.cell? a:=fun a=>by simp [World.cell?,hw]
 refine run_firstCells_some (P:=P) w' size n (at_ b o) len cap _ (mK w b o _) ?_
 intro j v hj
 have hjl:j<n*size:=by have:=(List.getElem?_eq_some_iff.1 hj).1;rwa [mK] at this
 obtain ⟨u,hu⟩:=hc j hjl
 rw [pF,hcell,hu]
 simp [nZ,hjl,hu] at hj
 rw [hj]
def Src (P:Program) (g:Gh) (h:Nat->Option O) (w:World) (u:TypeId) (k sz:Nat) (v:Value) (rows:List (List D)) (ms:List Nat):Prop:=
 (∀ r,r∈rows->r.length=sz)/\ms.Nodup/\(∀ n,n∈ms->∃ o,h n=some o)/\∃ (news:List Value) (T:Nat->bK),news.length=rows.length*sz/\aJ6 P w u sz rows.length v news ∧
  (∀ (m:Nat) d,rows.flatten[m]?=some d->∃ x,news[m]?=some x/\Own w g.Fz k x d (T m))/\(∀ m,m<rows.flatten.length->∀ x y,T m x y->∃ n,n∈ms/\g.F n x y)/\aB9 rows.flatten.length T
theorem aGE {u el:TypeId} {h:Nat->Option O} (hu:P.underlying u=some (.slice el)) {k sz:Nat} {b o len cap:Nat} {rows:List (List D)} {ms:List Nat} {T:Nat->bK} (hr:∀ r,r∈rows->r.length=sz) (hlen:len=rows.length)
  (hc:∀ (m:Nat) d,rows.flatten[m]?=some d->∃ x,w.cell? (at_ b (o+m))=some x/\Own w g.Fz k x d (T m)) (hd:aB9 rows.flatten.length T) (hT:∀ m,m<rows.flatten.length->∀ x y,T m x y->∃ n,n∈ms/\g.F n x y)
  (hnd:ms.Nodup) (hlive:∀ n,n∈ms->∃ o,h n=some o):Src P g h w u k sz (.slice (some (at_ b o)) len cap) rows ms:=by
 subst hlen
 have hfl:=iE hr
 have hcell:∀ j,j<rows.length*sz->∃ x,w.cell? (at_ b (o+j))=some x:=by
  intro j hj
  obtain ⟨x,hx,_⟩:=hc j _ (List.getElem?_eq_getElem (by omega))
  exact ⟨x,hx⟩
 have hget:∀ (m:Nat) d,rows.flatten[m]?=some d->∃ x,(nZ w b o (rows.length*sz))[m]?=some x/\Own w g.Fz k x d (T m):=by
  intro m d hm
  obtain ⟨x,hx,hox⟩:=hc m d hm
  have:=jB hm
  exact ⟨x,by simp [nZ,(by omega:m<rows.length*sz),hx],hox⟩
 refine ⟨hr,hnd,hlive,nZ w b o (rows.length*sz),T,mK _ _ _ _,⟨⟨_,hu,fun k h=>by cases h⟩,fun w'=>rfl,fun w' hw=>aGJ P (by rcases hw with rfl|rfl<;>rfl) hcell,?_⟩,hget,hT,hd⟩
 intro v hv
 obtain ⟨j,hj,rfl⟩:=List.getElem_of_mem hv
 rw [mK] at hj
 obtain ⟨x,hx,hox⟩:=hget j _ (List.getElem?_eq_getElem (by omega))
 rw [List.getElem?_eq_getElem (by rw [mK];exact hj)] at hx
 cases hx
 exact hox.one
theorem aEA (hi:fB c g e.h w) {u el:TypeId} (hu:P.underlying u=some (.slice el)) {k sz:Nat} {y:A} {v:Value} {r:List (List D)×List Nat} (hy:RA g e.h w y v) (h:Out e (aHD k sz y) r):
  Src P g e.h w u k sz v r.1 r.2:=by
 have hnil:∀ a cap,Src P g e.h w u k sz (.slice a 0 cap) [] []:=by
  intro a cap
  refine ⟨fun r hr=>by simp at hr,List.nodup_nil,fun n hn=>by simp at hn,[],fun _ _ _=>False,by simp,⟨⟨_,hu,fun k h=>by cases h⟩,fun w'=>rfl,fun w' _=>?_,fun v hv=>by simp at hv⟩,fun m d hm=>by simp at hm,fun m hm=>by simp at hm,fun i j hi'=>by simp at hi'⟩
  cases a with
  |none=>simp [Builtin.firstCells]
  |some a=>simp [Builtin.firstCells,loadCells,loadCellsFrom]
 unfold aHD at h
 split at h
 ·rename_i m
  obtain ⟨o,ho,h2⟩:=h.rh
  split at h2
  ·rename_i ver k' sz' rows
   split at h2
   ·rename_i hc
    obtain ⟨rfl,rfl⟩:=hc
    rw [h2.ret]
    cases hy with|sl _ hn hone1=>?_
    have hown:Own w g.Fz (k'+1) (g.ν m) (.slc sz' rows) (g.F m):=hi.obj m _ ho
    have hnd:[m].Nodup:=List.nodup_cons.2 ⟨by simp,List.nodup_nil⟩
    have hlive:∀ q,q∈[m]->∃ o,e.h q=some o:=fun q hq=>by simp at hq;subst hq;exact ⟨_,ho⟩
    rcases hown with ⟨e1,rfl,_⟩|⟨b,off,cap,T,e1,g1,g2,g3,g4,g5,g6,g7⟩
    ·rw [e1]
     obtain ⟨a1,a2,a3,a4⟩:=hnil none 0
     obtain ⟨news,T,b1,b2,b3,b4,b5⟩:=a4
     exact ⟨a1,hnd,hlive,news,T,b1,b2,b3,fun m hm=>by simp at hm,b5⟩
    ·rw [e1]
     exact aGE hu g3 rfl g4 g5 (fun j hj x y hT=>⟨m,by simp,(g7 x y).2 (.inr ⟨j,hj,hT⟩)⟩) hnd hlive
   ·exact h2.fail.elim
  ·exact h2.fail.elim
 ·rename_i sz' rows
  split at h
  ·rename_i hc
   have h2:=h
   clear h
   obtain ⟨rfl,rfl⟩:=hc
   rw [h2.ret]
   cases hy with|d _ _ hs=>?_
   rcases hs.slc_inv with ⟨rfl,a,cap,rfl⟩|⟨b,o,cap,vs,rfl,hr,hcap,hc,hs'⟩
   ·exact hnil a cap
   ·exact aGE (T:=fun _ _ _=>False) hu hr rfl (fun m d hm=>⟨vs m,(hc m d hm).1,hs' m d hm,fun _ _ h=>h⟩) (fun _ _ _ _ _ _ _ h=>h.elim) (fun _ _ _ _ h=>h.elim) List.nodup_nil (fun n hn=>by simp at hn)
  ·exact h.fail.elim
 ·rw [h.ret]
  cases hy
  exact hnil none 0
 ·exact h.fail.elim
theorem aSG {u:TypeId} (hu:P.underlying u=some .string) (h:Nat->Option O) (l:List UInt8):Src P g h w u 0 1 (.string ⟨l.toArray⟩) (aB l) []:=by
 have hsz:(⟨l.toArray⟩:ByteArray).size=l.length:=by show l.toArray.size=l.length;simp
 have hlen:(aB l).length=l.length:=by simp [aB]
 refine ⟨fun r hr=>by simp [aB] at hr;obtain ⟨_,_,rfl⟩:=hr;rfl,List.nodup_nil,fun n hn=>by simp at hn,l.map fun b=>.int .u8 b.toNat,fun _ _ _=>False,by simp [hlen],⟨⟨_,hu,fun k h=>by cases h⟩,fun w'=>by rw [hlen];simp [Builtin.lenOf,hsz],fun w' _=>?_,fun v hv=>by simp at hv;obtain ⟨_,_,rfl⟩:=hv;rfl⟩,?_,fun _ _ _ _ h=>h.elim,fun _ _ _ _ _ _ _ h=>h.elim⟩
 ·have he:(⟨l.toArray⟩:ByteArray).extract 0 l.length=⟨l.toArray⟩:=by
   apply ByteArray.ext
   simp [ByteArray.data_extract]
  simp [Builtin.firstCells,hlen,he]
 ·intro m d hm
  rw [aE5,List.getElem?_map] at hm
  cases hb:l[m]? with
  |none=>simp [hb] at hm
  |some b=>
   simp only [hb,Option.map_some,Option.some.injEq] at hm
   subst hm
   exact ⟨.int .u8 b.toNat,by simp [hb],.int _ _,fun _ _ h=>h⟩
end
theorem aA1 {xs ys:List Nat} (h:aCO xs ys=true):∀ x,x∈xs->x ∉ ys:=by
 grind [aCO,List.all_eq_true]
section
variable {P:Program} {c:Ctx} {g:Gh} {w:World} {base:Nat} {e:Env}
theorem aGQ {h:Nat->Option O} (hi:fB c g h w) (hf:¬g.Nm base) {r:Sem Value} {w':World} {v':Value} {k sz:Nat} {rows:List (List D)} {ns:List Nat} {S' S1:bK} (hlive:∀ n,n∈ns->∃ o,h n=some o)
  (hown:Own w' g.Fz (k+1) v' (.slc sz rows) S') (hS':∀ x y,S' x y->∃ n,n∈ns/\g.F n x y) (hsize:w'.heap.size=w.heap.size) (hside:w'.os=w.os/\w'.output=w.output) (hS1:∀ x y,S1 x y->∃ n,n∈ns/\g.F n x y)
  (hheap:∀ b,(∀ o,¬S1 b o)->w'.heap[b]?=w.heap[b]?) (hcell:∀ x y,¬S1 x y->w'.cell? (at_ x y)=w.cell? (at_ x y)/\w'.frz? (at_ x y)=w.frz? (at_ x y)) (hr:r.run P w=.ok v' w'):
  mL P c g h w base r { val:=.sl base,objs:=ns.map (fun q=>(q,none))++[(base,some (.arr 0 k sz rows))] }:=by
 have hnb:base ∉ ns:=fun hb=>by obtain ⟨o,ho⟩:=hlive base hb;exact hf (hi.nm _ _ ho)
 let g':Gh:={ ν:=fun m=>if m=base then v' else g.ν m,F:=fun m=>if m=base then S' else g.F m,Fz:=g.Fz,Nm:=fun m=>g.Nm m\/m=base }
 have hh':=aCf (base:=base) (.arr 0 k sz rows) ns h
 have hTch:∀ x y,(∃ n,n∈ns/\g.F n x y)->Tch g h (fun n=>n=base\/n∈ns) x y:=by
  rintro x y ⟨n,hn,hF⟩
  obtain ⟨o,ho⟩:=hlive n hn
  exact ⟨n,o,.inr hn,ho,hF⟩
 have hstep:=rJ (g':=g') (h':=eS h (ns.map (fun q=>(q,none))++[(base,some (.arr 0 k sz rows))])) (w':=w') hi (fun n=>n=base\/n∈ns) hside (Nat.le_of_eq hsize.symm)
  (fun n hn=>by
   grind)
  (fun n hn=>.inl hn)
  (fun n hn=>by
   grind)
  (fun b _ hT=>hheap b fun o ho=>hT o (hTch b o (hS1 b o ho))) (fun b o _ hT=>hcell b o fun ho=>hT (hTch b o (hS1 b o ho))) (fun b o h=>h) (fun b o h=>.inl h)
  (fun n ver k' sz' rows' hn hnm hh=>by
   grind)
  (fun ex n o hn ho=>by
   rw [hh'] at ho
   rcases hn with rfl|hn
   ·simp only [if_pos,Option.some.injEq] at ho
    subst ho
    have h1:g'.ν n=v':=if_pos rfl
    have h2:g'.F n=S':=if_pos rfl
    have goal:Own w' g'.Fz (k+1) (g'.ν n) (.slc sz rows) (g'.F n):=by grind
    exact ⟨.inr rfl,goal⟩
   grind)
  (fun n o hn ho x y hxy=>by
   rw [hh'] at ho
   rcases hn with rfl|hn
   ·simp only [g',if_pos] at hxy
    obtain ⟨q,hq,hF⟩:=hS' x y hxy
    obtain ⟨oq,hoq⟩:=hlive q hq
    exact ⟨.inl ⟨q,oq,.inr hq,hoq,hF⟩,by rw [hsize];exact hi.lt q oq hoq x y hF,(hi.mine q oq hoq x y hF).2⟩
   grind)
  (fun n m o o' hn hm ho ho' hne=>by
   grind)
 refine ⟨_,g',_,hr,hstep.1,hstep.2,?_,fun n hn=>?_⟩
 ·have h1:g'.ν base=v':=if_pos rfl
  have:=RA.sl (g:=g') (h:=eS h (ns.map (fun q=>(q,none))++[(base,some (.arr 0 k sz rows))])) (w:=w') base (.inr rfl) (by rw [h1];exact hown.one)
  grind
 grind
theorem aCt (hi:fB c g e.h w) (hf:¬g.Nm base) {t u ty el:TypeId} {inf:TypeInfo} {z:Value} {s x:Value} {k:Nat} {rows rows':List (List D)} {ns ms:List Nat} {wr:Wr} (ht:P.underlying t=some (.slice el)) (hinf:P.info? el=some inf)
  (hz:inf.zero=some z) (hzs:z.cells.size=inf.size) (hb:0<inf.bytes) {sz:Nat} (hm:aPP g e.h w s k sz rows ns) (hs:Src P g e.h w u k inf.size x rows' ms)
  (h:Out e (oA base inf.size inf.bytes (k,sz,rows,ns) (rows',ms)) wr):mL P c g e.h w base (Builtin.append_ #[t,u] ty #[s,x]) wr:=by
 unfold oA at h
 split at h
 ·rename_i hc
  obtain ⟨hsz,hpos,hap⟩:=hc
  simp only at hsz hap
  subst hsz
  obtain ⟨hlim,h⟩:=h.need
  simp only at hlim
  rw [h.ret]
  simp only
  obtain ⟨S1,ho,hS1,hnd,hlive⟩:=hm
  obtain ⟨hr',hnd',hlive',news,T2,hnl,hrun,hg',hT2,hd2⟩:=hs
  have hap':=aA1 hap
  have hfl':=iE hr'
  have hlen:(rows++rows').length=rows.length+rows'.length:=List.length_append
  have hlv:∀ n,n∈ns++ms->∃ o,e.h n=some o:=fun n hn=>(List.mem_append.1 hn).elim (hlive n) (hlive' n)
  have hx12:∀ x y,S1 x y->∀ m,m<rows'.flatten.length->¬T2 m x y:=by
   intro x y h1 m hm' h2
   obtain ⟨n1,a1,b1⟩:=hS1 x y h1
   obtain ⟨n2,a2,b2⟩:=hT2 m hm' x y h2
   obtain ⟨o1,q1⟩:=hlive n1 a1
   obtain ⟨o2,q2⟩:=hlive' n2 a2
   exact hi.disj n1 n2 o1 o2 q1 q2 (fun e=>hap' n1 a1 (e ▸ a2)) x y b1 b2
  have grow:∀ (sLen sCap:Nat) (bs:Option Addr) (olds:List Value) (T1:Nat->bK),s=.slice bs sLen sCap->sLen=rows.length->sCap<sLen+rows'.length->(∀ r,r∈rows->r.length=inf.size)->olds.length=rows.length*inf.size →
    (∀ w':World,(w'=w\/w'=w.drew)->(Builtin.firstCells inf.size sLen (.slice bs sLen sCap)).run P w'=.ok olds.toArray w') →
    (∀ (m:Nat) d,rows.flatten[m]?=some d->∃ x,olds[m]?=some x/\Own w g.Fz k x d (T1 m))->aB9 rows.flatten.length T1->(∀ m,m<rows.flatten.length->∀ x y,T1 m x y->S1 x y) →
    mL P c g e.h w base (Builtin.append_ #[t,u] ty #[s,x]) { val:=.sl base,objs:=(ns++ms).map (fun q=>(q,none))++[(base,some (.arr 0 k inf.size (rows++rows')))] }:=by
   rintro sLen sCap bs olds T1 rfl rfl hlt hr hol hold hg1 hd1 hT1
   have hfl:=iE hr
   have hrl:∀ r,r∈rows++rows'->r.length=inf.size:=fun r h=>(List.mem_append.1 h).elim (hr r) (hr' r)
   have hflat:(rows++rows').flatten=rows.flatten++rows'.flatten:=List.flatten_append
   have hge:=grownCap_ge w (rows.length+rows'.length) sCap el
   have hcsz:(olds.toArray++(news.toArray++Builtin.zeroCells z.cells (grownCap w (rows.length+rows'.length) sCap el-(rows.length+rows'.length)))).size=grownCap w (rows.length+rows'.length) sCap el*inf.size:=by
    simp only [Array.size_append,List.size_toArray,hol,hnl,size_zeroCells,hzs]
    rw [<-Nat.add_mul,<-Nat.add_mul]
    congr 1;omega
   have hrun':=aCp (P:=P) (w:=w) (ty:=ty) ht hinf hz hrun hlt hb hlim hold
   refine aCs (P:=P) (base:=base) (r:=Builtin.append_ #[t,u] ty #[.slice bs rows.length sCap,x]) (k:=k) (sz:=inf.size) (cap:=grownCap w (rows.length+rows'.length) sCap el) (rows:=rows++rows') (ns:=ns++ms)
    (T:=fun m=>if m<rows.flatten.length then T1 m else T2 (m-rows.flatten.length)) hi hf
    (rW.alloc_drew w _ el) hlv (by rw [hlen];exact hge) (by rw [hcsz];exact Nat.le_refl _) hrl ?_ ?_ ?_ (by rw [hlen];exact hrun')
   ·intro m d hmd
    rw [hflat] at hmd
    by_cases h1:m<rows.flatten.length
    ·rw [List.getElem?_append_left h1] at hmd
     obtain ⟨y,hy,hoy⟩:=hg1 m d hmd
     have hml:m<olds.length:=by omega
     have:(olds.toArray++(news.toArray++Builtin.zeroCells z.cells (grownCap w (rows.length+rows'.length) sCap el-(rows.length+rows'.length)))).getD m Go.undef=y:=by
      rw [List.getElem?_eq_getElem hml] at hy
      cases hy
      simp [Array.getD_eq_getD_getElem?,Array.getElem?_append,hml]
     rw [this,if_pos h1]
     exact Own.mono (fun b o h=>.inl h) (eZ.refl _ _) k (eZ.refl _ _) hoy
    ·rw [List.getElem?_append_right (by omega)] at hmd
     obtain ⟨y,hy,hoy⟩:=hg' _ d hmd
     have hml:¬m<olds.length:=by omega
     have hml2:m-olds.length<news.length:=by have:=jB hmd;omega
     have e1:m-rows.flatten.length=m-olds.length:=by omega
     have:(olds.toArray++(news.toArray++Builtin.zeroCells z.cells (grownCap w (rows.length+rows'.length) sCap el-(rows.length+rows'.length)))).getD m Go.undef=y:=by
      rw [e1,List.getElem?_eq_getElem hml2] at hy
      cases hy
      simp [Array.getD_eq_getD_getElem?,Array.getElem?_append,hml,hml2]
     rw [this,if_neg h1]
     exact Own.mono (fun b o h=>.inl h) (eZ.refl _ _) k (eZ.refl _ _) hoy
   ·rw [hflat,List.length_append]
    intro i j hi' hj hne x y h1 h2
    split at h1
    ·rename_i c1
     split at h2
     ·rename_i c2;exact hd1 i j c1 c2 hne x y h1 h2
     ·exact hx12 x y (hT1 i c1 x y h1) _ (by omega) h2
    ·rename_i c1
     split at h2
     ·rename_i c2;exact hx12 x y (hT1 j c2 x y h2) _ (by omega) h1
     ·rename_i c2;exact hd2 _ _ (by omega) (by omega) (by omega) x y h1 h2
   ·rw [hflat,List.length_append]
    intro m hm' x y h1
    split at h1
    ·rename_i c1
     obtain ⟨n,hn,hF⟩:=hS1 x y (hT1 m c1 x y h1)
     exact ⟨n,by simp [hn],hF⟩
    ·obtain ⟨n,hn,hF⟩:=hT2 _ (by omega) x y h1
     exact ⟨n,by simp [hn],hF⟩
  rcases ho with ⟨rfl,rfl,hS⟩|⟨b,off,cap,T1,rfl,g1,g2,g3,g4,g5,g6,g7⟩
  ·by_cases hz0:rows'.length=0
   ·have hr0:rows'=[]:=List.length_eq_zero_iff.1 hz0
    subst hr0
    have hrun0:=aDB (P:=P) (w:=w) (ty:=ty) ht hinf hrun
    exact aGQ (S1:=fun _ _=>False) (S':=fun _ _=>False) hi hf hlv (tF (.inl rfl)) (fun _ _ h=>h.elim) rfl ⟨rfl,rfl⟩ (fun _ _ h=>h.elim) (fun _ _=>rfl) (fun _ _ _=>⟨rfl,rfl⟩) hrun0
   ·exact grow 0 0 none [] (fun _ _ _=>False) rfl rfl (by omega) (fun r hr=>by simp at hr) (by simp) (fun w' _=>by simp [Builtin.firstCells]) (fun m d hm'=>by simp at hm') (fun i j hi'=>by simp at hi') (fun m hm'=>by simp at hm')
  ·have hfl:=iE g3
   have hle:rows.length*inf.size<=cap*inf.size:=Nat.mul_le_mul_right _ g1
   by_cases hroom:rows.length+rows'.length<=cap
   ·have hrl:∀ r,r∈rows++rows'->r.length=inf.size:=fun r h=>(List.mem_append.1 h).elim (g3 r) (hr' r)
    have hflat:(rows++rows').flatten=rows.flatten++rows'.flatten:=List.flatten_append
    have hcap:(rows.length+rows'.length)*inf.size<=cap*inf.size:=Nat.mul_le_mul_right _ hroom
    rw [Nat.add_mul] at hcap
    have hroom':wY w b (off+rows.length*inf.size) news.length:=by
     intro q hq
     have:=g2 (rows.length*inf.size+q) (by omega)
     rwa [<-Nat.add_assoc] at this
    have hrun':=aCo (P:=P) (w:=w) (ty:=ty) ht hinf hrun hroom hroom'
    have hother:∀ x y,¬(x=b/\off+rows.length*inf.size<=y/\y<off+rows.length*inf.size+news.length) →
      (eU w b (off+rows.length*inf.size) news).cell? (at_ x y)=w.cell? (at_ x y)/\(eU w b (off+rows.length*inf.size) news).frz? (at_ x y)=w.frz? (at_ x y):=
     fun x y h=>⟨fF b news w _ h,iR b _ news w _⟩
    have hkz:∀ (Z:bK),(∀ x y,Z x y->¬rng b off (cap*inf.size) x y)->eZ w (eU w b (off+rows.length*inf.size) news) Z:=by
     intro Z hZ x y hz
     refine hother x y fun h=>hZ x y hz ⟨h.1,by omega,by omega⟩
    have hFz:eZ w (eU w b (off+rows.length*inf.size) news) g.Fz:=by
     refine hkz _ fun x y hz hr=>?_
     obtain ⟨n,hn,hF⟩:=hS1 x y ((g7 x y).2 (.inl hr))
     obtain ⟨o,ho⟩:=hlive n hn
     exact (hi.mine n o ho x y hF).2 hz
    let T':Nat->bK:=fun m=>if m<rows.flatten.length then T1 m else T2 (m-rows.flatten.length)
    refine aGQ (S1:=S1) (S':=fun x y=>rng b off (cap*inf.size) x y\/∃ m,m<(rows++rows').flatten.length/\T' m x y) hi hf hlv ?_ ?_ (lD b news w _) (uA b news w _) (fun x y h=>by obtain ⟨n,hn,hF⟩:=hS1 x y h;exact ⟨n,by simp [hn],hF⟩) ?_ ?_ hrun'
    ·refine .inr ⟨b,off,cap,T',by rw [hlen],by rw [hlen];exact hroom,?_,hrl,?_,?_,?_,fun x y=>Iff.rfl⟩
     ·intro q hq
      obtain ⟨⟨u',hu'⟩,hf'⟩:=g2 q hq
      refine ⟨?_,by rw [iR];exact hf'⟩
      by_cases h1:off+rows.length*inf.size<=off+q/\off+q<off+rows.length*inf.size+news.length
      ·have hl:off+q-(off+rows.length*inf.size)<news.length:=by omega
       have:=nC b news w (off+rows.length*inf.size) hroom' _ _ (List.getElem?_eq_getElem hl)
       rw [show off+rows.length*inf.size+(off+q-(off+rows.length*inf.size))=off+q by omega] at this
       exact ⟨_,this⟩
      ·exact ⟨u',by rw [fF b news w _ (by omega)];exact hu'⟩
     ·intro m d hmd
      rw [hflat] at hmd
      by_cases h1:m<rows.flatten.length
      ·rw [List.getElem?_append_left h1] at hmd
       obtain ⟨y,hy,hoy⟩:=g4 m d hmd
       refine ⟨y,by rw [fF b news w _ (by omega)];exact hy,?_⟩
       simp only [T']
       rw [if_pos h1]
       exact Own.mono (fun b o h=>h) hFz k (hkz _ fun x y h hr=>g6 m h1 x y hr h) hoy
      ·rw [List.getElem?_append_right (by omega)] at hmd
       obtain ⟨y,hy,hoy⟩:=hg' _ d hmd
       have hml:=jB hmd
       have:=nC b news w (off+rows.length*inf.size) hroom' _ _ hy
       rw [show off+rows.length*inf.size+(m-rows.flatten.length)=off+m by omega] at this
       refine ⟨y,this,?_⟩
       simp only [T']
       rw [if_neg h1]
       exact Own.mono (fun b o h=>h) hFz k (hkz _ fun x y h hr=>hx12 x y ((g7 x y).2 (.inl hr)) _ hml h) hoy
     ·rw [hflat,List.length_append]
      intro i j hi' hj hne x y h1 h2
      simp only [T'] at h1 h2
      split at h1
      ·rename_i c1
       split at h2
       ·rename_i c2;exact g5 i j c1 c2 hne x y h1 h2
       ·exact hx12 x y ((g7 x y).2 (.inr ⟨i,c1,h1⟩)) _ (by omega) h2
      ·rename_i c1
       split at h2
       ·rename_i c2;exact hx12 x y ((g7 x y).2 (.inr ⟨j,c2,h2⟩)) _ (by omega) h1
       ·rename_i c2;exact hd2 _ _ (by omega) (by omega) (by omega) x y h1 h2
     ·rw [hflat,List.length_append]
      intro m hm' x y hr h1
      simp only [T'] at h1
      split at h1
      ·rename_i c1;exact g6 m c1 x y hr h1
      ·exact hx12 x y ((g7 x y).2 (.inl hr)) _ (by omega) h1
    ·rw [hflat,List.length_append]
     rintro x y (h1|⟨m,hm',h1⟩)
     ·obtain ⟨n,hn,hF⟩:=hS1 x y ((g7 x y).2 (.inl h1))
      exact ⟨n,by simp [hn],hF⟩
     ·simp only [T'] at h1
      split at h1
      ·rename_i c1
       obtain ⟨n,hn,hF⟩:=hS1 x y ((g7 x y).2 (.inr ⟨m,c1,h1⟩))
       exact ⟨n,by simp [hn],hF⟩
      ·obtain ⟨n,hn,hF⟩:=hT2 _ (by omega) x y h1
       exact ⟨n,by simp [hn],hF⟩
    ·intro b' hb'
     by_cases hbb:b'=b
     ·subst hbb
      by_cases hz:news=[]
      ·rw [hz];rfl
      ·have hp:=List.length_pos_iff.2 hz
       exact absurd ((g7 _ _).2 (.inl ⟨rfl,by omega,by omega⟩)) (hb' (off+rows.length*inf.size))
     ·exact uB b hbb news w _
    ·intro x y h
     refine hother x y fun h1=>h ((g7 x y).2 (.inl ⟨h1.1,by omega,by omega⟩))
   ·refine grow rows.length cap (some (at_ b off)) (nZ w b off (rows.length*inf.size)) T1 rfl rfl (by omega) g3 (mK _ _ _ _) (fun w' hw=>aGJ P (by rcases hw with rfl|rfl<;>rfl) (fun j hj=>?_)) (fun m d hmd=>?_) g5
     (fun m hm' x y hT=>(g7 x y).2 (.inr ⟨m,hm',hT⟩))
    ·obtain ⟨x',hx',_⟩:=g4 j _ (List.getElem?_eq_getElem (by omega))
     exact ⟨x',hx'⟩
    ·obtain ⟨x',hx',hox⟩:=g4 m d hmd
     have:=jB hmd
     exact ⟨x',by simp [nZ,(by omega:m<rows.length*inf.size),hx'],hox⟩
 ·exact h.fail.elim
end
theorem Ext.trans' {g g1 g2:Gh} {h h1 h2:Nat->Option O} {w w1 w2:World} (x:Ext g g1 h h1 w w1) (y:Ext g1 g2 h1 h2 w1 w2):Ext g g2 h h2 w w2:=by
 refine ⟨fun n hn=>y.nm n (x.nm n hn),fun n hn=>(y.ν n (x.nm n hn)).trans (x.ν n hn),fun b o h=>y.fz b o (x.fz b o h),fun b o hb=>?_,fun n ver k sz rows hn hh=>?_⟩
 ·obtain ⟨a1,a2⟩:=x.keep b o hb
  obtain ⟨b1,b2⟩:=y.keep b o (x.fz b o hb)
  grind
 ·obtain ⟨v1,k1,r1,e1,l1,c1⟩:=y.old n ver k sz rows (x.nm n hn) hh
  obtain ⟨v0,k0,r0,e0,l0,c0⟩:=x.old n v1 k1 sz r1 hn e1
  refine ⟨v0,k0,r0,e0,by omega,fun e=>?_⟩
  obtain ⟨p1,p2⟩:=c1 (by omega)
  refine ⟨fun p s r h=>?_,fun p u h=>?_⟩
  ·grind
  ·have:=p2 p u
   rw [x.ν n hn] at this
   grind
theorem aPo {c:Ctx} {g:Gh} {h h':Nat->Option O} {w:World} (hi:fB c g h w) {q n ver i j k sz0 sz':Nat} {rows rows':List (List D)} {v:Value} (hq:¬g.Nm q) (hn:h n=some (.arr ver (k+1) sz0 rows))
  (he:(rows[i]?).bind (·[j]?)=some (.slc sz' rows')) (hv:iW w sz0 rows (g.ν n) [(i,j)]=some v)
  (h1:h' q=some (.arr 0 k sz' rows')) (h2:h' n=some (.arr (ver+1) (k+1) sz0 (rM rows i j))) (h3:∀ m,m≠q->m≠n->h' m=h m):
  ∃ g',fB c g' h' w/\Ext g g' h h' w w/\(∀ m,g'.Nm m->g.Nm m\/m=q)/\g'.Nm q/\RA g' h' w (.sl q) v/\g'.Fz=g.Fz/\aPP g' h' w v k sz' rows' [q]:=by
 have hnm:=hi.nm n _ hn
 have hnq:n≠q:=fun e=>hq (e ▸ hnm)
 obtain ⟨row,hrow,hd⟩:=mU he
 have hown:Own w g.Fz (k+2) (g.ν n) (.slc sz0 rows) (g.F n):=hi.obj n _ hn
 rcases hown with ⟨_,e1,_⟩|⟨b,off,cap,T,e1,g1,g2,g3,g4,g5,g6,g7⟩
 ·grind
 have hm:=jN g3 hrow hd
 have hmlt:=jB hm
 obtain ⟨u,hu,hou⟩:=g4 _ _ hm
 have huv:u=v:=by
  unfold iW at hv
  rw [e1,he] at hv
  simp only at hv
  rw [show w.cell? (at_ (at_ b off).block ((at_ b off).off+(i*sz0+j)))=some u from hu] at hv
  simpa [iW] using hv
 subst huv
 have hlen:(rM rows i j).length=rows.length:=by simp [rM]
 have hrl:∀ r,r∈rM rows i j->r.length=sz0:=by
  intro r hr
  rcases List.mem_or_eq_of_mem_set hr with h|rfl
  ·grind
  grind
 have hfl':(rM rows i j).flatten.length=rows.flatten.length:=by rw [iE hrl,hlen,iE g3]
 let g':Gh:={ ν:=fun m=>if m=q then u else g.ν m,F:=fun m=>if m=q then T (i*sz0+j) else if m=n then fun x y=>g.F n x y/\¬T (i*sz0+j) x y else g.F m,Fz:=g.Fz,Nm:=fun m=>g.Nm m\/m=q }
 have hTF:∀ x y,T (i*sz0+j) x y->g.F n x y:=fun x y hx=>(g7 x y).2 (.inr ⟨_,hmlt,hx⟩)
 have goalq:Own w g'.Fz (k+1) (g'.ν q) (.slc sz' rows') (g'.F q):=by
  grind
 have goaln:Own w g'.Fz (k+2) (g'.ν n) (.slc sz0 (rM rows i j)) (g'.F n):=by
  have e2:g'.ν n=g.ν n:=if_neg hnq
  have e3:g'.F n=fun x y=>g.F n x y/\¬T (i*sz0+j) x y:=(if_neg hnq).trans (if_pos rfl)
  rw [e2,e3,e1]
  refine .inr ⟨b,off,cap,aSn T (i*sz0+j) (fun _ _=>False),by grind,by grind,g2,hrl,?_,?_,?_,?_⟩
  ·intro m d hmd
   rw [rM,aG8 g3 hrow hd] at hmd
   by_cases hmm:m=i*sz0+j
   ·subst hmm
    rw [if_pos rfl] at hmd
    cases hmd
    refine ⟨u,hu,?_⟩
    rw [jS]
    exact ⟨.hole u hou.one,fun _ _ h=>h⟩
   ·rw [if_neg hmm] at hmd
    obtain ⟨x,hx,hox⟩:=g4 m d hmd
    exact ⟨x,hx,by rw [mF _ _ hmm];exact hox⟩
  ·rw [hfl']
   intro m m' hm1 hm2 hne x y h4 h5
   by_cases c1:m=i*sz0+j
   ·rw [c1,jS] at h4;exact h4
   ·rw [mF _ _ c1] at h4
    by_cases c2:m'=i*sz0+j
    ·rw [c2,jS] at h5;exact h5
    ·rw [mF _ _ c2] at h5;exact g5 m m' hm1 hm2 hne x y h4 h5
  ·rw [hfl']
   intro m hm1 x y hr h4
   by_cases c1:m=i*sz0+j
   ·rw [c1,jS] at h4;exact h4
   ·rw [mF _ _ c1] at h4;exact g6 m hm1 x y hr h4
  ·intro x y
   rw [hfl']
   constructor
   ·rintro ⟨h4,h5⟩
    rcases (g7 x y).1 h4 with h6|⟨m,hm1,h6⟩
    ·exact .inl h6
    ·by_cases c1:m=i*sz0+j
     ·exact absurd (c1 ▸ h6) h5
     ·exact .inr ⟨m,hm1,by rw [mF _ _ c1];exact h6⟩
   ·rintro (h4|⟨m,hm1,h4⟩)
    ·exact ⟨(g7 x y).2 (.inl h4),fun h=>g6 _ hmlt x y h4 h⟩
    ·by_cases c1:m=i*sz0+j
     ·rw [c1,jS] at h4;exact h4.elim
     ·rw [mF _ _ c1] at h4
      exact ⟨(g7 x y).2 (.inr ⟨m,hm1,h4⟩),fun h=>g5 m _ hm1 hmlt c1 x y h4 h⟩
 have key:=rJ (g':=g') (h':=h') (w':=w) hi (fun m=>m=n\/m=q) ⟨rfl,rfl⟩ (Nat.le_refl _)
  (fun m hM=>by
   have m1:m≠n:=fun e=>hM (.inl e)
   have m2:m≠q:=fun e=>hM (.inr e)
   exact ⟨h3 m m2 m1,fun _=>by simp [g',m1,m2]⟩) (fun m hm=>.inl hm) (fun m hm=>if_neg fun e=>by subst e;exact hq hm) (fun _ _ _=>rfl) (fun _ _ _ _=>⟨rfl,rfl⟩) (fun _ _ h=>h) (fun _ _ h=>.inl h)
  (fun m ver2 k2 sz2 rows2 hM hm hh=>by
   rcases hM with rfl|rfl
   ·rw [h2] at hh
    cases hh
    exact ⟨ver,_,rows,hn,by omega⟩
   ·exact absurd hm hq)
  (fun x m o hM hh=>by
   rcases hM with rfl|rfl
   ·rw [h2] at hh;cases hh;exact ⟨.inl hnm,goaln⟩
   ·rw [h1] at hh;cases hh;exact ⟨.inr rfl,goalq⟩)
  (fun m o hM hh x y hf=>by
   have hF:g.F n x y:=by
    rcases hM with rfl|rfl
    ·have e3:g'.F m=fun x y=>g.F m x y/\¬T (i*sz0+j) x y:=(if_neg hnq).trans (if_pos rfl)
     rw [e3] at hf;exact hf.1
    ·have e3:g'.F m=T (i*sz0+j):=if_pos rfl
     rw [e3] at hf;exact hTF x y hf
   exact ⟨.inl ⟨n,_,.inl rfl,hn,hF⟩,hi.lt n _ hn x y hF,(hi.mine n _ hn x y hF).2⟩)
  (fun m m' o o' hM hM' hh hh' hne x y hf hf'=>by
   have e3:g'.F n=fun x y=>g.F n x y/\¬T (i*sz0+j) x y:=(if_neg hnq).trans (if_pos rfl)
   have e4:g'.F q=T (i*sz0+j):=if_pos rfl
   rcases hM with rfl|rfl
   ·rcases hM' with rfl|rfl
    ·exact hne rfl
    ·rw [e3] at hf;rw [e4] at hf';exact hf.2 hf'
   ·rcases hM' with rfl|rfl
    ·rw [e4] at hf;rw [e3] at hf';exact hf'.2 hf
    ·exact hne rfl)
 refine ⟨g',key.1,key.2,fun m hm=>hm,.inr rfl,?_,rfl,?_⟩
 ·have h4:g'.ν q=u:=if_pos rfl
  have:=RA.sl (g:=g') (h:=h') (w:=w) q (.inr rfl) (by rw [h4];exact hou.one)
  rw [h4] at this
  exact this
 ·have e2:g'.ν q=u:=if_pos rfl
  refine ⟨g'.F q,by rw [<-e2];exact goalq,fun x y hx=>⟨q,by simp,hx⟩,by simp,fun m hm=>by simp at hm;subst hm;exact ⟨_,h1⟩⟩
section
variable {P:Program} {c:Ctx} {g:Gh} {w:World} {base:Nat} {e:Env}
theorem aPP.depth {h:Nat->Option O} {v:Value} {k k' sz:Nat} {rows:List (List D)} {ns:List Nat} (hm:aPP g h w v k sz rows ns) (hk:k'=k\/rows=[]):aPP g h w v k' sz rows ns:=by
 rcases hk with rfl|rfl
 ·grind
 obtain ⟨S1,ho,h2,h3,h4⟩:=hm
 refine ⟨S1,?_,h2,h3,h4⟩
 rcases ho with ⟨a,b,c⟩|⟨b,off,cap,T,e1,g1,g2,g3,g4,g5,g6,g7⟩
 ·exact .inl ⟨a,b,c⟩
 ·exact .inr ⟨b,off,cap,T,e1,g1,g2,g3,fun m d hm=>by grind,g5,g6,g7⟩
theorem aMw {k k':Nat} {rows:List (List D)} {y:A} (h:Out e (aIw k rows y) k'):k'=k\/rows=[]:=by
 unfold aIw at h
 split at h
 ·obtain ⟨o,ho,h⟩:=h.rh
  split at h
  ·split at h
   ·exact .inl h.ret
   ·exact .inr h.need.1
  ·exact h.fail.elim
 ·exact .inl h.ret
theorem aQp {e e2:Env} {k sz:Nat} {y:A} {r:List (List D)×List Nat} (hs:Out e (aHD k sz y) r) (heq:∀ m,m∈r.2->e2.h m=e.h m):Out e2 (aHD k sz y) r:=by
 unfold aHD at hs ⊢
 split at hs
 ·rename_i m
  obtain ⟨o2,ho2,hs⟩:=hs.rh
  split at hs
  ·split at hs
   ·rename_i hcc
    have hr:=hs.ret
    subst hr
    exact ⟨_,_,_,(heq m (by simp)).trans ho2,by dsimp only;rw [if_pos hcc];exact ⟨rfl,rfl⟩,rfl⟩
   ·exact hs.fail.elim
  ·exact hs.fail.elim
 ·split at hs
  ·rename_i hcc
   rw [hs.ret];exact ⟨_,by rw [if_pos hcc];exact ⟨rfl,rfl⟩⟩
  ·exact hs.fail.elim
 ·rw [hs.ret];exact ⟨_,rfl,rfl⟩
 ·exact hs.fail.elim
theorem aTe (hi:fB c g e.h w) (hf:∀ q,base<=q->q<base+64->¬g.Nm q) {t u ty el:TypeId} {inf:TypeInfo} {z:Value} {s x:Value} {n ver:Nat} {p:List (Nat×Nat)} {y:A} {wr:Wr} (ht:P.underlying t=some (.slice el)) (hinf:P.info? el=some inf)
  (hz:inf.zero=some z) (hzs:z.cells.size=inf.size) (hb:0<inf.bytes) {el':TypeId} (hu:P.underlying u=some (.slice el')) (hx:RA g e.h w (.inn n ver p) s) (hy:RA g e.h w y x)
  (h:Out e (aTR base inf.size inf.bytes n ver p y) wr):mL P c g e.h w base (Builtin.append_ #[t,u] ty #[s,x]) wr:=by
 unfold aTR at h
 split at h
 ·rename_i i j
  obtain ⟨o,ho,h⟩:=h.rh
  split at h
  ·rename_i ver' k sz0 rows
   split at h
   ·rename_i hc
    obtain ⟨rfl,hk⟩:=hc
    obtain ⟨k,rfl⟩:∃ q,k=q+1:=⟨k-1,by omega⟩
    rw [Nat.add_sub_cancel] at h
    split at h
    ·rename_i sz' rows' he
     obtain ⟨⟨rs,ms⟩,hs,h⟩:=Out.bind h
     simp only at h
     split at h
     ·exact h.fail.elim
     ·rename_i hnm
      obtain ⟨wr2,h5,h6⟩:=Out.bind h
      rw [h6.ret]
      have hq:¬g.Nm (base+63):=hf _ (by omega) (by omega)
      have hnn:=hi.nm n _ ho
      have hne:n≠base+63:=fun e=>hq (e ▸ hnn)
      have hbq:base≠base+63:=by omega
      cases hx with|inn _ _ _ _ hn hone he2=>?_
      have hv:=(he2 _ _ _ _ ho).2 rfl
      let h2:Nat->Option O:=fun m=>if m=base+63 then some (.arr 0 k sz' rows') else if m=n then some (.arr (ver+1) (k+1) sz0 (rM rows i j)) else e.h m
      obtain ⟨g2,i1,i2,i3,i4,i5,i6,i7⟩:=aPo (h':=h2) hi hq ho he hv (by grind) (by grind) (fun m m1 m2=>by grind)
      have hmsl:∀ m,m∈ms->m≠n:=fun m hm e=>by grind
      have hms2:∀ m,m∈ms->m≠base+63:=by
       have hsr:=aEA hi hu hy hs
       obtain ⟨_,_,a3,_⟩:=hsr
       intro m hm e
       obtain ⟨o2,ho2⟩:=a3 m hm
       exact hq (e ▸ hi.nm m _ ho2)
      have hs2:Out { e with h:=h2 } (aHD k inf.size y) (rs,ms):=by
       refine aQp hs fun m hm=>?_
       show h2 m=_
       simp only [h2,if_neg (hms2 m hm),if_neg (hmsl m hm)]
      have h52:Out { e with h:=h2 } (oA base inf.size inf.bytes (k,sz',rows',[base+63]) (rs,ms)) wr2:=by
       unfold oA at h5 ⊢
       split at h5
       ·rename_i hcc
        obtain ⟨hnd,h5⟩:=h5.need
        rw [h5.ret]
        exact ⟨_,by rw [if_pos hcc];exact ⟨hnd,rfl,rfl⟩⟩
       ·exact h5.fail.elim
      have hok:=aCt (P:=P) (e:={ e with h:=h2 }) (ty:=ty) (t:=t) (u:=u) i1 (fun hN=>(i3 _ hN).elim (hf base (Nat.le_refl _) (by omega)) hbq) ht hinf hz hzs hb i7 (aEA (e:={ e with h:=h2 }) i1 hu (hy.ext i2) hs2) h52
      have hwr:∃ r,wr2.objs=(base+63,none)::r:=by
       unfold oA at h5
       split at h5
       ·rw [(h5.need).2.ret];exact ⟨_,rfl⟩
       ·exact h5.fail.elim
      obtain ⟨r,hr⟩:=hwr
      have hobj:eS h2 wr2.objs=eS e.h ((n,some (.arr (ver+1) (k+1) sz0 (rM rows i j)))::wr2.objs):=by
       rw [hr]
       show eS (fun m=>if m=base+63 then none else h2 m) r=eS (fun m=>if m=base+63 then none else (fun m=>if m=n then _ else e.h m) m) r
       congr 1
       funext m
       by_cases hm:m=base+63
       ·simp [hm]
       ·simp [h2,hm]
      obtain ⟨v',g3,w3,o1,o2,o3,o4,o5⟩:=hok
      rw [show ({ e with h:=h2 }:Env).h=h2 from rfl] at o2 o3 o4
      rw [hobj] at o2 o3 o4
      exact ⟨v',g3,w3,o1,o2,i2.trans' o3,o4,fun m hm=>(o5 m hm).elim (fun h7=>(i3 m h7).imp id fun e=>by omega) .inr⟩
    ·exact h.fail.elim
   ·exact h.fail.elim
  ·exact h.fail.elim
 ·exact h.fail.elim
end
inductive RC (w:World) (Fz:bK):C->Value->bK->Prop
 |d (x:D) (v:Value) (S:bK) (h:Shr w Fz v x) (hS:∀ x y,¬S x y):RC w Fz (.d x) v S
 |own (k sz:Nat) (rows:List (List D)) (v:Value) (S:bK) (h:Own w Fz (k+1) v (.slc sz rows) S):RC w Fz (.own k sz rows) v S
 |nil (k sz:Nat) (S:bK) (hS:∀ x y,¬S x y):RC w Fz (.nil k sz) (.slice none 0 0) S
 |box (cells:List C) (b o:Nat) (vs:Nat->Value) (T:Nat->bK) (S:bK) (hr:wY w b o cells.length)
   (hc:∀ (m:Nat) c,cells[m]?=some c->w.cell? (at_ b (o+m))=some (vs m)/\(vs m).oneCell'=true) (hs:∀ (m:Nat) c,cells[m]?=some c->RC w Fz c (vs m) (T m))
   (hd:aB9 cells.length T) (hn:∀ m,m<cells.length->∀ x y,rng b o cells.length x y->¬T m x y)
   (hS:∀ x y,S x y ↔ (rng b o cells.length x y\/∃ m,m<cells.length/\T m x y)):RC w Fz (.box cells) (.pointer (some (at_ b o))) S
 |rp (row:List D) (b o:Nat) (vs:Nat->Value) (S:bK) (hc:∀ (m:Nat) d,row[m]?=some d->w.cell? (at_ b (o+m))=some (vs m)/\Fz b (o+m))
   (hs:∀ (m:Nat) d,row[m]?=some d->Shr w Fz (vs m) d) (hS:∀ x y,¬S x y):RC w Fz (.rp row) (.pointer (some (at_ b o))) S
 |agg (cells:List C) (vs:Array Value) (T:Nat->bK) (S:bK) (hl:vs.size=cells.length) (h1:∀ (m:Nat) c,cells[m]?=some c->(vs.getD m Go.undef).oneCell'=true)
   (hs:∀ (m:Nat) c,cells[m]?=some c->RC w Fz c (vs.getD m Go.undef) (T m)) (hd:aB9 cells.length T) (hS:∀ x y,S x y ↔ ∃ m,m<cells.length/\T m x y):RC w Fz (.agg cells) (.agg vs) S
 |tup (cells:List C) (vs:Array Value) (T:Nat->bK) (S:bK) (hl:vs.size=cells.length)
   (hs:∀ (m:Nat) c,cells[m]?=some c->RC w Fz c (vs.getD m Go.undef) (T m)) (hd:aB9 cells.length T) (hS:∀ x y,S x y ↔ ∃ m,m<cells.length/\T m x y):RC w Fz (.tup cells) (.tuple vs) S
theorem RC.mono {w w':World} {Fz Fz':bK} (hF:∀ b o,Fz b o->Fz' b o) (hz:eZ w w' Fz) {c:C} {v:Value} {S:bK} (h:RC w Fz c v S):eZ w w' S->RC w' Fz' c v S:=by
 induction h with
 |d x v S h hS=>intro _;exact .d x v S (h.mono (fun b o hb=>(hz b o hb).1) hF) hS
 |own k sz rows v S h=>intro hk;exact .own k sz rows v S (Own.mono hF hz (k+1) hk h)
 |nil k sz S hS=>intro _;exact .nil k sz S hS
 |box cells b o vs T S hr hc hs hd hn hS ih=>
  intro hk
  refine .box cells b o vs T S (hr.keep (hk.sub fun x y h=>(hS x y).2 (.inl h))) (fun m c hm=>?_) (fun m c hm=>ih m c hm (hk.sub fun x y h=>(hS x y).2 (.inr ⟨m,(List.getElem?_eq_some_iff.1 hm).1,h⟩))) hd hn hS
  have hlt:=(List.getElem?_eq_some_iff.1 hm).1
  obtain ⟨h1,h2⟩:=hc m c hm
  exact ⟨((hk b (o+m) ((hS _ _).2 (.inl ⟨rfl,by omega,by omega⟩))).1).trans h1,h2⟩
 |rp row b o vs S hc hs hS=>
  intro _
  exact .rp row b o vs S (fun m d hm=>⟨((hz _ _ (hc m d hm).2).1).trans (hc m d hm).1,hF _ _ (hc m d hm).2⟩) (fun m d hm=>(hs m d hm).mono (fun b o hb=>(hz b o hb).1) hF) hS
 |agg cells vs T S hl h1 hs hd hS ih=>
  intro hk
  exact .agg cells vs T S hl h1 (fun m c hm=>ih m c hm (hk.sub fun x y h=>(hS x y).2 ⟨m,(List.getElem?_eq_some_iff.1 hm).1,h⟩)) hd hS
 |tup cells vs T S hl hs hd hS ih=>
  intro hk
  exact .tup cells vs T S hl (fun m c hm=>ih m c hm (hk.sub fun x y h=>(hS x y).2 ⟨m,(List.getElem?_eq_some_iff.1 hm).1,h⟩)) hd hS
theorem RC.lt {w:World} {Fz:bK} {c:C} {v:Value} {S:bK} (h:RC w Fz c v S):∀ b o,S b o->b<w.heap.size:=by
 induction h with
 |d x v S h hS=>intro b o hb;exact (hS b o hb).elim
 |own k sz rows v S h=>exact Own.lt (k+1) h
 |nil k sz S hS=>intro b o hb;exact (hS b o hb).elim
 |box cells b o vs T S hr hc hs hd hn hS ih=>
  intro x y hx
  rcases (hS x y).1 hx with ⟨rfl,h1,h2⟩|⟨m,hm,hT⟩
  ·obtain ⟨⟨u,hu⟩,_⟩:=hr (y-o) (by omega)
   exact aIz hu
  ·exact ih m _ (List.getElem?_eq_getElem hm) x y hT
 |rp row b o vs S hc hs hS=>intro b o hb;exact (hS b o hb).elim
 |agg cells vs T S hl h1 hs hd hS ih=>
  intro x y hx
  obtain ⟨m,hm,hT⟩:=(hS x y).1 hx
  exact ih m _ (List.getElem?_eq_getElem hm) x y hT
 |tup cells vs T S hl hs hd hS ih=>
  intro x y hx
  obtain ⟨m,hm,hT⟩:=(hS x y).1 hx
  exact ih m _ (List.getElem?_eq_getElem hm) x y hT
theorem RC.congr {w:World} {Fz:bK} {c:C} {v:Value} {S S':bK} (h:RC w Fz c v S) (e:∀ x y,S x y ↔ S' x y):RC w Fz c v S':=by
 have:S=S':=by funext x y;exact propext (e x y)
 exact this ▸ h
def RCs (w:World) (Fz:bK) (cs:List C) (args:Array Value) (U:Nat->bK):Prop:=
 args.size=cs.length/\(∀ (m:Nat) c,cs[m]?=some c->RC w Fz c (args.getD m Go.undef) (U m))/\aB9 cs.length U
structure aVY (w w':World) (Fz Fz':bK) (S:bK) (args:Array Value) (v:Value) (r:C) (os:List (Option C)) (U:Nat->bK):Prop where
 side:w'.os=w.os/\w'.output=w.output
 size:w.heap.size<=w'.heap.size
 blk:∀ b,b<w.heap.size->(∀ o,¬S b o)->w'.heap[b]?=w.heap[b]?
 cell:∀ b o,b<w.heap.size->¬S b o->w'.cell? (at_ b o)=w.cell? (at_ b o)/\w'.frz? (at_ b o)=w.frz? (at_ b o)
 fz:∀ b o,Fz b o->Fz' b o
 fzlt:∀ b o,Fz' b o->b<w'.heap.size
 fzof:∀ b o,Fz' b o->Fz b o\/S b o\/w.heap.size<=b
 res:RC w' Fz' r v (U 0)
 outs:∀ (m:Nat) c,os[m]?=some (some c)->RC w' Fz' c (args.getD m Go.undef) (U (m+1))
 disj:∀ i j,i≠j->∀ x y,U i x y->¬U j x y
 mine:∀ i x y,U i x y->(S x y\/w.heap.size<=x)/\¬Fz' x y/\x<w'.heap.size
def aSd (P:Program) (f:FuncId):Prop:=∃ fn,P.funcs[f]?=some fn/\(fn.name == "runtime.NumGoroutine")=false/\fn.body.isNone=false
def aC (P:Program) (G:GV) (f:FuncId) (cs:List C) (r:C) (os:List (Option C)):Prop:=
 aSd P f/\∀ (w:World) (args:Array Value) (Fz:bK) (U:Nat->bK),(∀ b p,G b=some p->(∀ o,Fz b o)/\∃ ob,w.heap[b]?=some ob/\p ob)->(∀ b o,Fz b o->b<w.heap.size)->RCs w Fz cs args U->(∀ i,i<cs.length->∀ x y,U i x y->¬Fz x y) →
  Calls P f args w fun e w'=>∃ v Fz' U',e=.returned v/\aVY w w' Fz Fz' (fun x y=>∃ i,i<cs.length/\U i x y) args v r os U'
theorem Shr.ind {w:World} {Fz Fz':bK} {v:Value} {d:D} (h:Shr w Fz v d) (hi:oB 0 d):Shr w Fz' v d:=by
 cases h with
 |bool b=>exact .bool b
 |int k n=>exact .int k n
 |str s=>exact .str s
 |emp a cap sz=>exact .emp a cap sz
 |slc b off cap sz rows vs hr hcap hc hs=>
  have:rows=[]:=hi
  subst this
  exact .emp _ _ _
 |fn f caps capv bs offs vs hl hb hc hs=>
  have:caps=[]:=hi
  subst this
  exact .fn f [] capv bs offs vs hl (fun i row h=>by grind) (fun i row m d h=>by grind) (fun i row m d h=>by grind)
 |nilIface=>exact .nilIface
 |iface t v=>exact .iface t v
 |ifc t k n=>exact .ifc t k n
 |hole v h1=>exact .hole v h1
theorem aQV {rows:List (List D)} {m:Nat} {d:D} (h:rows.flatten[m]?=some d):∃ row,row∈rows/\d∈row:=by
 obtain ⟨row,h1,h2⟩:=List.mem_flatten.1 (List.mem_of_getElem? h)
 grind
theorem Own.ind {w:World} {Fz Fz':bK}:∀ (k:Nat) {v:Value} {d:D} {S:bK},Own w Fz k v d S->oB k d->Own w Fz' k v d S:=by
 intro k
 induction k with
 |zero=>intro v d S h hi;exact ⟨h.1.ind hi,h.2⟩
 |succ k ih=>
  intro v d S h hi
  cases d with
  |slc sz rows=>
   rcases h with h|⟨b,off,cap,T,rfl,h1,h2,h3,h4,h5,h6,h7⟩
   ·exact .inl h
   ·refine .inr ⟨b,off,cap,T,rfl,h1,h2,h3,fun m d hm=>?_,h5,h6,h7⟩
    obtain ⟨u,hu,ho⟩:=h4 m d hm
    obtain ⟨row,hr,hd⟩:=aQV hm
    exact ⟨u,hu,ih ho (hi row hr d hd)⟩
  |fn f caps=>exact ⟨h.1.ind hi,h.2⟩
  |_=>exact ⟨h.1.ind trivial,h.2⟩
theorem aDt.get:∀ {cells:List C},aDt cells->∀ (m:Nat) c,cells[m]?=some c->aL1 c:=by
 intro cells
 induction cells with
 |nil=>grind
 |cons a r ih=>
  grind [aDt]
theorem RC.ind {w:World} {Fz Fz':bK} {c:C} {v:Value} {S:bK} (h:RC w Fz c v S):aL1 c->RC w Fz' c v S:=by
 induction h with
 |d x v S h hS=>intro hi;exact .d x v S (h.ind hi) hS
 |own k sz rows v S h=>intro hi;exact .own k sz rows v S (Own.ind (k+1) h hi)
 |nil k sz S hS=>intro _;exact .nil k sz S hS
 |box cells b o vs T S hr hc hs hd hn hS ih=>intro hi;exact .box cells b o vs T S hr hc (fun m c hm=>ih m c hm (hi.get m c hm)) hd hn hS
 |rp row b o vs S hc hs hS=>grind [aL1]
 |agg cells vs T S hl h1 hs hd hS ih=>intro hi;exact .agg cells vs T S hl h1 (fun m c hm=>ih m c hm (hi.get m c hm)) hd hS
 |tup cells vs T S hl hs hd hS ih=>intro hi;exact .tup cells vs T S hl (fun m c hm=>ih m c hm (hi.get m c hm)) hd hS
section
variable {c:Ctx} {g:Gh} {w:World} {e:Env}
def aPQ (g:Gh) (h:Nat->Option O) (w:World) (Z:bK) (v:Value) (r:C) (l:List Nat):Prop:=
 (∃ S,RC w Z r v S/\∀ x y,S x y->∃ n,n∈l/\g.F n x y)/\∀ n,n∈l->∃ o,h n=some o
theorem aUj (hi:fB c g e.h w) {f:Nat} {a:A} {v:Value} {d:D×List Nat} (hx:RA g e.h w a v) (h:Out e (mC f a) d):∀ n,n∈d.2->∃ ob,e.h n=some ob:=
 (oY hi f a v d (fun _ _=>True) hx h (fun _ _ _=>trivial) (fun _ _ _ _ _=>trivial)).2
theorem nP (hi:fB c g e.h w) {Z:bK} {a:A} {v:Value} {r:C×List Nat×List Nat} (hx:RA g e.h w a v) (h:Out e (lL a) r) (hz:∀ b o,g.Fz b o->Z b o)
  (hZ:∀ n,n∈r.2.2->∀ b o,g.F n b o->Z b o):aPQ g e.h w Z v r.1 r.2.1/\∀ n,n∈r.2.2->∃ o,e.h n=some o:=by
 have hk:eZ w w g.Fz:=eZ.refl _ _
 have plain:∀ {a:A},RA g e.h w a v->Out e ((mC 3 a).bind fun x=>.ret (.d x.1,[],x.2)) r->aPQ g e.h w Z v r.1 r.2.1/\∀ n,n∈r.2.2->∃ o,e.h n=some o:=by
  intro a hx h
  obtain ⟨d,h1,h2⟩:=Out.bind h
  have:=h2.ret
  subst this
  obtain ⟨h3,h4⟩:=oY hi 3 a v d Z hx h1 hz hZ
  exact ⟨⟨⟨fun _ _=>False,.d _ _ _ h3 (fun _ _ h=>h),fun _ _ h=>h.elim⟩,fun n hn=>by grind⟩,h4⟩
 unfold lL at h
 split at h
 ·rename_i n
  obtain ⟨o,ho,h⟩:=h.rh
  split at h
  ·rename_i ver k sz rows
   rw [h.ret] at *
   cases hx with|sl _ hn hone1=>?_
   exact ⟨⟨⟨g.F n,.own _ _ _ _ _ (Own.mono hz hk (k+1) (eZ.refl _ _) (hi.obj n _ ho)),fun x y h=>⟨n,by simp,h⟩⟩,fun q hq=>by grind⟩,fun q hq=>by grind⟩
  ·exact h.fail.elim
 ·rename_i n ver p
  obtain ⟨o,ho,h⟩:=h.rh
  split at h
  ·rename_i ver' k sz rows
   split at h
   ·rename_i hc
    obtain ⟨hv,hpk⟩:=hc
    subst hv
    split at h
    ·rename_i sz' rows' hrows
     rw [h.ret] at *
     cases hx with|inn _ _ _ _ hn hone he=>?_
     have hh1:=(he _ _ _ _ ho).2 rfl
     have hown:Own w g.Fz (k+1) (g.ν n) (.slc sz rows) (g.F n):=hi.obj n _ ho
     obtain ⟨S',ho',hS⟩:=aEz p _ _ _ _ _ _ _ _ hown hh1 hrows
     have hkk:k+1-p.length=(k-p.length)+1:=by omega
     rw [hkk] at ho'
     exact ⟨⟨⟨S',.own _ _ _ _ _ (Own.mono hz hk _ (eZ.refl _ _) ho'),fun x y h=>⟨n,by simp,hS x y h⟩⟩,fun q hq=>by grind⟩,fun q hq=>by grind⟩
    ·exact h.fail.elim
   ·exact h.fail.elim
  ·exact h.fail.elim
 ·rename_i k sz
  rw [h.ret] at *
  cases hx
  exact ⟨⟨⟨_,.own _ _ _ _ _ (tF (.inl rfl)),fun _ _ h=>h.elim⟩,fun q hq=>by grind⟩,fun q hq=>by grind⟩
 grind
theorem pJ (hi:fB c g e.h w) {Z:bK}:∀ (cells:List A) (vs:Nat->Value) (r:List C×List Nat×List Nat),(∀ (m:Nat) a,cells[m]?=some a->RA g e.h w a (vs m))->Out e (lO cells) r →
  (∀ b o,g.Fz b o->Z b o)->(∀ n,n∈r.2.2->∀ b o,g.F n b o->Z b o)->r.2.1.Nodup →
  r.1.length=cells.length/\(∀ n,n∈r.2.1->∃ o,e.h n=some o)/\(∀ n,n∈r.2.2->∃ o,e.h n=some o) ∧
  ∃ T:Nat->bK,(∀ (m:Nat) c,r.1[m]?=some c->RC w Z c (vs m) (T m))/\(∀ m x y,T m x y->∃ n,n∈r.2.1/\g.F n x y)/\aB9 r.1.length T:=by
 intro cells
 induction cells with
 |nil=>
  intro vs r _ h _ _ _
  have:=h.ret
  subst this
  exact ⟨rfl,fun n hn=>by grind,fun n hn=>by grind,fun _ _ _=>False,fun m c hm=>by grind,fun _ _ _ h=>h.elim,fun i j hi'=>by grind⟩
 |cons a cells ih=>
  intro vs r hra h hz hZ hnd
  unfold lO at h
  obtain ⟨⟨c0,l0,b0⟩,h1,h2⟩:=Out.bind h
  simp only at h2
  obtain ⟨⟨cs,ls,bs⟩,h3,h4⟩:=Out.bind h2
  simp only at h4
  have:=h4.ret
  subst this
  simp only at hZ hnd ⊢
  rw [List.nodup_append] at hnd
  obtain ⟨hn1,hn2,hn3⟩:=hnd
  obtain ⟨⟨⟨S0,q1,q2⟩,q3⟩,q4⟩:=nP hi (hra 0 a rfl) h1 hz (fun n hn=>hZ n (by grind))
  obtain ⟨i1,i2,i3,T,i4,i5,i6⟩:=ih (fun m=>vs (m+1)) _ (fun m a' hm=>hra (m+1) a' (by grind)) h3 hz (fun n hn=>hZ n (by grind)) hn2
  simp only at q2 q3 q4 i1 i2 i3 i4 i5 i6
  have hx:∀ x y m,S0 x y->T m x y->False:=by
   intro x y m h5 h6
   obtain ⟨n1,a1,b1⟩:=q2 x y h5
   obtain ⟨n2,a2,b2⟩:=i5 m x y h6
   obtain ⟨o1,p1⟩:=q3 n1 a1
   obtain ⟨o2,p2⟩:=i2 n2 a2
   exact hi.disj n1 n2 o1 o2 p1 p2 (hn3 n1 a1 n2 a2) x y b1 b2
  refine ⟨by grind,fun n hn=>(List.mem_append.1 hn).elim (q3 n) (i2 n),fun n hn=>(List.mem_append.1 hn).elim (q4 n) (i3 n),fun m=>(match m with|0=>S0|m+1=>T m),fun m c hm=>?_,fun m x y hT=>?_,fun i j hi' hj hij x y hT hT'=>?_⟩
  ·grind
  ·cases m with
   |zero=>grind
   |succ m=>grind
  ·cases i with
   |zero=>
    cases j with
    |zero=>grind
    |succ j=>grind
   |succ i=>
    cases j with
    |zero=>exact hx x y i hT' hT
    |succ j=>exact i6 i j (by simpa using hi') (by simpa using hj) (by omega) x y hT hT'
theorem aH2 (hi:fB c g e.h w) {Z:bK} {a:A} {v:Value} {r:C×List Nat×List Nat} (hx:RA g e.h w a v) (h:Out e (aBE a) r) (hz:∀ b o,g.Fz b o->Z b o)
  (hZ:∀ n,n∈r.2.2->∀ b o,g.F n b o->Z b o):aPQ g e.h w Z v r.1 r.2.1/\∀ n,n∈r.2.2->∃ o,e.h n=some o:=by
 unfold aBE at h
 split at h
 ·obtain ⟨q,h1,h2⟩:=Out.bind h
  have:=h2.ret
  subst this
  obtain ⟨S1,m1,m2,m3,m4⟩:=aBq hi hx h1
  exact ⟨⟨⟨S1,.own _ _ _ _ _ (Own.mono hz (eZ.refl _ _) _ (eZ.refl _ _) m1),fun x y h=>by grind⟩,fun n hn=>m4 n (by grind)⟩,fun n hn=>by grind⟩
 grind [nP]
theorem aFQ (hi:fB c g e.h w) {Z:bK}:∀ (cells:List A) (vs:Nat->Value) (r:List C×List Nat×List Nat),(∀ (m:Nat) a,cells[m]?=some a->RA g e.h w a (vs m))->Out e (rA cells) r →
  (∀ b o,g.Fz b o->Z b o)->(∀ n,n∈r.2.2->∀ b o,g.F n b o->Z b o)->r.2.1.Nodup →
  r.1.length=cells.length/\(∀ n,n∈r.2.1->∃ o,e.h n=some o)/\(∀ n,n∈r.2.2->∃ o,e.h n=some o) ∧
  ∃ T:Nat->bK,(∀ (m:Nat) c,r.1[m]?=some c->RC w Z c (vs m) (T m))/\(∀ m x y,T m x y->∃ n,n∈r.2.1/\g.F n x y)/\aB9 r.1.length T:=by
 intro cells
 induction cells with
 |nil=>
  intro vs r _ h _ _ _
  have:=h.ret
  subst this
  exact ⟨rfl,fun n hn=>by grind,fun n hn=>by grind,fun _ _ _=>False,fun m c hm=>by grind,fun _ _ _ h=>h.elim,fun i j hi'=>by grind⟩
 |cons a cells ih=>
  intro vs r hra h hz hZ hnd
  unfold rA at h
  obtain ⟨⟨c0,l0,b0⟩,h1,h2⟩:=Out.bind h
  simp only at h2
  obtain ⟨⟨cs,ls,bs⟩,h3,h4⟩:=Out.bind h2
  simp only at h4
  have:=h4.ret
  subst this
  simp only at hZ hnd ⊢
  rw [List.nodup_append] at hnd
  obtain ⟨hn1,hn2,hn3⟩:=hnd
  obtain ⟨⟨⟨S0,q1,q2⟩,q3⟩,q4⟩:=aH2 hi (hra 0 a rfl) h1 hz (fun n hn=>hZ n (by grind))
  obtain ⟨i1,i2,i3,T,i4,i5,i6⟩:=ih (fun m=>vs (m+1)) _ (fun m a' hm=>hra (m+1) a' (by grind)) h3 hz (fun n hn=>hZ n (by grind)) hn2
  simp only at q2 q3 q4 i1 i2 i3 i4 i5 i6
  have hx:∀ x y m,S0 x y->T m x y->False:=by
   intro x y m h5 h6
   obtain ⟨n1,a1,b1⟩:=q2 x y h5
   obtain ⟨n2,a2,b2⟩:=i5 m x y h6
   obtain ⟨o1,p1⟩:=q3 n1 a1
   obtain ⟨o2,p2⟩:=i2 n2 a2
   exact hi.disj n1 n2 o1 o2 p1 p2 (hn3 n1 a1 n2 a2) x y b1 b2
  refine ⟨by grind,fun n hn=>(List.mem_append.1 hn).elim (q3 n) (i2 n),fun n hn=>(List.mem_append.1 hn).elim (q4 n) (i3 n),fun m=>(match m with|0=>S0|m+1=>T m),fun m c hm=>?_,fun m x y hT=>?_,fun i j hi' hj hij x y hT hT'=>?_⟩
  ·grind
  ·cases m with
   |zero=>grind
   |succ m=>grind
  ·cases i with
   |zero=>
    cases j with
    |zero=>grind
    |succ j=>exact hx x y j hT hT'
   |succ i=>
    cases j with
    |zero=>exact hx x y i hT' hT
    |succ j=>exact i6 i j (by simpa using hi') (by simpa using hj) (by omega) x y hT hT'
theorem aL4 {cells:List A} {r:List C×List Nat×List Nat} (h:Out e (lO cells) r):∀ a,a∈cells->a.cellB=true:=by
 induction cells generalizing r with
 |nil=>grind
 |cons a0 cells ih=>
  intro a ha
  obtain ⟨x,h1,h2⟩:=Out.bind h
  obtain ⟨y,h3,h4⟩:=Out.bind h2
  rcases List.mem_cons.1 ha with rfl|ha
  ·unfold lL at h1
   split at h1
   ·rfl
   ·rfl
   ·rfl
   ·obtain ⟨d,h5,_⟩:=Out.bind h1
    cases a with
    |agg=>exact h5.fail.elim
    |tup=>exact h5.fail.elim
    |skip=>exact h5.fail.elim
    |undef=>exact h5.fail.elim
    |_=>rfl
  grind
theorem uO (hi:fB c g e.h w) {Z:bK} {m:eN} {a:A} {v:Value} {r:C×List Nat×List Nat×List Nat} (hx:RA g e.h w a v) (h:Out e (pV m a) r) (hz:∀ b o,g.Fz b o->Z b o)
  (hZ:∀ n,n∈r.2.2.2->∀ b o,g.F n b o->Z b o) (hnd:(r.2.1++r.2.2.1).Nodup):aPQ g e.h w Z v r.1 (r.2.1++r.2.2.1)/\∀ n,n∈r.2.2.2->∃ o,e.h n=some o:=by
 have aggl:∀ {cells:List A} {q:List C×List Nat×List Nat},RA g e.h w (.agg cells) v->Out e (lO cells) q->(∀ n,n∈q.2.2->∀ b o,g.F n b o->Z b o)->q.2.1.Nodup->aPQ g e.h w Z v (.agg q.1) q.2.1/\∀ n,n∈q.2.2->∃ o,e.h n=some o:=by
  intro cells q hx h hZ hnd
  obtain ⟨vs,rfl,hl,h1,hc⟩:=hx.agg_inv
  obtain ⟨i1,i2,i3,T,i4,i5,i6⟩:=pJ hi cells (fun m=>vs.getD m Go.undef) q hc h hz hZ hnd
  refine ⟨⟨⟨fun x y=>∃ m,m<q.1.length/\T m x y,.agg _ _ T _ (by grind) (fun m c hm=>?_) i4 i6 (fun x y=>Iff.rfl),fun x y ⟨m,_,hT⟩=>i5 m x y hT⟩,i2⟩,i3⟩
  have hm':=(List.getElem?_eq_some_iff.1 hm).1
  exact h1 m _ (List.getElem?_eq_getElem (by omega))
 have aggg:∀ {cells:List A} {q:List C×List Nat×List Nat},RA g e.h w (.agg cells) v->Out e (rA cells) q->(∀ n,n∈q.2.2->∀ b o,g.F n b o->Z b o)->q.2.1.Nodup->aPQ g e.h w Z v (.agg q.1) q.2.1/\∀ n,n∈q.2.2->∃ o,e.h n=some o:=by
  intro cells q hx h hZ hnd
  obtain ⟨vs,rfl,hl,h1,hc⟩:=hx.agg_inv
  obtain ⟨i1,i2,i3,T,i4,i5,i6⟩:=aFQ hi cells (fun m=>vs.getD m Go.undef) q hc h hz hZ hnd
  refine ⟨⟨⟨fun x y=>∃ m,m<q.1.length/\T m x y,.agg _ _ T _ (by rw [hl,i1]) (fun m c hm=>?_) i4 i6 (fun x y=>Iff.rfl),fun x y ⟨m,_,hT⟩=>i5 m x y hT⟩,i2⟩,i3⟩
  have hm':=(List.getElem?_eq_some_iff.1 hm).1
  exact h1 m _ (List.getElem?_eq_getElem (by omega))
 unfold pV at h
 split at h
 ·rename_i cells
  obtain ⟨ds,h1,h2⟩:=Out.bind h
  have:=h2.ret
  subst this
  simp only at hZ hnd ⊢
  obtain ⟨vs,rfl,hl,h3,hc⟩:=hx.agg_inv
  obtain ⟨hl2,hget⟩:=h1.mapM
  have hds:∀ (m:Nat) d,ds[m]?=some d->Shr w Z (vs.getD m Go.undef) d.1/\∀ n,n∈d.2->∃ ob,e.h n=some ob:=by
   intro m d hm
   have hm':=(List.getElem?_eq_some_iff.1 hm).1
   have ha:=List.getElem?_eq_getElem (show m<cells.length by omega)
   exact oY hi 3 _ _ d Z (hc m _ ha) (hget m _ d ha hm) hz (fun n hn=>hZ n (List.mem_flatten.2 ⟨d.2,List.mem_map.2 ⟨d,List.mem_of_getElem? hm,rfl⟩,hn⟩))
  have hcs:∀ (m:Nat) c',(ds.map fun x=>C.d x.1)[m]?=some c'->∃ d,ds[m]?=some d/\c'=.d d.1:=by
   intro m c' hm
   simp only [List.getElem?_map] at hm
   cases hd:ds[m]? with
   |none=>simp [hd] at hm
   |some d=>simp only [hd,Option.map_some,Option.some.injEq] at hm;exact ⟨d,rfl,hm.symm⟩
  refine ⟨⟨⟨fun _ _=>False,.agg _ _ (fun _ _ _=>False) _ (by simp;omega) (fun m c' hm=>?_) (fun m c' hm=>?_) (fun _ _ _ _ _ _ _ h=>h.elim) (fun x y=>⟨fun h=>h.elim,fun ⟨_,_,h⟩=>h⟩),fun _ _ h=>h.elim⟩,fun n hn=>by simp at hn⟩,fun n hn=>?_⟩
  ·obtain ⟨d,hd,rfl⟩:=hcs m c' hm
   exact (hds m d hd).1.one
  ·obtain ⟨d,hd,rfl⟩:=hcs m c' hm
   exact .d _ _ _ (hds m d hd).1 (fun _ _ h=>h)
  ·obtain ⟨l,hl',hn⟩:=List.mem_flatten.1 hn
   obtain ⟨d,hd,rfl⟩:=List.mem_map.1 hl'
   obtain ⟨i,hi',rfl⟩:=List.getElem_of_mem hd
   exact (hds i _ (List.getElem?_eq_getElem hi')).2 n hn
 ·rename_i row off
  have:=h.ret
  subst this
  cases hx with|rp _ _ b o vs hc hs=>?_
  refine ⟨⟨⟨fun _ _=>False,.rp _ _ _ (fun m=>vs (off+m)) _ (fun m d hm=>?_) (fun m d hm=>?_) (fun _ _ h=>h),fun _ _ h=>h.elim⟩,fun n hn=>by simp at hn⟩,fun n hn=>by simp at hn⟩
  ·rw [List.getElem?_drop] at hm
   obtain ⟨h1,h2⟩:=hc _ d hm
   exact ⟨by rw [Nat.add_assoc];exact h1,by rw [Nat.add_assoc];exact hz _ _ h2⟩
  ·rw [List.getElem?_drop] at hm
   exact (hs _ d hm).mono (fun _ _ _=>rfl) hz
 ·obtain ⟨d,h1,h2⟩:=Out.bind h
  have:=h2.ret
  subst this
  obtain ⟨h3,h4⟩:=oY hi 3 _ v d Z hx h1 hz hZ
  exact ⟨⟨⟨fun _ _=>False,.d _ _ _ h3 (fun _ _ h=>h),fun _ _ h=>h.elim⟩,fun n hn=>by simp at hn⟩,h4⟩
 ·rename_i cells
  obtain ⟨q,h1,h2⟩:=Out.bind h
  have:=h2.ret
  subst this
  obtain ⟨⟨p1,p2⟩,p3⟩:=aggl hx h1 hZ (by simpa using hnd)
  exact ⟨⟨by simpa using p1,by simpa using p2⟩,p3⟩
 ·obtain ⟨q,h1,h2⟩:=Out.bind h
  have:=h2.ret
  subst this
  obtain ⟨⟨p1,p2⟩,p3⟩:=nP hi hx h1 hz hZ
  exact ⟨⟨by simpa using p1,by simpa using p2⟩,p3⟩
 ·rename_i cells
  obtain ⟨q,h1,h2⟩:=Out.bind h
  have:=h2.ret
  subst this
  obtain ⟨⟨p1,p2⟩,p3⟩:=aggg hx h1 hZ (by simpa using hnd)
  exact ⟨⟨by simpa using p1,by simpa using p2⟩,p3⟩
 ·obtain ⟨q,h1,h2⟩:=Out.bind h
  have:=h2.ret
  subst this
  obtain ⟨S1,m1,m2,m3,m4⟩:=aBq hi hx h1
  exact ⟨⟨⟨S1,.own _ _ _ _ _ (Own.mono hz (eZ.refl _ _) _ (eZ.refl _ _) m1),fun x y h=>by simpa using m2 x y h⟩,fun n hn=>m4 n (by simpa using hn)⟩,fun n hn=>by simp at hn⟩
 ·obtain ⟨q,h1,h2⟩:=Out.bind h
  have:=h2.ret
  subst this
  obtain ⟨⟨p1,p2⟩,p3⟩:=nP hi hx h1 hz hZ
  exact ⟨⟨by simpa using p1,by simpa using p2⟩,p3⟩
 ·have:=h.ret
  subst this
  cases hx
  exact ⟨⟨⟨fun _ _=>False,.nil _ _ _ (fun _ _ h=>h),fun _ _ h=>h.elim⟩,fun n hn=>by simp at hn⟩,fun n hn=>by simp at hn⟩
 ·rename_i len n off
  obtain ⟨o,ho,h⟩:=h.rh
  split at h
  ·rename_i cells
   split at h
   ·rename_i hle
    obtain ⟨q,h1,h2⟩:=Out.bind h
    have:=h2.ret
    subst this
    simp only [List.append_nil] at hnd ⊢
    obtain ⟨hnn,hnd⟩:=List.nodup_cons.1 hnd
    obtain ⟨b,o,hν,hr,hF,hc⟩:=hi.obj n _ ho
    cases hx with|ptr _ _ b' o' hn hν'=>?_
    rw [hν] at hν'
    cases hν'
    have hcl:((cells.drop off).take len).length=len:=by simp;omega
    have hu:∀ (m:Nat) a,((cells.drop off).take len)[m]?=some a->∃ u,w.cell? (at_ b (o+off+m))=some u/\u.oneCell'=true/\RA g e.h w a u:=by
     intro m a hm
     have hm':m<len:=by have:=(List.getElem?_eq_some_iff.1 hm).1;omega
     rw [List.getElem?_take_of_lt hm',List.getElem?_drop] at hm
     obtain ⟨u,h5,h6,h7⟩:=hc _ a hm
     exact ⟨u,by rw [Nat.add_assoc];exact h5,h6,h7⟩
    obtain ⟨i1,i2,i3,T,i4,i5,i6⟩:=pJ hi _ (fun m=>(w.cell? (at_ b (o+off+m))).getD Go.undef) q (fun m a hm=>by
     obtain ⟨u,h5,_,h7⟩:=hu m a hm
     rw [h5];exact h7) h1 hz hZ hnd
    rw [hcl] at i1
    have hrng:∀ x y,rng b (o+off) q.1.length x y->g.F n x y:=fun x y h=>(hF x y).2 ⟨h.1,by have:=h.2.1;omega,by have:=h.2.2;omega⟩
    refine ⟨⟨⟨fun x y=>rng b (o+off) q.1.length x y\/∃ m,m<q.1.length/\T m x y,.box _ _ _ (fun m=>(w.cell? (at_ b (o+off+m))).getD Go.undef) T _ ?_ (fun m c hm=>?_) i4 i6 ?_ (fun x y=>Iff.rfl),?_⟩,?_⟩,i3⟩
    ·intro j hj
     have:=hr (off+j) (by omega)
     rwa [<-Nat.add_assoc] at this
    ·have hm':=(List.getElem?_eq_some_iff.1 hm).1
     obtain ⟨u,h5,h6,_⟩:=hu m _ (List.getElem?_eq_getElem (by omega))
     exact ⟨by rw [h5];rfl,by rw [h5];exact h6⟩
    ·intro m hm x y h5 h6
     obtain ⟨n2,a2,b2⟩:=i5 m x y h6
     obtain ⟨o2,p2⟩:=i2 n2 a2
     exact hi.disj n n2 _ o2 ho p2 (fun e=>hnn (e ▸ a2)) x y (hrng x y h5) b2
    ·rintro x y (h5|⟨m,hm,h5⟩)
     ·exact ⟨n,by simp,hrng x y h5⟩
     ·obtain ⟨n2,a2,b2⟩:=i5 m x y h5
      exact ⟨n2,by simp [a2],b2⟩
    ·intro n2 hn2
     rcases List.mem_cons.1 hn2 with rfl|hn2
     ·exact ⟨_,ho⟩
     ·exact i2 n2 hn2
   ·exact h.fail.elim
  ·exact h.fail.elim
 ·exact h.fail.elim
end
section
variable {c:Ctx} {g:Gh} {w:World} {e:Env}
theorem yH (hi:fB c g e.h w) {Z:bK}:∀ (as:List (eN×A)) (vs:Nat->Value) (r:List C×List Nat×List Nat×List Nat),(∀ (m:Nat) p,as[m]?=some p->RA g e.h w p.2 (vs m))->Out e (oZ as) r →
  (∀ b o,g.Fz b o->Z b o)->(∀ n,n∈r.2.2.2->∀ b o,g.F n b o->Z b o)->(r.2.1++r.2.2.1).Nodup →
  r.1.length=as.length/\(∀ n,n∈r.2.1++r.2.2.1->∃ o,e.h n=some o)/\(∀ n,n∈r.2.2.2->∃ o,e.h n=some o) ∧
  ∃ T:Nat->bK,(∀ (m:Nat) c,r.1[m]?=some c->RC w Z c (vs m) (T m))/\(∀ m,m<r.1.length->∀ x y,T m x y->∃ n,n∈r.2.1++r.2.2.1/\g.F n x y)/\aB9 r.1.length T:=by
 intro as
 induction as with
 |nil=>
  intro vs r _ h _ _ _
  have:=h.ret
  subst this
  exact ⟨rfl,fun n hn=>by grind,fun n hn=>by grind,fun _ _ _=>False,fun m c hm=>by grind,fun _ _ _ _ h=>h.elim,fun i j hi'=>by grind⟩
 |cons a as ih=>
  intro vs r hra h hz hZ hnd
  obtain ⟨m0,a⟩:=a
  unfold oZ at h
  obtain ⟨⟨c0,l0,g0,b0⟩,h1,h2⟩:=Out.bind h
  simp only at h2
  obtain ⟨⟨cs,ls,gs,bs⟩,h3,h4⟩:=Out.bind h2
  simp only at h4
  have:=h4.ret
  subst this
  simp only at hZ hnd ⊢
  have hnd0:(l0++g0).Nodup:=by
   grind
  have hnds:(ls++gs).Nodup:=by
   grind
  have hap:∀ n,n∈l0++g0->n ∉ ls++gs:=by
   grind
  obtain ⟨⟨⟨S0,q1,q2⟩,q3⟩,q4⟩:=uO hi (hra 0 _ rfl) h1 hz (fun n hn=>hZ n (by grind)) hnd0
  obtain ⟨i1,i2,i3,T,i4,i5,i6⟩:=ih (fun m=>vs (m+1)) _ (fun m a' hm=>hra (m+1) a' (by grind)) h3 hz (fun n hn=>hZ n (by grind)) hnds
  simp only at q1 q2 q3 q4 i1 i2 i3 i4 i5 i6
  have hx:∀ x y m,m<cs.length->S0 x y->T m x y->False:=by
   intro x y m hm h5 h6
   obtain ⟨n1,a1,b1⟩:=q2 x y h5
   obtain ⟨n2,a2,b2⟩:=i5 m hm x y h6
   obtain ⟨o1,p1⟩:=q3 n1 a1
   obtain ⟨o2,p2⟩:=i2 n2 a2
   exact hi.disj n1 n2 o1 o2 p1 p2 (fun e=>hap n1 a1 (e ▸ a2)) x y b1 b2
  have hmem0:∀ n,n∈l0++g0->n∈l0++ls++(g0++gs):=fun n hn=>by
   rcases List.mem_append.1 hn with h5|h5<;>simp [h5]
  have hmems:∀ n,n∈ls++gs->n∈l0++ls++(g0++gs):=fun n hn=>by
   rcases List.mem_append.1 hn with h5|h5<;>simp [h5]
  refine ⟨by simp [i1],fun n hn=>?_,fun n hn=>(List.mem_append.1 hn).elim (q4 n) (i3 n),fun m=>(match m with|0=>S0|m+1=>T m),fun m c hm=>?_,fun m hm x y hT=>?_,fun i j hi' hj hij x y hT hT'=>?_⟩
  ·rcases List.mem_append.1 hn with h5|h5
   ·rcases List.mem_append.1 h5 with h6|h6
    ·exact q3 n (by simp [h6])
    ·exact i2 n (by simp [h6])
   ·rcases List.mem_append.1 h5 with h6|h6
    ·exact q3 n (by simp [h6])
    ·exact i2 n (by simp [h6])
  ·cases m with
   |zero=>simp at hm;subst hm;exact q1
   |succ m=>exact i4 m c (by simpa using hm)
  ·cases m with
   |zero=>obtain ⟨n,h5,h6⟩:=q2 x y hT;exact ⟨n,hmem0 n h5,h6⟩
   |succ m=>obtain ⟨n,h5,h6⟩:=i5 m (by simpa using hm) x y hT;exact ⟨n,hmems n h5,h6⟩
  ·cases i with
   |zero=>
    cases j with
    |zero=>exact hij rfl
    |succ j=>exact hx x y j (by simpa using hj) hT hT'
   |succ i=>
    cases j with
    |zero=>exact hx x y i (by simpa using hi') hT' hT
    |succ j=>exact i6 i j (by simpa using hi') (by simpa using hj) (by omega) x y hT hT'
end
structure OpW (w:World) (Fz:bK) (νs:Nat->Value) (Fs:Nat->bK) (S:bK) (n m:Nat) (os:List (Nat×Option O)) (R:Gh->(Nat->Option O)->Prop):Prop where
 le:n<=m
 key:∀ q o,(q,o)∈os->n<=q/\q<m/\∃ ob,o=some ob
 uniq:∀ q,n<=q->q<m->∃ ob,(q,some ob)∈os
 once:(os.map (·.1)).Nodup
 sub:∀ q,n<=q->q<m->∀ x y,Fs q x y->S x y
 disj:∀ p q,n<=p->p<m->n<=q->q<m->p≠q->∀ x y,Fs p x y->¬Fs q x y
 ok:∀ (g:Gh) (h:Nat->Option O),g.Fz=Fz->(∀ q,n<=q->q<m->g.ν q=νs q/\g.F q=Fs q/\g.Nm q)->R g h/\∀ q ob,(q,some ob)∈os->RO g h w q ob
def kY (w:World) (Fz:bK) (S:bK) (n m:Nat) (os:List (Nat×Option O)) (R:Gh->(Nat->Option O)->Prop):Prop:=∃ νs Fs,OpW w Fz νs Fs S n m os R
theorem kY.empty {w:World} {Fz S:bK} {n:Nat} {R:Gh->(Nat->Option O)->Prop} (hR:∀ g h,g.Fz=Fz->R g h):kY w Fz S n n [] R:=
 ⟨fun _=>Go.undef,fun _ _ _=>False,Nat.le_refl _,fun q o h=>by grind,fun q h1 h2=>by omega,List.nodup_nil,fun q h1 h2=>by omega,fun p q h1 h2=>by omega,fun g h hz _=>⟨hR g h hz,fun q ob h=>by grind⟩⟩
theorem kY.one {w:World} {Fz S:bK} {n:Nat} {v:Value} {ob:O} {R:Gh->(Nat->Option O)->Prop} (hR:∀ g h,g.Fz=Fz->g.ν n=v->g.F n=S->g.Nm n->R g h/\RO g h w n ob):kY w Fz S n (n+1) [(n,some ob)] R:=by
 refine ⟨fun _=>v,fun _=>S,by omega,?_,?_,by simp,fun q _ _ x y h=>h,fun p q h1 h2 h3 h4 h5=>by omega,?_⟩
 ·grind
 ·grind
 grind
theorem kY.append {w:World} {Fz S1 S2 S:bK} {n m k:Nat} {os1 os2:List (Nat×Option O)} {R1 R2 R:Gh->(Nat->Option O)->Prop} (h1:kY w Fz S1 n m os1 R1) (h2:kY w Fz S2 m k os2 R2)
  (hd:∀ x y,S1 x y->¬S2 x y) (hs1:∀ x y,S1 x y->S x y) (hs2:∀ x y,S2 x y->S x y) (hR:∀ g h,R1 g h->R2 g h->R g h):kY w Fz S n k (os1++os2) R:=by
 obtain ⟨ν1,F1,a1,a2,a3,a4,a5,a6,a7⟩:=h1
 obtain ⟨ν2,F2,b1,b2,b3,b4,b5,b6,b7⟩:=h2
 refine ⟨fun q=>if q<m then ν1 q else ν2 q,fun q=>if q<m then F1 q else F2 q,by omega,?_,?_,?_,?_,?_,?_⟩
 ·grind
 ·grind
 ·grind
 ·grind
 ·grind
 ·intro g h hz hq
  obtain ⟨c1,c2⟩:=a7 g h hz (fun q h1 h2=>by have:=hq q h1 (by omega);simpa [h2] using this)
  obtain ⟨d1,d2⟩:=b7 g h hz (fun q h1 h2=>by
   have:=hq q (by omega) h2
   have hn:¬q<m:=by omega
   simpa [hn] using this)
  exact ⟨hR g h c1 d1,fun q ob hm=>(List.mem_append.1 hm).elim (c2 q ob) (d2 q ob)⟩
theorem kY.weaken {w:World} {Fz S S':bK} {n m:Nat} {os:List (Nat×Option O)} {R R':Gh->(Nat->Option O)->Prop} (h:kY w Fz S n m os R) (hs:∀ x y,S x y->S' x y) (hR:∀ g h,R g h->R' g h):kY w Fz S' n m os R':=by
 obtain ⟨ν1,F1,a1,a2,a3,a4,a5,a6,a7⟩:=h
 exact ⟨ν1,F1,a1,a2,a3,a4,fun q h1 h2 x y h=>hs x y (a5 q h1 h2 x y h),a6,fun g h hz hq=>⟨hR g h (a7 g h hz hq).1,(a7 g h hz hq).2⟩⟩
def aSb (w:World) (Fz:bK) (c:C) (v:Value) (S:bK):Prop:=
 ∀ n,kY w Fz S n (cH n c).2.2 (cH n c).2.1 fun g h=>RA g h w (cH n c).1 v
theorem wH {w:World} {Fz:bK}:∀ (cells:List C) (vs:Nat->Value) (T:Nat->bK),(∀ (m:Nat) c,cells[m]?=some c->aSb w Fz c (vs m) (T m))->aB9 cells.length T->∀ n,
  (cH.openL n cells).1.length=cells.length/\kY w Fz (fun x y=>∃ m,m<cells.length/\T m x y) n (cH.openL n cells).2.2 (cH.openL n cells).2.1 fun g h=>∀ (m:Nat) a,(cH.openL n cells).1[m]?=some a->RA g h w a (vs m):=by
 intro cells
 induction cells with
 |nil=>intro vs T _ _ n;exact ⟨rfl,kY.empty fun g h _ m a hm=>by grind [cH.openL]⟩
 |cons c cells ih=>
  intro vs T hs hd n
  have h0:=hs 0 c rfl n
  obtain ⟨i1,i2⟩:=ih (fun m=>vs (m+1)) (fun m=>T (m+1)) (fun m c' hm=>hs (m+1) c' (by grind)) (fun i j hi hj hij=>hd (i+1) (j+1) (by grind) (by grind) (by omega)) (cH n c).2.2
  refine ⟨by grind [cH.openL],?_⟩
  refine h0.append i2 ?_ (fun x y h=>⟨0,by simp,h⟩) (fun x y ⟨m,hm,h⟩=>⟨m+1,by grind,h⟩) ?_
  ·rintro x y h1 ⟨m,hm,h2⟩
   exact hd 0 (m+1) (by simp) (by grind) (by omega) x y h1 h2
  grind [cH.openL]
theorem aED {w:World} {Fz:bK} {c:C} {v:Value} {S:bK} (h:RC w Fz c v S):aSb w Fz c v S:=by
 induction h with
 |d x v S h hS=>intro n;exact kY.empty fun g h' hz=>.d _ _ (hz ▸ h)
 |nil k sz S hS=>intro n;exact kY.empty fun g h' hz=>.nil k sz
 |own k sz rows v S h=>
  intro n
  exact kY.one (v:=v) fun g h' hz h1 h2 h3=>⟨by
   have:=RA.sl (g:=g) (h:=h') (w:=w) n h3 (by rw [h1];exact h.one)
   rw [h1] at this
   exact this,by
   show Own w g.Fz (k+1) (g.ν n) (.slc sz rows) (g.F n)
   grind⟩
 |box cells b o vs T S hr hc hs hd hn hS ih=>
  intro n
  obtain ⟨i1,i2⟩:=wH cells vs T (fun m c hm=>ih m c hm) hd (n+1)
  obtain ⟨ν1,F1,a1,a2,a3,a4,a5,a6,a7⟩:=i2
  have hxd:∀ q,n+1<=q->q<(cH.openL (n+1) cells).2.2->∀ x y,F1 q x y->¬rng b o cells.length x y:=by
   intro q h1 h2 x y h h3
   grind
  show kY w Fz S n (cH.openL (n+1) cells).2.2 ((cH.openL (n+1) cells).2.1++[(n,some (.box (cH.openL (n+1) cells).1))]) fun g h=>RA g h w (.ptr n 0) _
  refine ⟨fun q=>if q=n then .pointer (some (at_ b o)) else ν1 q,fun q=>if q=n then rng b o cells.length else F1 q,by omega,?_,?_,?_,?_,?_,?_⟩
  ·grind
  ·grind
  ·rw [List.map_append,List.nodup_append]
   refine ⟨a4,by simp,fun x hx y hy=>?_⟩
   obtain ⟨⟨q,ob⟩,h3,rfl⟩:=List.mem_map.1 hx
   simp at hy
   subst hy
   have:=(a2 q ob h3).1
   simp only;omega
  ·intro q h1 h2 x y h
   split at h
   ·exact (hS x y).2 (.inl h)
   ·exact (hS x y).2 (.inr (a5 q (by omega) h2 x y h))
  ·intro p q h1 h2 h3 h4 hne x y h5 h6
   split at h5
   ·split at h6
    ·omega
    ·exact hxd q (by omega) h4 x y h6 h5
   ·split at h6
    ·exact hxd p (by omega) h2 x y h5 h6
    ·exact a6 p q (by omega) h2 (by omega) h4 hne x y h5 h6
  ·intro g h hz hq
   obtain ⟨c1,c2⟩:=a7 g h hz (fun q h1 h2=>by
    have:=hq q (by omega) h2
    have hne:¬q=n:=by omega
    simpa [hne] using this)
   obtain ⟨d1,d2,d3⟩:=hq n (Nat.le_refl _) (by omega)
   simp only [if_pos] at d1 d2
   refine ⟨RA.ptr n 0 b o d3 d1,fun q ob hm=>?_⟩
   rcases List.mem_append.1 hm with hm|hm
   ·exact c2 q ob hm
   ·simp at hm
    obtain ⟨rfl,rfl⟩:=hm
    refine ⟨b,o,d1,by rw [i1];exact hr,fun x y=>by rw [d2,i1],fun m a ha=>?_⟩
    have hm':=(List.getElem?_eq_some_iff.1 ha).1
    obtain ⟨e1,e2⟩:=hc m _ (List.getElem?_eq_getElem (by omega))
    exact ⟨vs m,e1,e2,c1 m a ha⟩
 |rp row b o vs S hc hs hS=>
  intro n
  exact kY.empty fun g h' hz=>RA.rp row 0 b o vs (fun m d hm=>⟨(hc m d hm).1,hz ▸ (hc m d hm).2⟩) (fun m d hm=>hz ▸ hs m d hm)
 |agg cells vs T S hl h1 hs hd hS ih=>
  intro n
  obtain ⟨i1,i2⟩:=wH cells (fun m=>vs.getD m Go.undef) T (fun m c hm=>ih m c hm) hd n
  refine i2.weaken (fun x y h=>(hS x y).2 h) fun g h h2=>.agg _ vs (by rw [hl,i1]) (fun m a hm=>?_) h2
  have hm':=(List.getElem?_eq_some_iff.1 hm).1
  exact h1 m _ (List.getElem?_eq_getElem (by omega))
 |tup cells vs T S hl hs hd hS ih=>
  intro n
  obtain ⟨i1,i2⟩:=wH cells (fun m=>vs.getD m Go.undef) T (fun m c hm=>ih m c hm) hd n
  exact i2.weaken (fun x y h=>(hS x y).2 h) fun g h h2=>.tup _ vs (by rw [hl,i1]) h2
theorem Own.uniq {w:World} {Fz Fz':bK}:∀ (k:Nat) {v:Value} {d:D} {S S':bK},Own w Fz k v d S->Own w Fz' k v d S'->∀ x y,S x y->S' x y:=by
 intro k
 induction k with
 |zero=>intro v d S S' h _ x y hx;exact (h.2 x y hx).elim
 |succ k ih=>
  intro v d S S' h h' x y hx
  cases d with
  |slc sz rows=>
   rcases h with ⟨_,_,h⟩|⟨b,off,cap,T,rfl,h1,h2,h3,h4,h5,h6,h7⟩
   ·grind
   ·rcases h' with ⟨h',_⟩|⟨b',off',cap',T',e,g1,g2,g3,g4,g5,g6,g7⟩
    ·grind
    ·cases e
     rcases (h7 x y).1 hx with h|⟨m,hm,hT⟩
     ·grind
     ·have hd:=List.getElem?_eq_getElem hm
      obtain ⟨u,hu,ho⟩:=h4 m _ hd
      obtain ⟨u',hu',ho'⟩:=g4 m _ hd
      rw [hu] at hu'
      cases hu'
      exact (g7 x y).2 (.inr ⟨m,hm,ih ho ho' x y hT⟩)
  |_=>exact (h.2 x y hx).elim
structure BkW (w:World) (X:Gh->(Nat->Option O)->Prop) (νs:Nat->Value) (Fs:Nat->bK) (S:bK) (K:List Nat) (os:List (Nat×Option O)) (R:Gh->(Nat->Option O)->Prop):Prop where
 key:os.map (·.1)=K
 some':∀ q o,(q,o)∈os->∃ ob,o=some ob
 once:K.Nodup
 sub:∀ q,q∈K->∀ x y,Fs q x y->S x y
 disj:∀ p q,p∈K->q∈K->p≠q->∀ x y,Fs p x y->¬Fs q x y
 ok:∀ (g:Gh) (h:Nat->Option O),X g h->(∀ q,q∈K->g.ν q=νs q/\g.F q=Fs q/\g.Nm q)->R g h/\∀ q ob,(q,some ob)∈os->RO g h w q ob
def gV (w:World) (X:Gh->(Nat->Option O)->Prop) (νo:Nat->Value) (S:bK) (K:List Nat) (os:List (Nat×Option O)) (old:List Nat) (R:Gh->(Nat->Option O)->Prop):Prop:=
 ∃ νs Fs,BkW w X νs Fs S K os R/\∀ q,q∈K->q∈old->νs q=νo q
section
variable {w:World} {X:Gh->(Nat->Option O)->Prop} {νo:Nat->Value} {old:List Nat}
theorem gV.empty {S:bK} {R:Gh->(Nat->Option O)->Prop} (hR:∀ g h,X g h->R g h):gV w X νo S [] [] old R:=
 ⟨fun _=>Go.undef,fun _ _ _=>False,⟨rfl,fun q o h=>by grind,List.nodup_nil,fun q h=>by grind,fun p q h=>by grind,fun g h hx _=>⟨hR g h hx,fun q ob h=>by grind⟩⟩,fun q h=>by grind⟩
theorem gV.one {S:bK} {n:Nat} {v:Value} {ob:O} {R:Gh->(Nat->Option O)->Prop} (hv:n∈old->v=νo n) (hR:∀ g h,X g h->g.ν n=v->g.F n=S->g.Nm n->R g h/\RO g h w n ob):gV w X νo S [n] [(n,some ob)] old R:=by
 refine ⟨fun _=>v,fun _=>S,⟨rfl,?_,by simp,fun q _ x y h=>h,?_,?_⟩,?_⟩
 ·grind
 ·grind
 ·grind
 grind
theorem gV.append {S1 S2 S:bK} {K1 K2:List Nat} {os1 os2:List (Nat×Option O)} {R1 R2 R:Gh->(Nat->Option O)->Prop} (h1:gV w X νo S1 K1 os1 old R1) (h2:gV w X νo S2 K2 os2 old R2)
  (hk:∀ q,q∈K1->q ∉ K2) (hd:∀ x y,S1 x y->¬S2 x y) (hs1:∀ x y,S1 x y->S x y) (hs2:∀ x y,S2 x y->S x y) (hR:∀ g h,R1 g h->R2 g h->R g h):gV w X νo S (K1++K2) (os1++os2) old R:=by
 obtain ⟨ν1,F1,⟨a2,a3,a4,a5,a6,a7⟩,a8⟩:=h1
 obtain ⟨ν2,F2,⟨b2,b3,b4,b5,b6,b7⟩,b8⟩:=h2
 refine ⟨fun q=>if q∈K1 then ν1 q else ν2 q,fun q=>if q∈K1 then F1 q else F2 q,⟨by grind,?_,?_,?_,?_,?_⟩,?_⟩
 ·grind
 ·grind
 ·grind
 ·grind
 ·intro g h hx hq
  obtain ⟨c1,c2⟩:=a7 g h hx (fun q h1=>by have:=hq q (by simp [h1]);simpa [h1] using this)
  grind
 grind
theorem gV.weaken {S S':bK} {K:List Nat} {os:List (Nat×Option O)} {R R':Gh->(Nat->Option O)->Prop} (h:gV w X νo S K os old R) (hs:∀ x y,S x y->S' x y) (hR:∀ g h,X g h->R g h->R' g h):gV w X νo S' K os old R':=by
 obtain ⟨ν1,F1,⟨a2,a3,a4,a5,a6,a7⟩,a8⟩:=h
 exact ⟨ν1,F1,⟨a2,a3,a4,fun q h1 x y h=>hs x y (a5 q h1 x y h),a6,fun g h hx hq=>⟨hR g h hx (a7 g h hx hq).1,(a7 g h hx hq).2⟩⟩,a8⟩
theorem gV.of_opened {Fz S:bK} {n m:Nat} {os:List (Nat×Option O)} {R:Gh->(Nat->Option O)->Prop} (h:kY w Fz S n m os R) (hX:∀ g h,X g h->g.Fz=Fz) (hold:∀ q,q∈old->q<n\/m<=q):
  gV w X νo S (os.map (·.1)) os old R/\∀ q,q∈os.map (·.1)->n<=q/\q<m:=by
 obtain ⟨ν1,F1,a1,a2,a3,a4,a5,a6,a7⟩:=h
 have hk:∀ q,q∈os.map (·.1)->n<=q/\q<m:=by
  grind
 refine ⟨⟨ν1,F1,⟨rfl,fun q o h=>(a2 q o h).2.2,a4,fun q hq=>a5 q (hk q hq).1 (hk q hq).2,fun p q hp hq=>a6 p q (hk p hp).1 (hk p hp).2 (hk q hq).1 (hk q hq).2,fun g h hx hq=>a7 g h (hX g h hx) fun q h1 h2=>?_⟩,fun q h1 h2=>?_⟩,hk⟩
 ·grind
 grind
end
structure aCR (g:Gh) (h:Nat->Option O) (w w':World) (Sall Fz':bK):Prop where
 cell:∀ b o,b<w.heap.size->¬Sall b o->w'.cell? (at_ b o)=w.cell? (at_ b o)/\w'.frz? (at_ b o)=w.frz? (at_ b o)
 fz:∀ b o,g.Fz b o->Fz' b o
 apart:∀ b o,g.Fz b o->¬Sall b o
section
variable {c:Ctx} {g:Gh} {w w':World} {e:Env} {Sall Fz':bK}
def aNl (g:Gh) (h:Nat->Option O) (w w':World) (Fz':bK) (g':Gh) (h':Nat->Option O):Prop:=Ext g g' h h' w w'/\g'.Fz=Fz'
theorem aBs (hi:fB c g e.h w) (hb:aCR g e.h w w' Sall Fz') {Z:bK} {a:A} {u:Value} {c0 c1:C} {l b:List Nat} {S0 V:bK} {os:List (Nat×Option O)} {old:List Nat} (hold:∀ n,n∈l->n∈old)
  (hra:RA g e.h w a u) (hlend:Out e (lL a) (c0,l,b)) (hc0:RC w Z c0 u S0) (hS0:∀ n,n∈l->∀ x y,g.F n x y->Sall x y->S0 x y) (hc1:RC w' Fz' c1 u V) (hV:∀ x y,V x y->Sall x y\/w.heap.size<=x)
  (hback:Out e (pZ a c1) os):gV w' (aNl g e.h w w' Fz') g.ν (fun x y=>V x y\/∃ n,n∈l/\g.F n x y/\¬Sall x y) (os.map (·.1)) os old (fun _ _=>True)/\∀ q,q∈os.map (·.1)->q∈l:=by
 unfold pZ at hback
 split at hback
 ·rename_i n k sz rows
  obtain ⟨o,ho,hback⟩:=hback.rh
  split at hback
  ·rename_i ver k0 sz0 rows0
   split at hback
   case isFalse=>exact hback.fail.elim
   rw [hback.ret]
   have hl:l=[n]:=by
    unfold lL at hlend
    obtain ⟨o',ho',hlend⟩:=hlend.rh
    rw [ho] at ho'
    cases ho'
    have:=hlend.ret
    grind
   subst hl
   refine ⟨?_,fun q hq=>by grind⟩
   have hun:u=g.ν n:=by cases hra;rfl
   subst hun
   refine (gV.one (v:=g.ν n) (S:=V) (fun _=>rfl) fun g' h' hx h1 h2 h3=>⟨trivial,?_⟩).weaken (fun x y h=>.inl h) (fun _ _ _ h=>h)
   cases hc1 with|own _ _ _ _ _ hown=>?_
   show Own w' g'.Fz (k+1) (g'.ν n) (.slc sz rows) (g'.F n)
   rw [hx.2,h1,h2]
   grind
  ·exact hback.fail.elim
 ·rename_i n ver p k' sz' rows'
  obtain ⟨o,ho,hback⟩:=hback.rh
  split at hback
  ·rename_i ver0 k sz rows
   split at hback
   ·rename_i hcond
    obtain ⟨hk',hsz'⟩:=hcond
    rw [hback.ret]
    unfold lL at hlend
    obtain ⟨o',ho',hlend⟩:=hlend.rh
    rw [ho] at ho'
    cases ho'
    simp only at hlend
    split at hlend
    ·rename_i hc
     obtain ⟨hv,hpk⟩:=hc
     subst hv
     split at hlend
     ·rename_i sz1 rows1 hrows
      have:=hlend.ret
      cases this
      refine ⟨?_,fun q hq=>by simpa using hq⟩
      have hs1:sz1=sz':=by rw [hrows] at hsz';simpa using hsz'
      subst hs1
      cases hra with|inn _ _ _ _ hn hone he=>?_
      have hh1:=(he _ _ _ _ ho).2 rfl
      have hown:Own w g.Fz (k+1) (g.ν n) (.slc sz rows) (g.F n):=hi.obj n _ ho
      obtain ⟨S1,s1,s2,s3⟩:=aH1 p (k+1) sz rows (g.ν n) u (g.F n) sz1 rows1 hown hh1 hrows (by omega)
      have hkk:k+1-p.length=(k-p.length)+1:=by omega
      rw [hkk] at s2 s3
      cases hc0 with|own _ _ _ _ _ hown0=>?_
      cases hc1 with|own _ _ _ _ _ hown1=>?_
      subst hk'
      have e1:=Own.uniq _ s2 hown0
      have e2:=Own.uniq _ hown0 s2
      have hin:∀ x y,g.F n x y->Sall x y->S1 x y:=fun x y h h'=>e2 x y (hS0 n (by simp) x y h h')
      have hfin:=s3 w' Fz' rows' V hb.fz (fun x y hz=>hb.cell x y (hi.fzlt x y hz) (hb.apart x y hz)) (fun x y h h'=>hb.cell x y (hi.lt n _ ho x y h) fun hs=>h' (hin x y h hs))
       (fun x y h=>by
        by_cases hF:g.F n x y
        ·rcases hV x y h with h5|h5
         ·exact .inl (hin x y hF h5)
         ·have:=hi.lt n _ ho x y hF;omega
        ·exact .inr hF) hown1
      refine (gV.one (v:=g.ν n) (S:=fun x y=>(g.F n x y/\¬S1 x y)\/V x y) (fun _=>rfl) fun g' h' hx h1 h2 h3=>⟨trivial,?_⟩).weaken (fun x y h=>?_) (fun _ _ _ h=>h)
      ·show Own w' g'.Fz (k+1) (g'.ν n) (.slc sz (lA sz rows p rows')) (g'.F n)
       rw [hx.2,h1,h2]
       exact hfin
      ·rcases h with ⟨h5,h6⟩|h5
       ·by_cases hs:Sall x y
        ·exact absurd (hin x y h5 hs) h6
        ·exact .inr ⟨n,by simp,h5,hs⟩
       ·exact .inl h5
     grind
    ·exact hlend.fail.elim
   ·exact hback.fail.elim
  ·exact hback.fail.elim
 ·rw [hback.ret]
  exact ⟨gV.empty fun _ _ _=>trivial,fun q hq=>by simp at hq⟩
 ·rw [hback.ret]
  exact ⟨gV.empty fun _ _ _=>trivial,fun q hq=>by simp at hq⟩
 ·exact hback.fail.elim
end
theorem RC.uniq {w:World} {Fz Fz':bK} {c:C} {v:Value} {S S':bK} (h:RC w Fz c v S):RC w Fz' c v S'->∀ x y,S x y->S' x y:=by
 intro h'
 induction h generalizing S' with
 |d x v S h hS=>grind
 |own k sz rows v S h=>cases h' with|own _ _ _ _ _ h2=>exact Own.uniq _ h h2
 |nil k sz S hS=>grind
 |box cells b o vs T S hr hc hs hd hn hS ih=>
  cases h' with
  |box _ _ _ vs' T' _ hr' hc' hs' hd' hn' hS'=>
   intro x y hx
   rcases (hS x y).1 hx with h1|⟨m,hm,h1⟩
   ·grind
   ·have hcm:=List.getElem?_eq_getElem hm
    grind
 |rp row b o vs S hc hs hS=>grind
 |agg cells vs T S hl h1 hs hd hS ih=>
  cases h' with
  |agg _ _ T' _ hl' h1' hs' hd' hS'=>
   intro x y hx
   obtain ⟨m,hm,h2⟩:=(hS x y).1 hx
   have hcm:=List.getElem?_eq_getElem hm
   grind
 |tup cells vs T S hl hs hd hS ih=>
  cases h' with
  |tup _ _ T' _ hl' hs' hd' hS'=>
   intro x y hx
   obtain ⟨m,hm,h2⟩:=(hS x y).1 hx
   have hcm:=List.getElem?_eq_getElem hm
   grind
section
variable {c:Ctx} {g:Gh} {w w':World} {e:Env} {Sall Fz':bK}
def Reg (g:Gh) (Sall V:bK) (l:List Nat):bK:=fun x y=>V x y\/∃ n,n∈l/\g.F n x y/\¬Sall x y
theorem aFS (hi:fB c g e.h w) (hb:aCR g e.h w w' Sall Fz') {Z:bK} (hz:∀ b o,g.Fz b o->Z b o) {old:List Nat}:∀ (cells:List A) (vs:Nat->Value) (cs0 cs1:List C) (l b:List Nat) (T0 V:Nat->bK) (os:List (Nat×Option O)),
  (∀ n,n∈l->n∈old)->(∀ n,n∈b->∀ x y,g.F n x y->Z x y)->l.Nodup->(∀ (m:Nat) a,cells[m]?=some a->RA g e.h w a (vs m))->Out e (lO cells) (cs0,l,b)->(∀ (m:Nat) c,cs0[m]?=some c->RC w Z c (vs m) (T0 m)) →
  (∀ n,n∈l->∀ x y,g.F n x y->Sall x y->∃ m,m<cs0.length/\T0 m x y)->(∀ (m:Nat) c,cs1[m]?=some c->RC w' Fz' c (vs m) (V m))->(∀ m x y,m<cs1.length->V m x y->Sall x y\/w.heap.size<=x)->aB9 cs1.length V →
  Out e (pE cells cs1) os->cs1.length=cells.length/\gV w' (aNl g e.h w w' Fz') g.ν (Reg g Sall (fun x y=>∃ m,m<cs1.length/\V m x y) l) (os.map (·.1)) os old (fun _ _=>True)/\∀ q,q∈os.map (·.1)->q∈l:=by
 intro cells
 induction cells with
 |nil=>
  intro vs cs0 cs1 l b T0 V os _ _ _ _ _ _ _ _ _ _ hback
  cases cs1 with
  |nil=>rw [hback.ret];exact ⟨rfl,gV.empty fun _ _ _=>trivial,fun q hq=>by grind⟩
  |cons c1 s=>exact hback.fail.elim
 |cons a cells ih=>
  intro vs cs0 cs1 l b T0 V os hold hbZ hnd hra hlend hT0 hcov hV1 hV2 hV3 hback
  cases cs1 with
  |nil=>exact hback.fail.elim
  |cons c1 s=>
   unfold pE at hback
   obtain ⟨x1,k1,k2⟩:=Out.bind hback
   obtain ⟨x2,k3,k4⟩:=Out.bind k2
   rw [k4.ret]
   unfold lO at hlend
   obtain ⟨⟨c0,l0,b0⟩,h1,h2⟩:=Out.bind hlend
   simp only at h2
   obtain ⟨⟨cs,ls,bs⟩,h3,h4⟩:=Out.bind h2
   simp only at h4
   have:=h4.ret
   cases this
   rw [List.nodup_append] at hnd
   obtain ⟨hn1,hn2,hn3⟩:=hnd
   obtain ⟨⟨⟨S0,q1,q2⟩,q3⟩,q4⟩:=nP hi (hra 0 a rfl) h1 hz (fun n hn x y h=>hbZ n (by grind) x y h)
   obtain ⟨i1,i2,i3,T,i4,i5,i6⟩:=pJ hi cells (fun m=>vs (m+1)) _ (fun m a' hm=>hra (m+1) a' (by grind)) h3 hz (fun n hn x y h=>hbZ n (by grind) x y h) hn2
   simp only at q1 q2 q3 i1 i2 i4 i5
   have u0:∀ x y,T0 0 x y->∃ n,n∈l0/\g.F n x y:=fun x y h=>q2 x y (RC.uniq (hT0 0 c0 rfl) q1 x y h)
   have us:∀ m,m<cs.length->∀ x y,T0 (m+1) x y->∃ n,n∈ls/\g.F n x y:=by
    intro m hm x y h
    have hcm:=List.getElem?_eq_getElem hm
    exact i5 m x y (RC.uniq (hT0 (m+1) _ (by simp)) (i4 m _ hcm) x y h)
   have hdis:∀ n1 n2 x y,n1∈l0->n2∈ls->g.F n1 x y->g.F n2 x y->False:=by
    intro n1 n2 x y a1 a2 b1 b2
    obtain ⟨o1,p1⟩:=q3 n1 a1
    obtain ⟨o2,p2⟩:=i2 n2 a2
    exact hi.disj n1 n2 o1 o2 p1 p2 (hn3 n1 a1 n2 a2) x y b1 b2
   obtain ⟨r1,r2⟩:=aBs hi hb (old:=old) (fun n hn=>hold n (by simp [hn])) (hra 0 a rfl) h1 (hT0 0 c0 rfl) (fun n hn x y h h'=>by
    obtain ⟨m,hm,hT⟩:=hcov n (by simp [hn]) x y h h'
    cases m with
    |zero=>exact hT
    |succ m=>
     obtain ⟨n2,a2,b2⟩:=us m (by simpa using hm) x y hT
     exact (hdis n n2 x y hn a2 h b2).elim) (hV1 0 c1 rfl) (fun x y h=>hV2 0 x y (by simp) h) k1
   obtain ⟨t0,t1,t2⟩:=ih (fun m=>vs (m+1)) cs s ls bs (fun m=>T0 (m+1)) (fun m=>V (m+1)) x2 (fun n hn=>hold n (by simp [hn])) (fun n hn=>hbZ n (by simp [hn])) hn2 (fun m a' hm=>hra (m+1) a' (by simpa using hm)) h3
    (fun m c' hm=>hT0 (m+1) c' (by simpa using hm)) (fun n hn x y h h'=>by
     obtain ⟨m,hm,hT⟩:=hcov n (by simp [hn]) x y h h'
     cases m with
     |zero=>
      obtain ⟨n2,a2,b2⟩:=u0 x y hT
      exact (hdis n2 n x y a2 hn b2 h).elim
     |succ m=>exact ⟨m,by simpa using hm,hT⟩) (fun m c' hm=>hV1 (m+1) c' (by simpa using hm)) (fun m x y hm h=>hV2 (m+1) x y (by simpa using hm) h) (fun i j hi' hj hij=>hV3 (i+1) (j+1) (by simpa using hi') (by simpa using hj) (by omega)) k3
   refine ⟨by simp [t0],?_,?_⟩
   ·rw [List.map_append]
    refine r1.append t1 (fun q hq hq'=>hn3 q (r2 q hq) q (t2 q hq') rfl) ?_ ?_ ?_ (fun _ _ _ _=>trivial)
    ·rintro x y (h5|⟨n,hn,h5,h6⟩) (⟨m,hm,h7⟩|⟨n',hn',h7,h8⟩)
     ·exact hV3 0 (m+1) (by simp) (by simpa using hm) (by omega) x y h5 h7
     ·rcases hV2 0 x y (by simp) h5 with h9|h9
      ·exact h8 h9
      ·obtain ⟨o2,p2⟩:=i2 n' hn'
       have:=hi.lt n' o2 p2 x y h7;omega
     ·rcases hV2 (m+1) x y (by simpa using hm) h7 with h9|h9
      ·exact h6 h9
      ·obtain ⟨o2,p2⟩:=q3 n hn
       have:=hi.lt n o2 p2 x y h5;omega
     ·exact hdis n n' x y hn hn' h5 h7
    ·rintro x y (h5|⟨n,hn,h5,h6⟩)
     ·exact .inl ⟨0,by simp,h5⟩
     ·exact .inr ⟨n,by simp [hn],h5,h6⟩
    ·rintro x y (⟨m,hm,h5⟩|⟨n,hn,h5,h6⟩)
     ·exact .inl ⟨m+1,by simpa using hm,h5⟩
     ·exact .inr ⟨n,by simp [hn],h5,h6⟩
   grind
theorem aK1 (hi:fB c g e.h w) (hb:aCR g e.h w w' Sall Fz') {Z:bK} (hz:∀ b o,g.Fz b o->Z b o) {old:List Nat} {n0:Nat} {m:eN} {a:A} {v:Value} {r:C×List Nat×List Nat×List Nat} {S0 V:bK} {oc:Option C} {os:List (Nat×Option O)} {n1:Nat}
  (hold:∀ n,n∈r.2.1->n∈old) {N:Nat} (hN:n1<=N) (hold0:∀ q,q∈old->q<n0\/N<=q) (hbZ:∀ n,n∈r.2.2.2->∀ x y,g.F n x y->Z x y) (hnd:(r.2.1++r.2.2.1).Nodup) (hra:RA g e.h w a v) (hclose:Out e (pV m a) r) (hc0:RC w Z r.1 v S0)
  (hcov:∀ n,n∈r.2.1->∀ x y,g.F n x y->Sall x y->S0 x y) (hc1:∀ c1,oc=some c1->RC w' Fz' c1 v V) (hV:∀ x y,V x y->Sall x y\/w.heap.size<=x) (hback:Out e (vD n0 m a oc) (os,n1)):
  n0<=n1/\gV w' (aNl g e.h w w' Fz') g.ν (Reg g Sall V r.2.1) (os.map (·.1)) os old (fun _ _=>True)/\∀ q,q∈os.map (·.1)->q∈r.2.1\/(n0<=q/\q<n1):=by
 unfold vD at hback
 cases m with
 |borrow=>
  cases oc with
  |some c1=>exact hback.fail.elim
  |none=>
   have:=hback.ret
   cases this
   exact ⟨Nat.le_refl _,gV.empty fun _ _ _=>trivial,fun q hq=>by grind⟩
 |give=>
  cases oc with
  |some c1=>exact hback.fail.elim
  |none=>
   have:=hback.ret
   cases this
   exact ⟨Nat.le_refl _,gV.empty fun _ _ _=>trivial,fun q hq=>by grind⟩
 |nil=>
  cases oc with
  |some c1=>exact hback.fail.elim
  |none=>
   have:=hback.ret
   cases this
   exact ⟨Nat.le_refl _,gV.empty fun _ _ _=>trivial,fun q hq=>by simp at hq⟩
 |lend=>
  cases oc with
  |none=>exact hback.fail.elim
  |some c1=>
   simp only at hback
   obtain ⟨x,k1,k2⟩:=Out.bind hback
   have:=k2.ret
   cases this
   unfold aB0 at k1
   by_cases hagg:∃ cells,a=.agg cells
   ·obtain ⟨cells,rfl⟩:=hagg
    simp only at k1
    cases c1 with
    |agg cs1=>
     unfold pV at hclose
     obtain ⟨⟨cs,l,b⟩,h1,h2⟩:=Out.bind hclose
     have:=h2.ret
     subst this
     simp only [List.append_nil] at hnd hold hbZ hcov ⊢
     obtain ⟨vs,rfl,hl,hone,hc⟩:=hra.agg_inv
     cases hc0 with|agg _ _ T0 _ hl0 h10 hs0 hd0 hS0=>?_
     cases hc1 _ rfl with|agg _ _ V1 _ hl1 h11 hs1 hd1 hS1=>?_
     obtain ⟨t0,t1,t2⟩:=aFS hi hb hz cells (fun m=>vs.getD m Go.undef) cs cs1 l b T0 V1 _ hold hbZ hnd hc h1 hs0 (fun n hn x y h h'=>(hS0 x y).1 (hcov n hn x y h h')) hs1 (fun m x y hm h=>hV x y ((hS1 x y).2 ⟨m,hm,h⟩)) hd1 k1
     refine ⟨Nat.le_refl _,t1.weaken (fun x y h=>?_) (fun _ _ _ h=>h),fun q hq=>.inl (t2 q hq)⟩
     rcases h with h|h
     ·exact .inl ((hS1 x y).2 h)
     ·exact .inr h
    |_=>exact k1.fail.elim
   ·have k1':Out e (pZ a c1) os:=by
     cases a with
     |agg cells=>exact absurd ⟨cells,rfl⟩ hagg
     |_=>exact k1
    have hcl:Out e ((lL a).bind fun (c,l,b)=>.ret (c,l,[],b)) r:=by
     cases a with
     |agg cells=>exact absurd ⟨cells,rfl⟩ hagg
     |_=>exact hclose
    obtain ⟨⟨c,l,b⟩,h1,h2⟩:=Out.bind hcl
    have:=h2.ret
    subst this
    obtain ⟨t1,t2⟩:=aBs hi hb (old:=old) hold hra h1 hc0 hcov (hc1 c1 rfl) hV k1'
    exact ⟨Nat.le_refl _,t1,fun q hq=>.inl (t2 q hq)⟩
 |box len=>
  cases a with
  |ptr q off=>
   cases oc with
   |none=>exact hback.fail.elim
   |some c1=>
    cases c1 with
    |box cs1=>
     simp only at hback
     unfold aB2 at hback
     obtain ⟨o,ho,hback2⟩:=hback.rh
     clear hback
     split at hback2
     ·rename_i cells
      split at hback2
      ·rename_i hlen
       subst hlen
       have:=hback2.ret
       cases this
       unfold pV at hclose
       obtain ⟨o',ho',hclose⟩:=hclose.rh
       rw [ho] at ho'
       cases ho'
       simp only at hclose
       split at hclose
       ·rename_i hle
        obtain ⟨⟨cs,l,b⟩,h1,h2⟩:=Out.bind hclose
        have:=h2.ret
        subst this
        simp only [List.append_nil] at hnd hold hbZ hcov ⊢
        obtain ⟨bb,oo,hν,hr,hF,hcell⟩:=hi.obj q _ ho
        cases hra with|ptr _ _ b' o' hn hν'=>?_
        rw [hν] at hν'
        cases hν'
        cases hc1 _ rfl with|box _ _ _ vs1 V1 _ hr1 hcell1 hs1 hd1 hn1 hS1=>?_
        obtain ⟨w1,w2⟩:=wH cs1 vs1 V1 (fun m c hm=>aED (hs1 m c hm)) hd1 n0
        have hold1:∀ p,p∈old->p<n0\/(cH.openL n0 cs1).2.2<=p:=fun p hp=>(hold0 p hp).imp id fun h=>Nat.le_trans hN h
        obtain ⟨y1,y2⟩:=gV.of_opened (X:=aNl g e.h w w' Fz') (νo:=g.ν) w2 (fun _ _ hx=>hx.2) hold1
        have hq0:=hold0 q (hold q (by simp))
        have hle1:n0<=(cH.openL n0 cs1).2.2:=by obtain ⟨_,_,hh⟩:=w2;exact hh.le
        obtain ⟨ν1,F1,⟨a2,a3,a4,a5,a6,a7⟩,a8⟩:=y1
        have hqk:q ∉ (cH.openL n0 cs1).2.1.map (·.1):=fun h=>by have:=y2 q h;omega
        have hrF:∀ x y,rng bb (oo+off) cs1.length x y->g.F q x y:=fun x y h=>(hF x y).2 ⟨h.1,by have:=h.2.1;omega,by have:=h.2.2;omega⟩
        have hFr:∀ x y,g.F q x y->Sall x y->rng bb (oo+off) cs1.length x y:=by
         intro x y h h'
         have h5:=hcov q (by simp) x y h h'
         cases hc0 with|box _ _ _ vs0 T0 _ hr0 hcell0 hs0 hd0 hn0 hS0=>?_
         obtain ⟨hnn,hnd'⟩:=List.nodup_cons.1 hnd
         have hcl:((cells.drop off).take cs1.length).length=cs1.length:=by simp;omega
         have hu:∀ (m:Nat) a,((cells.drop off).take cs1.length)[m]?=some a->∃ u,w.cell? (at_ bb (oo+off+m))=some u/\u.oneCell'=true/\RA g e.h w a u:=by
          intro m a hm
          have hm':m<cs1.length:=by have:=(List.getElem?_eq_some_iff.1 hm).1;omega
          rw [List.getElem?_take_of_lt hm',List.getElem?_drop] at hm
          obtain ⟨u,h5,h6,h7⟩:=hcell _ a hm
          exact ⟨u,by rw [Nat.add_assoc];exact h5,h6,h7⟩
         obtain ⟨i1,i2,i3,T,i4,i5,i6⟩:=pJ hi _ (fun m=>(w.cell? (at_ bb (oo+off+m))).getD Go.undef) _ (fun m a hm=>by
          obtain ⟨u,h5,_,h7⟩:=hu m a hm
          rw [h5];exact h7) h1 hz hbZ hnd'
         simp only at i1 i2 i4 i5
         rw [hcl] at i1
         rcases (hS0 x y).1 h5 with h6|⟨m,hm,h6⟩
         ·rw [i1] at h6;exact h6
         ·have hcm:=List.getElem?_eq_getElem hm
          have hvm:vs0 m=(w.cell? (at_ bb (oo+off+m))).getD Go.undef:=by rw [(hcell0 m _ hcm).1];rfl
          obtain ⟨n2,b1,b2⟩:=i5 m x y (RC.uniq (hvm ▸ hs0 m _ hcm) (i4 m _ hcm) x y h6)
          obtain ⟨o2,p2⟩:=i2 n2 b1
          exact (hi.disj q n2 _ o2 ho p2 (fun e=>hnn (e ▸ b1)) x y h b2).elim
        have hVrng:∀ x y,rng bb (oo+off) cs1.length x y->V x y:=fun x y h=>(hS1 x y).2 (.inl h)
        have hF1V:∀ p,p∈(cH.openL n0 cs1).2.1.map (·.1)->∀ x y,F1 p x y->V x y/\¬g.F q x y:=by
         intro p hp x y h
         obtain ⟨m,hm,h5⟩:=a5 p hp x y h
         have h6:V x y:=(hS1 x y).2 (.inr ⟨m,hm,h5⟩)
         refine ⟨h6,fun h7=>?_⟩
         rcases hV x y h6 with h8|h8
         ·exact hn1 m hm x y (hFr x y h7 h8) h5
         ·have:=hi.lt q _ ho x y h7;omega
        refine ⟨hle1,⟨fun p=>if p=q then g.ν q else ν1 p,fun p=>if p=q then g.F q else F1 p,⟨by rw [List.map_append],?_,?_,?_,?_,?_⟩,?_⟩,?_⟩
        ·intro p o hp
         rcases List.mem_append.1 hp with hp|hp
         ·exact a3 p o hp
         ·simp at hp;exact ⟨_,hp.2⟩
        ·rw [List.map_append,List.nodup_append]
         refine ⟨a4,by simp,fun x hx y hy=>?_⟩
         simp at hy
         subst hy
         exact fun e=>hqk (e ▸ hx)
        ·intro p hp x y h
         split at h
         ·by_cases hs:Sall x y
          ·exact .inl (hVrng x y (hFr x y h hs))
          ·exact .inr ⟨q,by simp,h,hs⟩
         ·rename_i hpq
          have hp':p∈(cH.openL n0 cs1).2.1.map (·.1):=by
           rw [List.map_append] at hp
           rcases List.mem_append.1 hp with hp|hp
           ·exact hp
           ·simp at hp;exact absurd hp hpq
          exact .inl (hF1V p hp' x y h).1
        ·intro p p' hp hp' hne x y h5 h6
         have mem:∀ p,p∈((cH.openL n0 cs1).2.1++[(q,some (O.box (gK cells off (cH.openL n0 cs1).1)))]).map (·.1)->p≠q->p∈(cH.openL n0 cs1).2.1.map (·.1):=by
          intro p hp hpq
          rw [List.map_append] at hp
          rcases List.mem_append.1 hp with hp|hp
          ·exact hp
          ·simp at hp;exact absurd hp hpq
         split at h5
         ·split at h6
          ·omega
          ·rename_i hpq;exact (hF1V p' (mem p' hp' hpq) x y h6).2 h5
         ·rename_i hpq
          split at h6
          ·exact (hF1V p (mem p hp hpq) x y h5).2 h6
          ·rename_i hpq';exact a6 p p' (mem p hp hpq) (mem p' hp' hpq') hne x y h5 h6
        ·intro g' h' hx hq
         obtain ⟨c1,c2⟩:=a7 g' h' hx (fun p hp=>by
          have:=hq p (by rw [List.map_append];exact List.mem_append.2 (.inl hp))
          have hne:¬p=q:=fun e=>hqk (e ▸ hp)
          simpa [hne] using this)
         obtain ⟨d1,d2,d3⟩:=hq q (by simp)
         simp only [if_pos] at d1 d2
         refine ⟨trivial,fun p ob hm=>?_⟩
         rcases List.mem_append.1 hm with hm|hm
         ·exact c2 p ob hm
         ·simp at hm
          obtain ⟨rfl,rfl⟩:=hm
          have hsl:(gK cells off (cH.openL n0 cs1).1).length=cells.length:=by simp [gK,w1];omega
          have hcl:∀ j,j<cells.length->¬(off<=j/\j<off+cs1.length)->w'.cell? (at_ bb (oo+j))=w.cell? (at_ bb (oo+j))/\w'.frz? (at_ bb (oo+j))=w.frz? (at_ bb (oo+j)):=by
           intro j hj hnot
           have hFj:g.F p bb (oo+j):=(hF _ _).2 ⟨rfl,by omega,by omega⟩
           refine hb.cell bb (oo+j) (hi.lt p _ ho _ _ hFj) fun hs=>hnot ?_
           have:=hFr _ _ hFj hs
           exact ⟨by have:=this.2.1;omega,by have:=this.2.2;omega⟩
          refine ⟨bb,oo,by rw [d1];exact hν,?_,fun x y=>by rw [d2,hsl];exact hF x y,?_⟩
          ·rw [hsl]
           intro j hj
           by_cases hin:off<=j/\j<off+cs1.length
           ·have:=hr1 (j-off) (by omega)
            rw [show oo+off+(j-off)=oo+j by omega] at this
            exact this
           ·obtain ⟨⟨u,hu⟩,hf⟩:=hr j hj
            obtain ⟨e1,e2⟩:=hcl j hj hin
            exact ⟨⟨u,e1.trans hu⟩,e2.trans hf⟩
          ·intro j a ha
           rw [uC _ _ _ _ (by omega),w1] at ha
           by_cases hin:off<=j/\j<off+cs1.length
           ·rw [if_pos hin] at ha
            obtain ⟨e1,e2⟩:=hcell1 (j-off) _ (List.getElem?_eq_getElem (by omega))
            rw [show oo+off+(j-off)=oo+j by omega] at e1
            exact ⟨_,e1,e2,c1 _ a ha⟩
           ·rw [if_neg hin] at ha
            have hj:=(List.getElem?_eq_some_iff.1 ha).1
            obtain ⟨u,hu,h5,h6⟩:=hcell j a ha
            exact ⟨u,(hcl j hj hin).1.trans hu,h5,h6.ext hx.1⟩
        ·intro p hp hpo
         by_cases hpq:p=q
         ·subst hpq;simp
         ·have:=hold0 p hpo
          rw [List.map_append] at hp
          rcases List.mem_append.1 hp with hp|hp
          ·have:=y2 p hp;omega
          ·simp at hp;exact absurd hp hpq
        ·intro p hp
         rw [List.map_append] at hp
         rcases List.mem_append.1 hp with hp|hp
         ·exact .inr (y2 p hp)
         ·simp at hp;subst hp;exact .inl (by simp)
       ·exact hclose.fail.elim
      ·exact hback2.fail.elim
     ·exact hback2.fail.elim
    |_=>exact hback.fail.elim
  |_=>exact hback.fail.elim
end
end Go.Proofs.YtiejbbcpihpgpaaGreatDoor.Ab
