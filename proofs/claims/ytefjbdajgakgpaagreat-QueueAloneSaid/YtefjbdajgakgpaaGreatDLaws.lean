import Derived.WalkKit
import Derived.WalkSpells
import Derived.WalkMore
import Derived.Lib.Hide
import Derived.Deep.Draws
import Derived.Laws.AppendOwn
import Derived.Laws.MakeOwn
set_option linter.all false
namespace Go.Proofs.YtefjbdajgakgpaaGreat
open Go.RowKit
section
namespace Hp
/-! ### Heaps and assertions -/
abbrev PH:=Nat→Option Obj
structure Zc where
 on:PH→Prop
theorem Zc.ext' {p q:Zc}(h:∀x,p.on x↔q.on x):p=q:=by
 cases p;cases q;congr;funext x;exact propext (h x)
def dis (a b:PH):Prop:=∀k,a k=none∨b k=none
def un (a b:PH):PH:=fun k=>(a k).or (b k)
def emp:Zc:=⟨fun h=>h=fun _=>none⟩
def pt (b:Nat)(o:Obj):Zc:=⟨fun h=>h=fun k=>if k=b then some o else none⟩
def sep (p q:Zc):Zc:=⟨fun h=>∃a b,dis a b∧h=un a b∧p.on a∧q.on b⟩
def ex {α:Type}(f:α→Zc):Zc:=⟨fun h=>∃x,(f x).on h⟩
def pu (p:Prop):Zc:=⟨fun h=>p∧h=fun _=>none⟩
def orS (p q:Zc):Zc:=⟨fun h=>p.on h∨q.on h⟩
instance :Mul Zc:=⟨sep⟩
theorem mul_on (p q:Zc)(h:PH):(p*q).on h↔∃a b,dis a b∧h=un a b∧p.on a∧q.on b:=Iff.rfl
theorem dis_symm {a b:PH}(h:dis a b):dis b a:=fun k=>(h k).symm
theorem un_comm {a b:PH}(h:dis a b):un a b=un b a:=by
 funext k;unfold un
 rcases h k with h|h<;>simp[h]
theorem un_assoc (a b c:PH):un (un a b) c=un a (un b c):=by
 funext k;unfold un;cases a k<;>rfl
theorem dis_un {a b c:PH}:dis (un a b) c↔dis a c∧dis b c:=by
 unfold dis un
 constructor
 ·intro h
  constructor
  ·intro k;rcases h k with h|h
   ·left;revert h;cases a k<;>simp
   ·right;exact h
  ·intro k;rcases h k with h|h
   ·left;revert h;cases a k<;>simp
   ·right;exact h
 ·rintro⟨h1,h2⟩ k
  rcases h1 k with e1|e1
  ·rcases h2 k with e2|e2
   ·left;simp[e1,e2]
   ·right;exact e2
  ·right;exact e1
theorem mul_comm' (p q:Zc):p*q=q*p:=by
 apply Zc.ext';intro h;simp only[mul_on]
 constructor<;>(rintro⟨a,b,d,e,x,y⟩;exact⟨b,a,dis_symm d,by rw[e,un_comm d],y,x⟩)
theorem Ma (p q r:Zc):p*q*r=p*(q*r):=by
 apply Zc.ext';intro h;simp only[mul_on]
 constructor
 ·rintro⟨ab,c,d,e,⟨a,b,d1,e1,x,y⟩,z⟩
  subst e1;obtain⟨dac,dbc⟩:=dis_un.1 d
  exact⟨a,un b c,dis_symm (dis_un.2 ⟨dis_symm d1,dis_symm dac⟩),by rw[e,un_assoc],x,b,c,dbc,rfl,y,z⟩
 ·rintro⟨a,bc,d,e,x,b,c,d1,e1,y,z⟩
  subst e1
  obtain⟨dba,dca⟩:=dis_un.1 (dis_symm d)
  exact⟨un a b,c,dis_un.2 ⟨dis_symm dca,d1⟩,by rw[e,un_assoc],⟨a,b,dis_symm dba,rfl,x,y⟩,z⟩
instance :Std.Associative (α:=Zc) (· * ·):=⟨Ma⟩
instance :Std.Commutative (α:=Zc) (· * ·):=⟨mul_comm'⟩
theorem Em (p:Zc):emp*p=p:=by
 apply Zc.ext';intro h;simp only[mul_on]
 constructor
 ·rintro⟨a,b,_,e,x,y⟩
  have:a=fun _=>none:=x
  subst this
  have:h=b:=by rw[e];funext k;rfl
  rwa [this]
 ·intro hp;exact⟨fun _=>none,h,fun _=>.inl rfl,by funext k;rfl,rfl,hp⟩
theorem mul_emp (p:Zc):p*emp=p:=by rw[mul_comm',Em]
theorem QN (p q r:Zc):p*(q*r)=q*(p*r):=by
 rw[←Ma,mul_comm' p q,Ma]
theorem ex_mul {α:Type}(f:α→Zc)(r:Zc):ex f*r=ex fun x=>f x*r:=by
 apply Zc.ext';intro h;simp only[mul_on,ex]
 constructor
 ·rintro⟨a,b,d,e,⟨x,hx⟩,y⟩;exact⟨x,a,b,d,e,hx,y⟩
 ·rintro⟨x,a,b,d,e,hx,y⟩;exact⟨a,b,d,e,⟨x,hx⟩,y⟩
theorem pu_mul_on {p:Prop}{r:Zc}{h:PH}:(pu p*r).on h↔p∧r.on h:=by
 constructor
 ·rintro⟨a,b,_,e,⟨hp,x⟩,y⟩
  refine⟨hp,?_⟩
  have:h=b:=by rw[e,x];funext k;rfl
  rwa [this]
 ·rintro⟨hp,y⟩;exact⟨fun _=>none,h,fun _=>.inl rfl,by funext k;rfl,⟨hp,rfl⟩,y⟩
theorem pu_true {p:Prop}(h:p)(r:Zc):pu p*r=r:=by
 apply Zc.ext';intro x;rw[pu_mul_on];exact⟨fun y=>y.2,fun y=>⟨h,y⟩⟩
/-! ### What is known of a world -/
structure Sat (O w:World)(p:Zc):Prop where
 os:w.os=O.os
 tape:w.tape=O.tape
 output:w.output=O.output
 size:O.heap.size≤w.heap.size
 has:∃h:PH,p.on h∧∀k o,h k=some o→w.heap[k]? = some o
variable {O w w':World}{p q r:Zc}
theorem Sat.imp (hs:Sat O w p)(h:∀x,p.on x→q.on x):Sat O w q:=
 ⟨hs.os,hs.tape,hs.output,hs.size,let ⟨x,hx,hh⟩:=hs.has;⟨x,h x hx,hh⟩⟩
theorem Sat.cast (hs:Sat O w p)(h:p=q):Sat O w q:=h▸hs
theorem Sat.left (hs:Sat O w (p*q)):Sat O w p:=by
 refine⟨hs.os,hs.tape,hs.output,hs.size,?_⟩
 obtain⟨h,⟨a,b,d,e,x,y⟩,hh⟩:=hs.has
 refine⟨a,x,fun k o hk=>hh k o ?_⟩
 rw[e];unfold un;rw[hk];rfl
theorem Sat.right (hs:Sat O w (p*q)):Sat O w q:=(hs.cast (mul_comm' p q)).left
theorem ZG {α:Type}{f:α→Zc}:Sat O w (ex f*r)↔∃x,Sat O w (f x*r):=by
 rw[ex_mul]
 constructor
 ·rintro⟨h1,h2,h3,h4,x,⟨y,hy⟩,hh⟩;exact⟨y,h1,h2,h3,h4,x,hy,hh⟩
 ·rintro⟨y,h1,h2,h3,h4,x,hy,hh⟩;exact⟨h1,h2,h3,h4,x,⟨y,hy⟩,hh⟩
theorem Zz {P:Prop}:Sat O w (pu P*r)↔P∧Sat O w r:=by
 constructor
 ·rintro⟨h1,h2,h3,h4,x,hx,hh⟩
  rw[pu_mul_on]at hx;exact⟨hx.1,h1,h2,h3,h4,x,hx.2,hh⟩
 ·rintro⟨hp,h1,h2,h3,h4,x,hx,hh⟩
  exact⟨h1,h2,h3,h4,x,pu_mul_on.2 ⟨hp,hx⟩,hh⟩
theorem Sat.block {b:Nat}{o:Obj}(hs:Sat O w (pt b o*r)):w.heap[b]? = some o:=by
 obtain⟨h,⟨a,c,_,e,x,_⟩,hh⟩:=hs.has
 have hx:a=fun k=>if k=b then some o else none:=x
 exact hh b o (by rw[e,hx];simp[un])
theorem Sat.lt {b:Nat}{o:Obj}(hs:Sat O w (pt b o*r)):b<w.heap.size:=by
 have:=hs.block
 exact(Array.getElem?_eq_some_iff.1 this).1
theorem Sat.turn {b:Nat}{o o':Obj}(hs:Sat O w (pt b o*r))(ho:w'.os=w.os)(ht:w'.tape=w.tape)(hp:w'.output=w.output)(hz:w.heap.size≤w'.heap.size)
  (hb:w'.heap[b]? = some o') (hn:∀k,k≠b→k<w.heap.size→w'.heap[k]? = w.heap[k]?):Sat O w' (pt b o'*r):=by
 refine⟨ho.trans hs.os,ht.trans hs.tape,hp.trans hs.output,Nat.le_trans hs.size hz,?_⟩
 obtain⟨h,⟨a,c,d,e,x,y⟩,hh⟩:=hs.has
 have hx:a=fun k=>if k=b then some o else none:=x
 subst hx
 refine⟨un (fun k=>if k=b then some o' else none) c,⟨_,c,?_,rfl,rfl,y⟩,?_⟩
 ·intro k
  rcases d k with h1|h1
  ·left;revert h1;by_cases hk:k=b<;>simp[hk]
  ·exact .inr h1
 ·intro k u hk
  by_cases hkb:k=b
  ·subst hkb;simp[un]at hk;rw[hb,hk]
  ·have hk':c k=some u:=by simpa[un,hkb] using hk
   have hw:=hh k u (by rw[e];simpa[un,hkb] using hk')
   rw[hn k hkb (Array.getElem?_eq_some_iff.1 hw).1,hw]
theorem Sat.fresh {b:Nat}{o:Obj}(hs:Sat O w r)(ho:w'.os=w.os)(ht:w'.tape=w.tape)(hp:w'.output=w.output)(hb:w.heap.size≤b)(hz:w.heap.size≤w'.heap.size)
  (hn:w'.heap[b]? = some o) (hk:∀k,k<w.heap.size→w'.heap[k]? = w.heap[k]?):Sat O w' (pt b o*r):=by
 refine⟨ho.trans hs.os,ht.trans hs.tape,hp.trans hs.output,Nat.le_trans hs.size hz,?_⟩
 obtain⟨h,x,hh⟩:=hs.has
 have hlt:∀k u,h k=some u→k<w.heap.size:=fun k u hu=>(Array.getElem?_eq_some_iff.1 (hh k u hu)).1
 refine⟨un (fun k=>if k=b then some o else none) h,⟨_,h,?_,rfl,rfl,x⟩,?_⟩
 ·intro k
  by_cases hkb:k=b
  ·right
   subst hkb
   cases hc:h k with
   | none=>rfl
   | some u=>have:=hlt k u hc;omega
  ·left;simp[hkb]
 ·intro k u hu
  by_cases hkb:k=b
  ·subst hkb;simp[un]at hu;rw[hn,hu]
  ·have hu':h k=some u:=by simpa[un,hkb] using hu
   rw[hk k (hlt k u hu'),hh k u hu']
theorem Sat.drew (hs:Sat O w r):Sat O w.drew r:=⟨hs.os,hs.tape,hs.output,hs.size,hs.has⟩
theorem Sat.alloc (hs:Sat O w r)(o:Obj):Sat O (w.alloc o) (pt w.heap.size o*r):=
 hs.fresh rfl rfl rfl (Nat.le_refl _) (by simp) (heap_alloc_new w o) (fun k hk=>Below.heap_alloc w o k hk)
theorem Sat.setRow {b:Nat}{cs cs':Array Value}{E:TypeId}(hs:Sat O w (pt b (.cells cs E)*r)):Sat O (w.setRow b cs') (pt b (.cells cs' E)*r):=by
 have hb:=hs.block
 refine hs.turn rfl rfl rfl (by simp) (setRow_heap w b cs cs' E (0,0) hb) ?_
 intro k hk _
 simp only[World.setRow,Array.getElem?_modify]
 rw[if_neg (fun e=>hk e.symm)]
/-! ### Taking one part out -/
def Pull (S A R:Zc):Prop:=S=A*R
theorem Pull.here (A R:Zc):Pull (A*R) A R:=rfl
theorem Pull.last (A:Zc):Pull A A emp:=(mul_emp A).symm
theorem Pull.skip {S A R:Zc}(B:Zc)(h:Pull S A R):Pull (B*S) A (B*R):=by
 unfold Pull at *;rw[h,QN]
theorem Pull.none (S:Zc):Pull S emp S:=(Em S).symm
theorem Pull.both {S A B R R':Zc}(h:Pull S A R)(k:Pull R B R'):Pull S (A*B) R':=by
 unfold Pull at *;rw[h,k,Ma]
theorem Sat.pull {S A R:Zc}(hs:Sat O w S)(h:Pull S A R):Sat O w (A*R):=hs.cast h
attribute [irreducible] sep emp pt ex pu orS
end Hp
theorem Qh {A R:Hp.Zc}:Hp.Pull (A*R) A R:=Hp.Pull.here A R
theorem Ql {A:Hp.Zc}:Hp.Pull A A Hp.emp:=Hp.Pull.last A
theorem Qn {S:Hp.Zc}:Hp.Pull S Hp.emp S:=Hp.Pull.none S
theorem Lh {p:Prop}(h:p):Go.RowKit.Hid p:=h
universe uI
abbrev Ii := @inferInstance.{uI}
theorem Qk {S A R:Hp.Zc}(B:Hp.Zc)(h:Hp.Pull S A R):Hp.Pull (B*S) A (B*R):=Hp.Pull.skip B h
theorem Wm {α β:Type}{f:α→β}{l:List α}:(l.map f).length=l.length:=List.length_map ..
theorem Ws {α:Type}{l:List α}{i:Nat}{a:α}:(l.set i a).length=l.length:=List.length_set
theorem Wa {α:Type}{l m:List α}:(l++m).length=l.length+m.length:=List.length_append
theorem Wc {α:Type}{a:α}{l:List α}:(a::l).length=l.length+1:=rfl
theorem Wn {α:Type}:([]:List α).length=0:=rfl
theorem Wr {α:Type}{n:Nat}{a:α}:(List.replicate n a).length=n:=List.length_replicate
theorem Qb {S A B R R':Hp.Zc}(h:Hp.Pull S A R)(k:Hp.Pull R B R'):Hp.Pull S (A*B) R':=Hp.Pull.both h k
theorem Uc {α:Type}(a:α)(l:List α)(i:Nat)(b:α):(a::l).set (i+1) b=a::l.set i b:=rfl
theorem Uz {α:Type}(a:α)(l:List α)(b:α):(a::l).set 0 b=b::l:=rfl
theorem Ue {α:Type}{a:α}{l:List α}{i:Nat}:(a::l)[i+1]? = l[i]? := List.getElem?_cons_succ
theorem Uf {α:Type}{a:α}{l:List α}:(a::l)[0]? = some a:=List.getElem?_cons_zero
theorem Ya {α:Type}{i:Nat}{a:α}{l:List α}:l[i]? = some a↔∃h:i<l.length,l[i]=a:=List.getElem?_eq_some_iff
theorem Yb {α:Type}{l:List α}{i:Nat}{a:α}:l.getD i a=l[i]?.getD a:=List.getD_eq_getElem?_getD
theorem Yc {α:Type}{l:List α}{i:Nat}{a:α}(h:l[i]? = some a):a∈l:=List.mem_of_getElem? h
theorem Yd {α:Type}{l:List α}{i:Nat}(h:i<l.length):l[i]? = some l[i]:=List.getElem?_eq_getElem h
theorem Ye {α:Type}{l:List α}{i:Nat}{a:α}(h:i<l.length):(l.set i a)[i]? = some a:=List.getElem?_set_self h
theorem Yf {α:Type}{l:List α}{i j:Nat}(h:i≠j){a:α}:(l.set i a)[j]? = l[j]? := List.getElem?_set_ne h
theorem Yg {α:Type}(l:List α)(i:Nat)(a:α):l.toArray.setIfInBounds i a=(l.set i a).toArray:=List.setIfInBounds_toArray l i a
theorem Yh {α β:Type}{f:α→β}{l m:List α}:List.map f (l++m)=List.map f l++List.map f m:=List.map_append
theorem Yi {α β:Type}{f:α→β}{a:α}{l:List α}:List.map f (a::l)=f a::List.map f l:=rfl
theorem Yj {α β:Type}{f:α→β}:List.map f []=[]:=rfl
theorem Yk {α β:Type}{f:α→β}{l:List α}{i:Nat}{a:α}:List.map f (l.set i a)=(List.map f l).set i (f a):=List.map_set
theorem Yl {α:Type}(a:α){b:α}{l:List α}{i:Nat}:(l.set i a).set i b=l.set i b:=List.set_set a
theorem Ym {α β:Type}{f:α→β}{l:List α}{i:Nat}:(List.map f l)[i]? = Option.map f l[i]? := List.getElem?_map
theorem Yn:(false=true)=False:=Bool.false_eq_true
theorem Yo (n:Nat):((n:Int)).toNat=n:=Int.toNat_natCast n
theorem Yp {α:Type}{a:α}{s t:List α}:a∈s++t↔a∈s∨a∈t:=List.mem_append
theorem Vb {n m:Nat}(h:Nat.ble n m=true):n≤m:=Nat.le_of_ble_eq_true h
end
section
namespace Hp
/-! ### Types -/
def aggOf (P:Program)(T:TypeId):Option Bool:=(P.underlying T).map fun
 | .struct _|.array _ _=>true
 | _=>false
class OneC (P:Program) (T:TypeId):Prop where
 agg:aggOf P T=some false
 size:(P.info? T).map (·.size)=some 1
class AggC (P:Program) (T:TypeId) (n:outParam Nat):Prop where
 agg:aggOf P T=some true
 size:(P.info? T).map (·.size)=some n
class ZeroC (P:Program) (T:TypeId) (z:outParam (Array Value)):Prop where
 zero:(P.info? T).bind (fun i=>i.zero.map (·.cells))=some z
class ElC (P:Program) (E:TypeId) (sz:outParam Nat) (by_:outParam Nat):Prop where
 info:(P.info? E).map (fun i=>(i.size,i.bytes))=some (sz,by_)
 zero:((P.info? E).bind (·.zero)).map (·.cells.size)=some sz
 pos:0<sz
class ArrC (P:Program) (T:TypeId) (len:outParam Nat) (E:outParam TypeId):Prop where
 is:P.underlying T=some (.array len E)
class SlcC (P:Program) (T:TypeId) (E:outParam TypeId):Prop where
 is:P.underlying T=some (.slice E)
section
variable {P:Program}{O w w':World}
theorem run_isAgg {T:TypeId}{b:Bool}(h:aggOf P T=some b)(w:World):(isAgg T).run P w=.ok b w:=by
 unfold aggOf at h
 cases hu:P.underlying T with
 | none=>simp[hu]at h
 | some d=>
  simp[hu]at h
  unfold isAgg
  simp only[Sem.run_bind,run_underlying hu,Result.andThen_ok]
  cases d<;>simp_all
theorem Qu {T:TypeId}{n:Nat}(h:(P.info? T).map (·.size)=some n)(w:World):(sizeOf T).run P w=.ok n w:=by
 cases hi:P.info? T with
 | none=>simp[hi]at h
 | some i=>
  simp[hi]at h
  simp[sizeOf,typeInfo,hi,h]
theorem run_loadVar_one {T:TypeId}[h:OneC P T]{a:Addr}{v:Value}(hc:w.cell? a=some v):(loadVar T a).run P w=.ok v w:=by
 unfold loadVar
 simp[run_isAgg h.agg,hc]
def spl (cs:Array Value)(off:Nat)(vs:List Value):Array Value:=(cs.toList.take off++vs++cs.toList.drop (off+vs.length)).toArray
theorem run_loadVar_agg {T n:Nat}[h:AggC P T n]{b off:Nat}{cs:Array Value}{E:TypeId}{fr:Nat×Nat}(hb:w.heap[b]? = some (.cells cs E fr))(hn:off+n≤cs.size) :
  (loadVar T ⟨b,off,none⟩).run P w=.ok (.agg (cs.extract off (off+n))) w:=by
 unfold loadVar
 have hl:(cs.toList.drop off |>.take n).length=n:=by simp;omega
 have:=run_loadCells_list (P:=P) w ⟨b,off,none⟩ (cs.toList.drop off |>.take n) (by
  intro j v hj
  rw[Addr.add_lit,cell_of_row w b (off+j) cs E fr hb]
  rw[List.getElem?_take]at hj
  split at hj
  ·simpa using hj
  ·cases hj)
 rw[hl]at this
 simp only[Sem.run_bind,run_isAgg h.agg,Result.andThen_ok,Qu h.size,if_true,this,Sem.run_pure]
 congr 2
 apply Array.ext'
 simp[List.extract_eq_take_drop]
theorem run_storeVar_one {T:TypeId}[h:OneC P T]{b off:Nat}{v:Value}{cs:Array Value}{E:TypeId}(hb:w.heap[b]? = some (.cells cs E))(hv:v.oneCell'=true)(hoff:off<cs.size) :
  (storeVar T ⟨b,off,none⟩ v).run P w=.ok () (w.setRow b (cs.setIfInBounds off v)):=by
 have hc:v.cells = #[v]:=by cases v<;>first|rfl|simp[Value.oneCell']at hv
 unfold storeVar
 simp only[Sem.run_bind,Qu h.size,Result.andThen_ok,hc]
 have:=run_storeCells_at P b off E [v] 0 cs w hb (by simp;omega) (by simpa using hv)
 simp only[List.size_toArray,List.length_cons,List.length_nil,Nat.zero_add,ne_eq,not_true_eq_false,if_false,Nat.add_zero]at this ⊢
 rw[this]
 congr 2
 apply Array.ext'
 simp only[Array.toList_setIfInBounds]
 rw[List.set_eq_take_append_cons_drop,if_pos (by simpa using hoff)]
 simp
theorem run_storeVar_agg {T n:Nat}[h:AggC P T n]{b off:Nat}{vs:Array Value}{cs:Array Value}{E:TypeId}(hb:w.heap[b]? = some (.cells cs E))(hv:∀v∈vs.toList,v.oneCell'=true)(hs:vs.size=n)(hoff:off+n≤cs.size) :
  (storeVar T ⟨b,off,none⟩ (.agg vs)).run P w=.ok () (w.setRow b (spl cs off vs.toList)):=by
 unfold storeVar
 simp only[Sem.run_bind,Qu h.size,Result.andThen_ok,Value.cells]
 have:=run_storeCells_at P b off E vs.toList 0 cs w hb (by simpa[hs] using hoff) hv
 simp only[hs,ne_eq,not_true_eq_false,if_false,Nat.add_zero]at this ⊢
 rw[this]
 rfl
theorem spl_full (cs:Array Value)(vs:List Value)(h:vs.length=cs.size):spl cs 0 vs=vs.toArray:=by
 unfold spl
 simp[h]
end
/-! ### Operations -/
section
variable {P:Program}{ops:Array Oper}{Q:Exit→Act→World→Prop}{a:Act}{w:World}{rest:List Oper}{o:Oper}{O:World}{S R:Zc}
theorem QE {v:Value}{w':World}(hg:Region.wanted o (yielded ops a.tmps)=true)(hr:(execOp a.eval o).run P w=.ok (.value v) w')(k:wpList P ops Q rest (a.put o.dst v) w') :
  wpList P ops Q (o::rest) a w:=by
 unfold wpList;rw[if_pos hg];left;unfold Oper.wp;rw[hr];exact k
theorem wl_skip {w':World}(hg:Region.wanted o (yielded ops a.tmps)=true)(hr:(execOp a.eval o).run P w=.ok .skip w')(k:wpList P ops Q rest (a.put o.dst undef) w') :
  wpList P ops Q (o::rest) a w:=by
 unfold wpList;rw[if_pos hg];left;unfold Oper.wp;rw[hr];exact k
def ev (l:List Value):Operand→Option Value
 | .tmp t=>l[t]?
 | .const v=>some v
 | .global g=>some (.pointer (some ⟨g,0,none⟩))
 | .func f=>some (.func (.func f) #[] #[])
def cel:Value→Option (Array Value)
 | .agg cs=>some cs
 | v=>some #[v]
theorem Zm {l:List Value}{ds:List Deferred}{x:Operand}{v:Value}(h:ev l x=some v):(Act.mk l.toArray ds).eval x=v:=by
 cases x<;>simp_all [ev,Act.eval]
theorem cel_cells {v:Value}{cs:Array Value}(h:cel v=some cs):v.cells=cs:=by
 cases v<;>simp_all [cel,Value.cells]
theorem ZU {l:List Value}{ds:List Deferred}{d:Nat}{v:Value}:(Act.mk l.toArray ds).put (some d) v=Act.mk (l.set d v).toArray ds:=by
 simp[Act.put]
variable {l:List Value}{ds:List Deferred}{T ty:TypeId}{pos:String}{after:Array Edge}{gd:Option (Nat×Bool)}{d:Nat}{x y:Operand}{b off:Nat}{cs:Array Value}{E:TypeId}{fr:Nat×Nat}{v:Value}
theorem Zb (hs:Sat O w S)(h:OneC P T)(hx:ev l x=some (.pointer (some ⟨b,off,none⟩)))(hp:Pull S (pt b (.cells cs E fr)) R)(hv:cs.toList[off]? = some v)
  (hg:Region.wanted { dst:=some d,op:=.load T x,type:=ty,pos,after,guard:=gd } (yielded ops l.toArray)=true)
  (k:wpList P ops Q rest ⟨(l.set d v).toArray,ds⟩ w):wpList P ops Q ({ dst:=some d,op:=.load T x,type:=ty,pos,after,guard:=gd }::rest) ⟨l.toArray,ds⟩ w:=by
 refine QE (v:=v) hg ?_ (ZU▸k)
 have hb:=(hs.pull hp).block
 have:w.cell? ⟨b,off,none⟩=some v:=by rw[cell_of_row w b off cs E fr hb,←Array.getElem?_toList,hv]
 simp only[execOp,Zm hx,Instr.loadAt,Instr.sureAddr,Sem.run_bind,Sem.run_pure,Result.andThen_ok,run_loadVar_one this]
theorem wl_ldN {n:Nat}(hs:Sat O w S)(h:AggC P T n)(hx:ev l x=some (.pointer (some ⟨b,off,none⟩)))(hp:Pull S (pt b (.cells cs E fr)) R){vs:Array Value}(hn:off+n≤cs.size)(hv:cs.extract off (off+n)=vs)
  (hg:Region.wanted { dst:=some d,op:=.load T x,type:=ty,pos,after,guard:=gd } (yielded ops l.toArray)=true)
  (k:wpList P ops Q rest ⟨(l.set d (.agg vs)).toArray,ds⟩ w):wpList P ops Q ({ dst:=some d,op:=.load T x,type:=ty,pos,after,guard:=gd }::rest) ⟨l.toArray,ds⟩ w:=by
 refine QE (v:=.agg vs) hg ?_ (ZU▸k)
 have hb:=(hs.pull hp).block
 simp only[execOp,Zm hx,Instr.loadAt,Instr.sureAddr,Sem.run_bind,Sem.run_pure,Result.andThen_ok,run_loadVar_agg hb hn,hv]
theorem Qy {n:Nat}(hs:Sat O w S)(h:AggC P T n)(hx:ev l x=some (.pointer (some ⟨b,0,none⟩)))(hp:Pull S (pt b (.cells cs E fr)) R)(hn:cs.size=n)
  (hg:Region.wanted { dst:=some d,op:=.load T x,type:=ty,pos,after,guard:=gd } (yielded ops l.toArray)=true)
  (k:wpList P ops Q rest ⟨(l.set d (.agg cs)).toArray,ds⟩ w):wpList P ops Q ({ dst:=some d,op:=.load T x,type:=ty,pos,after,guard:=gd }::rest) ⟨l.toArray,ds⟩ w:=
 wl_ldN hs h hx hp (by omega) (by subst hn;simp) hg k
theorem Zv (hs:Sat O w S)(h:OneC P T)(hx:ev l x=some (.pointer (some ⟨b,off,none⟩)))(hy:ev l y=some v)(hp:Pull S (pt b (.cells cs E)) R)(hv:v.oneCell'=true)(hoff:off<cs.size)
  (hg:Region.wanted { dst:=none,op:=.store T x y,type:=ty,pos,after,guard:=gd } (yielded ops l.toArray)=true)
  (k:∀w',Sat O w' (pt b (.cells (cs.setIfInBounds off v) E)*R)→wpList P ops Q rest ⟨l.toArray,ds⟩ w') :
  wpList P ops Q ({ dst:=none,op:=.store T x y,type:=ty,pos,after,guard:=gd }::rest) ⟨l.toArray,ds⟩ w:=by
 have hs':=hs.pull hp
 refine wl_skip hg ?_ (k _ (hs'.setRow))
 simp only[execOp,Zm hx,Zm hy,Instr.storeAt,Instr.sureAddr,Sem.run_bind,Sem.run_pure,Result.andThen_ok,run_storeVar_one hs'.block hv hoff]
theorem wl_stN {n:Nat}{vs:Array Value}(hs:Sat O w S)(h:AggC P T n)(hx:ev l x=some (.pointer (some ⟨b,off,none⟩)))(hy:ev l y=some (.agg vs))(hp:Pull S (pt b (.cells cs E)) R)
  (hv:∀v∈vs.toList,v.oneCell'=true) (hz:vs.size=n) (hoff:off+n≤cs.size)
  (hg:Region.wanted { dst:=none,op:=.store T x y,type:=ty,pos,after,guard:=gd } (yielded ops l.toArray)=true)
  (k:∀w',Sat O w' (pt b (.cells (spl cs off vs.toList) E)*R)→wpList P ops Q rest ⟨l.toArray,ds⟩ w') :
  wpList P ops Q ({ dst:=none,op:=.store T x y,type:=ty,pos,after,guard:=gd }::rest) ⟨l.toArray,ds⟩ w:=by
 have hs':=hs.pull hp
 refine wl_skip hg ?_ (k _ (hs'.setRow))
 simp only[execOp,Zm hx,Zm hy,Instr.storeAt,Instr.sureAddr,Sem.run_bind,Sem.run_pure,Result.andThen_ok,run_storeVar_agg hs'.block hv hz hoff]
theorem ZN {n:Nat}{vs:Array Value}(hs:Sat O w S)(h:AggC P T n)(hx:ev l x=some (.pointer (some ⟨b,0,none⟩)))(hy:ev l y=some (.agg vs))(hp:Pull S (pt b (.cells cs E)) R)
  (hv:vs.toList.all Value.oneCell'=true) (hz:vs.size=n) (hoff:cs.size=n)
  (hg:Region.wanted { dst:=none,op:=.store T x y,type:=ty,pos,after,guard:=gd } (yielded ops l.toArray)=true)
  (k:∀w',Sat O w' (pt b (.cells vs E)*R)→wpList P ops Q rest ⟨l.toArray,ds⟩ w') :
  wpList P ops Q ({ dst:=none,op:=.store T x y,type:=ty,pos,after,guard:=gd }::rest) ⟨l.toArray,ds⟩ w:=by
 refine wl_stN hs h hx hy hp (fun v hm=>List.all_eq_true.1 hv v hm) hz (by omega) hg ?_
 rw[spl_full cs vs.toList (by simp[hz,hoff])]
 exact k
theorem Zw {z:Array Value}(hs:Sat O w S)(h:ZeroC P T z)
  (hg:Region.wanted { dst:=some d,op:=.alloc T,type:=ty,pos,after,guard:=gd } (yielded ops l.toArray)=true)
  (k:∀w' b,Sat O w' (pt b (.cells z T)*S)→wpList P ops Q rest ⟨(l.set d (.pointer (some ⟨b,0,none⟩))).toArray,ds⟩ w') :
  wpList P ops Q ({ dst:=some d,op:=.alloc T,type:=ty,pos,after,guard:=gd }::rest) ⟨l.toArray,ds⟩ w:=by
 refine QE (v:=.pointer (some ⟨w.heap.size,0,none⟩)) hg ?_ (ZU▸k _ _ (hs.alloc _))
 have hz:=h.zero
 cases hi:P.info? T with
 | none=>simp[hi]at hz
 | some i=>
  cases hzz:i.zero with
  | none=>simp[hi,hzz]at hz
  | some v=>
   simp[hi,hzz]at hz
   simp only[execOp,Instr.alloc,zeroValue,typeInfo,hi,hzz,Sem.run_bind,run_program,Sem.run_pure,Result.andThen_ok,newVar,newRow,run_newObj,hz]
   rfl
theorem Zt (hs:Sat O w S)(hx:ev l x=some v)(hc:cel v=some cs)
  (hg:Region.wanted { dst:=some d,op:=.box T x,type:=ty,pos,after,guard:=gd } (yielded ops l.toArray)=true)
  (k:∀w' b,Sat O w' (pt b (.cells cs T)*S)→wpList P ops Q rest ⟨(l.set d (.pointer (some ⟨b,0,none⟩))).toArray,ds⟩ w') :
  wpList P ops Q ({ dst:=some d,op:=.box T x,type:=ty,pos,after,guard:=gd }::rest) ⟨l.toArray,ds⟩ w:=by
 refine QE (v:=.pointer (some ⟨w.heap.size,0,none⟩)) hg ?_ (ZU▸k _ _ (hs.alloc _))
 simp only[execOp,Zm hx,Instr.box,newVar,newRow,Sem.run_bind,Sem.run_pure,Result.andThen_ok,run_newObj,cel_cells hc]
 rfl
theorem Qa (m:List Value)(i j:Nat):m.toArray.extract i j=((m.drop i).take (j-i)).toArray:=by simp[List.extract_eq_take_drop]
theorem Jh {len n:Nat}{k:IntKind}{i:Int}(hs:Sat O w S)(h:ArrC P T len E)(hE:AggC P E n)(hx:ev l x=some (.agg cs))(hy:ev l y=some (.int k i))(h0:0≤i)(h1:i<len)
  {vs:Array Value} (hv:cs.extract (i.toNat*n) (i.toNat*n+n)=vs)
  (hg:Region.wanted { dst:=some d,op:=.index T x y,type:=ty,pos,after,guard:=gd } (yielded ops l.toArray)=true)
  (k:wpList P ops Q rest ⟨(l.set d (.agg vs)).toArray,ds⟩ w):wpList P ops Q ({ dst:=some d,op:=.index T x y,type:=ty,pos,after,guard:=gd }::rest) ⟨l.toArray,ds⟩ w:=by
 refine QE (v:=.agg vs) hg ?_ (ZU▸k)
 simp only[execOp,Zm hx,Zm hy,Instr.index,asIntOf,Sem.run_bind,Sem.run_pure,Result.andThen_ok,run_underlying h.is,if_pos (And.intro h0 h1),Qu hE.size,part,run_isAgg hE.agg,if_true,hv]
end
/-! ### Calls -/
def Does (P:Program)(f:FuncId)(args:Array Value)(A:Zc)(B:Value→Zc):Prop:=
 ∀O w F,Sat O w (A*F)→Calls P f args w fun e w'=>∃v,e=.returned v∧Sat O w' (B v*F)
def Zk (P:Program)(f:FuncId)(args:Array Value)(A:Zc)(v:Value)(B:Zc):Prop:=
 ∀O w F,Sat O w (A*F)→Calls P f args w fun e w'=>e=.returned v∧Sat O w' (B*F)
section
variable {P:Program}{f:FuncId}{args:Array Value}{A B' S R:Zc}{B:Value→Zc}{O w:World}{v:Value}{Post:Ending→World→Prop}
theorem Does.at (h:Does P f args A B)(hs:Sat O w S)(hp:Pull S A R)(k:∀v w',Sat O w' (B v*R)→Post (.returned v) w'):Calls P f args w Post:=
 (h O w R (hs.pull hp)).mono fun _ _ ⟨v,he,hs'⟩=>he▸k v _ hs'
theorem Zk.at (h:Zk P f args A v B')(hs:Sat O w S)(hp:Pull S A R)(k:∀w',Sat O w' (B'*R)→Post (.returned v) w'):Calls P f args w Post:=
 (h O w R (hs.pull hp)).mono fun _ _ ⟨he,hs'⟩=>he▸k _ hs'
end
end Hp
end
end Go.Proofs.YtefjbdajgakgpaaGreat
