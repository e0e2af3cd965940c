import Derived.Test.YtefjbdajgakgpaaGreatDRegion
import Derived.Deep.MidRow
set_option linter.all false
namespace Go.Proofs.YtefjbdajgakgpaaGreat
open Go.RowKit
namespace Hp
def sl (E:TypeId)(sz:Nat)(css:List (List Value))(v:Value):Zc:=
 ⟨fun h=>((∀c∈css,c.length=sz∧c.all Value.oneCell'=true)∧0<sz) ∧
  ((v=.slice none 0 0∧css=[]∧h=fun _=>none) ∨
   ∃b off cap pre post,v=.slice (some ⟨b,off,none⟩) css.length cap∧pre.length=off∧css.length≤cap∧cap*sz≤css.length*sz+post.length∧(pt b (.cells (pre++css.flatten++post).toArray E)).on h)⟩
structure IsAt (v:Value)(b off:Nat):Prop where
 is:∃n cap,v=.slice (some ⟨b,off,none⟩) n cap
structure SlOk (sz:Nat)(css:List (List Value)):Prop where
 wf:∀c∈css,c.length=sz∧c.all Value.oneCell'=true
 pos:0<sz
section
variable {O w w':World}{R S:Zc}{E:TypeId}{sz:Nat}{css:List (List Value)}{v:Value}
theorem QL:Sat O w (sl E sz css v*R)↔SlOk sz css ∧
  ((v=.slice none 0 0∧css=[]∧Sat O w R)∨∃b off cap pre post,v=.slice (some ⟨b,off,none⟩) css.length cap∧pre.length=off∧css.length≤cap∧cap*sz≤css.length*sz+post.length∧Sat O w (pt b (.cells (pre++css.flatten++post).toArray E)*R)):=by
 constructor
 ·rintro⟨h1,h2,h3,h4,x,hxx,hh⟩
  obtain⟨a,c,d,e,⟨hw,hx⟩,y⟩:=(mul_on _ _ _).1 hxx
  refine⟨⟨hw.1,hw.2⟩,?_⟩
  rcases hx with⟨hv,hc,hx⟩|⟨b,off,cap,pre,post,hv,hpre,hl,hcap,hx⟩
  ·left
   refine⟨hv,hc,h1,h2,h3,h4,x,?_,hh⟩
   have:x=c:=by rw[e,hx];funext k;rfl
   rwa [this]
  ·right
   exact⟨b,off,cap,pre,post,hv,hpre,hl,hcap,h1,h2,h3,h4,x,(mul_on _ _ _).2 ⟨a,c,d,e,hx,y⟩,hh⟩
 ·rintro⟨hw,⟨hv,hc,hs⟩|⟨b,off,cap,pre,post,hv,hpre,hl,hcap,h1,h2,h3,h4,x,hxx,hh⟩⟩
  ·obtain⟨h1,h2,h3,h4,x,hx,hh⟩:=hs
   exact⟨h1,h2,h3,h4,x,(mul_on _ _ _).2 ⟨fun _=>none,x,fun _=>.inl rfl,by funext k;rfl,⟨⟨hw.wf,hw.pos⟩,.inl ⟨hv,hc,rfl⟩⟩,hx⟩,hh⟩
  ·obtain⟨a,c,d,e,hx,y⟩:=(mul_on _ _ _).1 hxx
   exact⟨h1,h2,h3,h4,x,(mul_on _ _ _).2 ⟨a,c,d,e,⟨⟨hw.wf,hw.pos⟩,.inr ⟨b,off,cap,pre,post,hv,hpre,hl,hcap,hx⟩⟩,y⟩,hh⟩
theorem sl_nil (hs:Sat O w R)(h:0<sz):Sat O w (sl E sz [] (.slice none 0 0)*R):=
 QL.2 ⟨⟨by simp,h⟩,.inl ⟨rfl,rfl,hs⟩⟩
theorem Q8 (hw:SlOk sz css):css.flatten.length=css.length*sz:=by
 have:=hw.wf
 clear hw
 induction css with
 | nil=>simp
 | cons c r ih=>
  simp only[List.flatten_cons,List.length_append,List.length_cons,Nat.add_mul,Nat.one_mul]
  rw[ih (fun x hx=>this x (by simp[hx])),(this c (by simp)).1];omega
theorem flatten_one (hw:SlOk sz css):∀u∈css.flatten,u.oneCell'=true:=by
 intro u hu
 obtain⟨c,hc,huc⟩:=List.mem_flatten.1 hu
 exact List.all_eq_true.1 (hw.wf c hc).2 u huc
theorem split_at {α:Type}{xs:List α}{i:Nat}{x:α}(h:xs[i]? = some x):xs=xs.take i++x::xs.drop (i+1)∧(xs.take i).length=i:=by
 obtain⟨hl,hx⟩:=List.getElem?_eq_some_iff.1 h
 refine⟨?_,by simp;omega⟩
 rw[←hx]
 simp
theorem flatten_at (hw:SlOk sz css){i:Nat}{c:List Value}(h:css[i]? = some c) :
  css.flatten=(css.take i).flatten++(c++(css.drop (i+1)).flatten)∧(css.take i).flatten.length=i*sz∧c.length=sz:=by
 obtain⟨h1,h2⟩:=split_at h
 refine⟨?_,?_,(hw.wf c (Yc h)).1⟩
 ·conv=>lhs;rw[h1]
  simp
 ·rw[Q8 (sz:=sz) (css:=css.take i) ⟨fun x hx=>hw.wf x (List.mem_of_mem_take hx),hw.pos⟩,h2]
theorem SlOk.set (hw:SlOk sz css)(i:Nat){c:List Value}(h1:c.length=sz)(h2:c.all Value.oneCell'=true):SlOk sz (css.set i c):=
 ⟨fun x hx=>by rcases List.mem_or_eq_of_mem_set hx with h|rfl;exact hw.wf x h;exact⟨h1,h2⟩,hw.pos⟩
theorem flatten_set (hw:SlOk sz css){i:Nat}{c c':List Value}(h:css[i]? = some c):(css.set i c').flatten=(css.take i).flatten++(c'++(css.drop (i+1)).flatten):=by
 obtain⟨hl,hx⟩:=List.getElem?_eq_some_iff.1 h
 rw[List.set_eq_take_append_cons_drop,if_pos hl]
 simp
theorem sl_at {b off:Nat}(hs:Sat O w (sl E sz css v*R))(hv:IsAt v b off):SlOk sz css∧∃cap pre post,v=.slice (some ⟨b,off,none⟩) css.length cap∧pre.length=off∧css.length≤cap∧cap*sz≤css.length*sz+post.length∧Sat O w (pt b (.cells (pre++css.flatten++post).toArray E)*R):=by
 obtain⟨hw,h⟩:=QL.1 hs
 refine⟨hw,?_⟩
 obtain⟨n,cap',e⟩:=hv.is
 rcases h with⟨h,_⟩|⟨b',off',cap,pre,post,h,h1,h2,h3,h4⟩
 ·rw[h]at e;cases e
 ·rw[h]at e
  injection e with e1 e2 e3
  injection e1 with e1
  injection e1 with e1 e4
  subst e1;subst e4
  exact⟨cap,pre,post,h,h1,h2,h3,h4⟩
theorem sl_some (hs:Sat O w (sl E sz css v*R))(h:0<css.length):∃b off cap,v=.slice (some ⟨b,off,none⟩) css.length cap:=by
 obtain⟨hw,h1|⟨b,off,cap,pre,post,hv,_⟩⟩:=QL.1 hs
 ·obtain⟨_,hc,_⟩:=h1;subst hc;simp at h
 ·exact⟨b,off,cap,hv⟩
theorem QY (hs:Sat O w (sl E sz css v*R)):∃a cap,v=.slice a css.length cap:=by
 obtain⟨hw,h1|⟨b,off,cap,pre,post,hv,_⟩⟩:=QL.1 hs
 ·obtain⟨hv,hc,_⟩:=h1;subst hc;exact⟨none,0,hv⟩
 ·exact⟨_,cap,hv⟩
theorem QS (hs:Sat O w (sl E sz css v*R)):v.oneCell'=true:=by
 obtain⟨a,cap,e⟩:=QY hs
 subst e;rfl
theorem sl_cells {b off i:Nat}{c:List Value}(hs:Sat O w (sl E sz css v*R))(hv:IsAt v b off)(hi:css[i]? = some c):∃L Rr:List Value,L.length=off+i*sz∧c.length=sz∧c.all Value.oneCell'=true∧w.heap[b]? = some (.cells (L++c++Rr).toArray E (0,0)) ∧
  ∀c' w',c'.length=sz→c'.all Value.oneCell'=true→w'.os=w.os→w'.tape=w.tape→w'.output=w.output→w.heap.size≤w'.heap.size→w'.heap[b]? = some (.cells (L++c'++Rr).toArray E (0,0))→(∀k,k≠b→k<w.heap.size→w'.heap[k]? = w.heap[k]?) →
   Sat O w' (sl E sz (css.set i c') v*R):=by
 obtain⟨hw,cap,pre,post,h1,h2,h3,h4,h5⟩:=sl_at hs hv
 obtain⟨e1,e2,e3⟩:=flatten_at hw hi
 refine⟨pre++(css.take i).flatten,(css.drop (i+1)).flatten++post,by simp[h2,e2],e3,(hw.wf c (Yc hi)).2,?_,?_⟩
 ·rw[h5.block]
  congr 3
  rw[e1];simp
 ·intro c' w' g1 g2 g3 g4 g5 g6 g7 g8
  refine QL.2 ⟨hw.set i g1 g2,.inr ⟨b,off,cap,pre,post,by simpa using h1,h2,by simpa using h3,by simpa using h4,?_⟩⟩
  refine h5.turn g3 g4 g5 g6 ?_ g8
  rw[g7,flatten_set hw hi]
  congr 3
  simp
end
/-! ### The laws of the walk -/
section
variable {P:Program}{ops:Array Oper}{Q:Exit→Act→World→Prop}{w:World}{rest:List Oper}{O:World}{S R R':Zc}
variable {l:List Value}{ds:List Deferred}{T ty E:TypeId}{pos:String}{after:Array Edge}{gd:Option (Nat×Bool)}{d:Nat}{x y z:Operand}{b off p i k sz:Nat}{css dss:List (List Value)}{c c':List Value}{u v:Value}{ts:Array TypeId}
theorem wl_ldS (hs:Sat O w S)(h:OneC P T)(hx:ev l x=some (.pointer (some ⟨b,p,none⟩)))(hv:IsAt v b off)(hp:Pull S (sl E sz css v) R)(he:p=off+i*sz+k)(hi:css[i]? = some c)(hk:c[k]? = some u)
  (hg:Region.wanted { dst:=some d,op:=.load T x,type:=ty,pos,after,guard:=gd } (yielded ops l.toArray)=true)
  (kk:wpList P ops Q rest ⟨(l.set d u).toArray,ds⟩ w):wpList P ops Q ({ dst:=some d,op:=.load T x,type:=ty,pos,after,guard:=gd }::rest) ⟨l.toArray,ds⟩ w:=by
 refine QE (v:=u) hg ?_ (ZU▸kk)
 obtain⟨L,Rr,h1,h2,h3,h4,_⟩:=sl_cells (hs.pull hp) hv hi
 have hkl:k<c.length:=(List.getElem?_eq_some_iff.1 hk).1
 have:w.cell? ⟨b,p,none⟩=some u:=by
  rw[cell_of_row w b p _ E (0,0) h4,←Array.getElem?_toList,he,←h1]
  simp only[List.append_assoc]
  rw[List.getElem?_append_right (by omega),Nat.add_sub_cancel_left,List.getElem?_append_left hkl,hk]
 simp only[execOp,Zm hx,Instr.loadAt,Instr.sureAddr,Sem.run_bind,Sem.run_pure,Result.andThen_ok,run_loadVar_one this]
theorem ZE (hs:Sat O w S)(h:OneC P T)(hx:ev l x=some (.pointer (some ⟨b,p,none⟩)))(hv:IsAt v b off)(hp:Pull S (sl E sz css v) R)(he:p=off+i*sz)(hi:css[i]? = some c)(hk:c[0]? = some u)
  (hg:Region.wanted { dst:=some d,op:=.load T x,type:=ty,pos,after,guard:=gd } (yielded ops l.toArray)=true)
  (kk:wpList P ops Q rest ⟨(l.set d u).toArray,ds⟩ w):wpList P ops Q ({ dst:=some d,op:=.load T x,type:=ty,pos,after,guard:=gd }::rest) ⟨l.toArray,ds⟩ w:=
 wl_ldS hs h hx hv hp (by rw[he];rfl) hi hk hg kk
theorem wl_ldSN {n:Nat}(hs:Sat O w S)(h:AggC P T n)(hx:ev l x=some (.pointer (some ⟨b,p,none⟩)))(hv:IsAt v b off)(hp:Pull S (sl E sz css v) R)(he:p=off+i*sz+k)(hi:css[i]? = some c)(hn:k+n≤sz)(hk:(c.drop k).take n=c')
  (hg:Region.wanted { dst:=some d,op:=.load T x,type:=ty,pos,after,guard:=gd } (yielded ops l.toArray)=true)
  (kk:wpList P ops Q rest ⟨(l.set d (.agg c'.toArray)).toArray,ds⟩ w):wpList P ops Q ({ dst:=some d,op:=.load T x,type:=ty,pos,after,guard:=gd }::rest) ⟨l.toArray,ds⟩ w:=by
 refine QE (v:=.agg c'.toArray) hg ?_ (ZU▸kk)
 obtain⟨L,Rr,h1,h2,h3,h4,_⟩:=sl_cells (hs.pull hp) hv hi
 have hr:=run_loadVar_agg (P:=P) (T:=T) (n:=n) (off:=p) h4 (by simp[h2,he,←h1];omega)
 rw[Qa]at hr
 have e2:((L++c++Rr).drop p).take (p+n-p)=c':=by
  rw[he,←h1,List.append_assoc,←hk,←List.drop_drop,List.drop_left,Nat.add_sub_cancel_left,List.drop_append_of_le_length (by omega),List.take_append_of_le_length (by simp;omega)]
 rw[e2]at hr
 simp only[execOp,Zm hx,Instr.loadAt,Instr.sureAddr,Sem.run_bind,Sem.run_pure,Result.andThen_ok,hr]
theorem run_storeVar_row {n:Nat}{vs:Array Value}{cs:Array Value}{off:Nat}(hb:w.heap[b]? = some (.cells cs E (0,0)))(hsz:(P.info? T).map (·.size)=some n)(hv:∀v∈vs.toList,v.oneCell'=true)(hs:vs.size=n)(hoff:off+n≤cs.size){v:Value}(hc:v.cells=vs) :
  (storeVar T ⟨b,off,none⟩ v).run P w=.ok () (w.setRow b (spl cs off vs.toList)):=by
 unfold storeVar
 simp only[Sem.run_bind,Qu hsz,Result.andThen_ok,hc]
 have:=run_storeCells_at P b off E vs.toList 0 cs w hb (by simpa[hs] using hoff) hv
 simp only[hs,ne_eq,not_true_eq_false,if_false,Nat.add_zero]at this ⊢
 rw[this]
 rfl
theorem stS_run {n:Nat}(hs:Sat O w S)(hsz:(P.info? T).map (·.size)=some n)(hv:IsAt v b off)(hp:Pull S (sl E sz css v) R)(he:p=off+i*sz+k)(hi:css[i]? = some c)(hn:k+n≤sz)
  {cs:Array Value} (hu:u.cells=cs) (h1:cs.toList.all Value.oneCell'=true) (hcs:cs.size=n) :
  ∃w',(storeVar T ⟨b,p,none⟩ u).run P w=.ok () w'∧Sat O w' (sl E sz (css.set i (c.take k++cs.toList++c.drop (k+n))) v*R):=by
 obtain⟨L,Rr,e1,e2,e3,e4,e5⟩:=sl_cells (hs.pull hp) hv hi
 have hone:∀v∈cs.toList,v.oneCell'=true:=fun v hv=>List.all_eq_true.1 h1 v hv
 refine⟨_,run_storeVar_row (P:=P) (T:=T) (n:=n) (off:=p) e4 hsz hone hcs (by simp[e2,he,←e1];omega) hu,?_⟩
 refine e5 _ _ ?_ ?_ rfl rfl rfl (by simp) ?_ (fun k hk _=>setRow_other w b k _ hk)
 ·simp[hcs,e2];omega
 ·simp only[List.all_append,Bool.and_eq_true]
  refine⟨⟨?_,h1⟩,?_⟩
  ·exact List.all_eq_true.2 fun v hv=>List.all_eq_true.1 e3 v (List.mem_of_mem_take hv)
  ·exact List.all_eq_true.2 fun v hv=>List.all_eq_true.1 e3 v (List.mem_of_mem_drop hv)
 ·rw[setRow_heap w b _ _ E (0,0) e4]
  congr 2
  unfold spl
  rw[he,←e1]
  have a1:((L++c++Rr).take (L.length+k))=L++c.take k:=by
   rw[List.append_assoc,List.take_length_add_append,List.take_append_of_le_length (by omega)]
  have a2:((L++c++Rr).drop (L.length+k+cs.toList.length))=c.drop (k+n)++Rr:=by
   rw[List.append_assoc,Nat.add_assoc,←List.drop_drop,List.drop_left,List.drop_append_of_le_length (by simp[hcs];omega)]
   simp[hcs]
  simp only[a1,a2]
  simp
theorem wl_stS (hs:Sat O w S)(h:OneC P T)(hx:ev l x=some (.pointer (some ⟨b,p,none⟩)))(hy:ev l y=some u)(hv:IsAt v b off)(hp:Pull S (sl E sz css v) R)(he:p=off+i*sz+k)(hi:css[i]? = some c)(hk:k<sz)(h1:u.oneCell'=true)
  (hg:Region.wanted { dst:=none,op:=.store T x y,type:=ty,pos,after,guard:=gd } (yielded ops l.toArray)=true)
  (kk:∀w',Sat O w' (sl E sz (css.set i (c.set k u)) v*R)→wpList P ops Q rest ⟨l.toArray,ds⟩ w') :
  wpList P ops Q ({ dst:=none,op:=.store T x y,type:=ty,pos,after,guard:=gd }::rest) ⟨l.toArray,ds⟩ w:=by
 have hc:u.cells = #[u]:=by cases u<;>first|rfl|simp[Value.oneCell']at h1
 obtain⟨w',hr,hs'⟩:=stS_run (P:=P) (T:=T) hs h.size hv hp he hi (by omega) hc (by simpa using h1) rfl
 refine wl_skip hg ?_ (kk w' ?_)
 ·simp only[execOp,Zm hx,Zm hy,Instr.storeAt,Instr.sureAddr,Sem.run_bind,Sem.run_pure,Result.andThen_ok,hr]
 ·have hlen:=(sl_cells (hs.pull hp) hv hi)
  obtain⟨_,_,_,e2,_⟩:=hlen
  have hset:c.set k u=c.take k++u::c.drop (k+1):=by rw[List.set_eq_take_append_cons_drop,if_pos (by omega)]
  rw[hset]
  simpa using hs'
theorem QO (hs:Sat O w S)(h:OneC P T)(hx:ev l x=some (.pointer (some ⟨b,p,none⟩)))(hy:ev l y=some u)(hv:IsAt v b off)(hp:Pull S (sl E sz css v) R)(he:p=off+i*sz)(hi:css[i]? = some c)(hk:0<sz)(h1:u.oneCell'=true)
  (hg:Region.wanted { dst:=none,op:=.store T x y,type:=ty,pos,after,guard:=gd } (yielded ops l.toArray)=true)
  (kk:∀w',Sat O w' (sl E sz (css.set i (c.set 0 u)) v*R)→wpList P ops Q rest ⟨l.toArray,ds⟩ w') :
  wpList P ops Q ({ dst:=none,op:=.store T x y,type:=ty,pos,after,guard:=gd }::rest) ⟨l.toArray,ds⟩ w:=
 wl_stS hs h hx hy hv hp (by rw[he];rfl) hi hk h1 hg kk
theorem wl_stSN {n:Nat}{vs:Array Value}(hs:Sat O w S)(h:AggC P T n)(hx:ev l x=some (.pointer (some ⟨b,p,none⟩)))(hy:ev l y=some (.agg vs))(hv:IsAt v b off)(hp:Pull S (sl E sz css v) R)(he:p=off+i*sz+k)(hi:css[i]? = some c)(hn:k+n≤sz)
  (h1:vs.toList.all Value.oneCell'=true) (hz:vs.size=n) (hk:c.take k++vs.toList++c.drop (k+n)=c')
  (hg:Region.wanted { dst:=none,op:=.store T x y,type:=ty,pos,after,guard:=gd } (yielded ops l.toArray)=true)
  (kk:∀w',Sat O w' (sl E sz (css.set i c') v*R)→wpList P ops Q rest ⟨l.toArray,ds⟩ w') :
  wpList P ops Q ({ dst:=none,op:=.store T x y,type:=ty,pos,after,guard:=gd }::rest) ⟨l.toArray,ds⟩ w:=by
 obtain⟨w',hr,hs'⟩:=stS_run (P:=P) (T:=T) hs h.size hv hp he hi hn (u:=.agg vs) rfl h1 hz
 refine wl_skip hg ?_ (kk w' (hk▸hs'))
 simp only[execOp,Zm hx,Zm hy,Instr.storeAt,Instr.sureAddr,Sem.run_bind,Sem.run_pure,Result.andThen_ok,hr]
theorem ElC.size {P:Program}{E:TypeId}{sz by_:Nat}(h:ElC P E sz by_):(P.info? E).map (·.size)=some sz:=by
 have:=h.info
 cases hq:P.info? E<;>simp_all
theorem Qe {kd:IntKind}{z:Int}{by_:Nat}(hs:Sat O w S)(h:SlcC P T E)(hE:ElC P E sz by_)(hx:ev l x=some v)(hy:ev l y=some (.int kd z))(hp:Pull S (sl E sz css v) R)(hz:z=(i:Int))(hi:i<css.length)
  (hg:Region.wanted { dst:=some d,op:=.indexAddr T x y,type:=ty,pos,after,guard:=gd } (yielded ops l.toArray)=true)
  (kk:∀b off,IsAt v b off→wpList P ops Q rest ⟨(l.set d (.pointer (some ⟨b,off+i*sz,none⟩))).toArray,ds⟩ w) :
  wpList P ops Q ({ dst:=some d,op:=.indexAddr T x y,type:=ty,pos,after,guard:=gd }::rest) ⟨l.toArray,ds⟩ w:=by
 obtain⟨b,off,cap,e⟩:=sl_some (hs.pull hp) (by omega)
 refine QE (v:=.pointer (some ⟨b,off+i*sz,none⟩)) hg ?_ (ZU▸kk b off ⟨_,_,e⟩)
 have h1:(0:Int)≤z∧z<(css.length:Int):=by omega
 have h2:z.toNat=i:=by omega
 subst e
 simp only[execOp,Zm hx,Zm hy,Instr.indexAt,asIntOf,Sem.run_bind,Sem.run_pure,Result.andThen_ok,run_underlying h.is,if_pos h1,h2,Qu hE.size,Addr.add_mid]
theorem Jv {kd:IntKind}{z:Int}{by_:Nat}(hs:Sat O w S)(h:SlcC P T E)(hE:ElC P E sz by_)(hx:ev l x=some v)(hat:IsAt v b off)(hy:ev l y=some (.int kd z))(hp:Pull S (sl E sz css v) R)(hz:z=(i:Int))(hi:i<css.length)
  (hg:Region.wanted { dst:=some d,op:=.indexAddr T x y,type:=ty,pos,after,guard:=gd } (yielded ops l.toArray)=true)
  (kk:wpList P ops Q rest ⟨(l.set d (.pointer (some ⟨b,off+i*sz,none⟩))).toArray,ds⟩ w) :
  wpList P ops Q ({ dst:=some d,op:=.indexAddr T x y,type:=ty,pos,after,guard:=gd }::rest) ⟨l.toArray,ds⟩ w:=by
 obtain⟨_,cap,_,_,e,_⟩:=sl_at (hs.pull hp) hat
 refine QE (v:=.pointer (some ⟨b,off+i*sz,none⟩)) hg ?_ (ZU▸kk)
 have h1:(0:Int)≤z∧z<(css.length:Int):=by omega
 have h2:z.toNat=i:=by omega
 subst e
 simp only[execOp,Zm hx,Zm hy,Instr.indexAt,asIntOf,Sem.run_bind,Sem.run_pure,Result.andThen_ok,run_underlying h.is,if_pos h1,h2,Qu hE.size,Addr.add_mid]
theorem ZS (hs:Sat O w S)(h:SlcC P T E)(hx:ev l x=some v)(hp:Pull S (sl E sz css v) R)
  (hg:Region.wanted { dst:=some d,op:=.call { callee:=.builtin .len,args := #[x],argTypes := #[T] },type:=ty,pos,after,guard:=gd } (yielded ops l.toArray)=true)
  (kk:wpList P ops Q rest ⟨(l.set d (.int .i64 (css.length:Int))).toArray,ds⟩ w) :
  wpList P ops Q ({ dst:=some d,op:=.call { callee:=.builtin .len,args := #[x],argTypes := #[T] },type:=ty,pos,after,guard:=gd }::rest) ⟨l.toArray,ds⟩ w:=by
 obtain⟨a,cap,e⟩:=QY (hs.pull hp)
 refine QE (v:=.int .i64 (css.length:Int)) hg ?_ (ZU▸kk)
 subst e
 have:=Zm (ds:=ds) hx
 simp[execOp,resolve,this,invoke,builtin,Builtin.len_,run_underlying h.is,goInt]
theorem wl_mk {kl:IntKind}{z:Int}{by_:Nat}{zc:List Value}(hs:Sat O w S)(h:SlcC P T E)(hE:ElC P E sz by_)(hZ:(P.info? E).bind (fun i=>i.zero.map (·.cells.toList))=some zc)(h1:zc.all Value.oneCell'=true)(hx:ev l x=some (.int kl z))(hy:ev l y=some (.int kl z))(hz:z=(i:Int))(hi:i≤4294967296)(hb:by_≤32768)
  (hg:Region.wanted { dst:=some d,op:=.makeSlice T x y,type:=ty,pos,after,guard:=gd } (yielded ops l.toArray)=true)
  (kk:∀w' v,Sat O w' (sl E sz (List.replicate i zc) v*S)→wpList P ops Q rest ⟨(l.set d v).toArray,ds⟩ w') :
  wpList P ops Q ({ dst:=some d,op:=.makeSlice T x y,type:=ty,pos,after,guard:=gd }::rest) ⟨l.toArray,ds⟩ w:=by
 have hinfo:=hE.info
 have hzero:=hE.zero
 cases hq:P.info? E with
 | none=>simp[hq]at hinfo
 | some inf=>
  cases hzz:inf.zero with
  | none=>simp[hq,hzz]at hZ
  | some zv=>
   simp[hq,hzz]at hZ hinfo hzero
   have hbb:by_*i≤281474976710656:=by
    calc by_*i≤32768*4294967296:=Nat.mul_le_mul hb hi
     _≤_:=by decide
   have hr:=run_make (P:=P) w T E inf zv h.is hq hzz kl kl z z (by omega) (Int.le_refl _) (by rw[hinfo.2,hz,←Int.natCast_mul];exact Int.ofNat_le.2 hbb) (by omega)
   refine QE hg (v:=.slice (some ⟨w.heap.size,0,none⟩) i i) (w':=w.alloc (.cells (madeCells zv.cells (i*sz)) E)) ?_ (ZU▸kk _ _ ?_)
   ·simp only[execOp,Zm hx,Zm hy,Sem.run_bind,Sem.run_pure]
    rw[hr]
    have:z.toNat=i:=by omega
    simp[this,hinfo.1]
   ·have hzl:zc.length=sz:=by rw[←hZ];simpa using hzero
    have hwf:SlOk sz (List.replicate i zc):=⟨fun c hc=>by rw[List.eq_of_mem_replicate hc];exact⟨hzl,h1⟩,hE.pos⟩
    refine QL.2 ⟨hwf,.inr ⟨w.heap.size,0,i,[],[],by simp,rfl,by simp,by simp,?_⟩⟩
    have:=hs.alloc (.cells (madeCells zv.cells (i*sz)) E)
    refine this.cast ?_
    congr 3
    apply Array.ext'
    apply List.ext_getElem?
    intro j
    have hlen:zv.cells.size=sz:=hzero
    simp only[madeCells,List.nil_append,List.append_nil]
    have hfl:(List.replicate i zc).flatten.length=i*sz:=by rw[Q8 hwf];simp
    by_cases hj:j<i*sz
    ·have hq2:j / sz<i:=Nat.div_lt_of_lt_mul (by rw[Nat.mul_comm];exact hj)
     have hm:j%sz<sz:=Nat.mod_lt _ hE.pos
     have e1:(List.replicate i zc)[j / sz]? = some zc:=by simp[List.getElem?_replicate,hq2]
     obtain⟨a1,a2,a3⟩:=flatten_at hwf e1
     have hjj:j / sz*sz+j%sz=j:=by rw[Nat.mul_comm];exact Nat.div_add_mod j sz
     have key:((List.replicate i zc).flatten)[j]? = zc[j%sz]? := by
      rw[a1]
      rw[List.getElem?_append_right (by omega),List.getElem?_append_left (by omega)]
      congr 1;omega
     rw[key,←hZ]
     have hjs:j%sz<zv.cells.size:=by omega
     simp[hj,hlen]
     rw[getElem!_pos zv.cells _ hjs,Array.getElem?_eq_getElem hjs]
    ·rw[List.getElem?_eq_none (by simp;omega),List.getElem?_eq_none (by omega)]
theorem SlOk.app (h:SlOk sz css)(k:SlOk sz dss):SlOk sz (css++dss):=
 ⟨fun c hc=>by rcases List.mem_append.1 hc with h1|h1;exact h.wf c h1;exact k.wf c h1,h.pos⟩
theorem zeroCells_size (z:Array Value)(n:Nat):(Builtin.zeroCells z n).size=n*z.size:=by simp[Builtin.zeroCells]
theorem run_app {by_:Nat}{t ty:TypeId}(h:SlcC P t E)(hE:ElC P E sz by_)(hs:Sat O w (sl E sz css v*(sl E sz dss u*R)))(hn:css.length+dss.length≤4294967296)(hb:by_≤32768) :
  ∃v' w',(Builtin.append_ #[t,t] ty #[v,u]).run P w=.ok v' w'∧Sat O w' (sl E sz (css++dss) v'*(sl E sz dss u*R)):=by
 have hinfo:=hE.info
 have hzero:=hE.zero
 cases hq:P.info? E with
 | none=>simp[hq]at hinfo
 | some inf=>
  cases hzz:inf.zero with
  | none=>simp[hq,hzz]at hzero
  | some zv=>
   simp[hq,hzz]at hinfo hzero
   obtain⟨hws,hcs⟩:=QL.1 hs
   have hs2:=hs.right
   obtain⟨hwd,hcd⟩:=QL.1 hs2
   have hwa:=hws.app hwd
   have hu:∃a c,u=.slice a dss.length c∧∀w',(∀k,k<w.heap.size→w'.heap[k]? = w.heap[k]?)→(Builtin.firstCells sz dss.length u).run P w'=.ok dss.flatten.toArray w':=by
    rcases hcd with⟨hv,hc,_⟩|⟨b,off,cap,pre,post,hv,h1,h2,h3,h4⟩
    ·subst hv;subst hc
     exact⟨none,0,rfl,fun w' _=>by rw[run_firstCells_none];rfl⟩
    ·refine⟨some ⟨b,off,none⟩,cap,hv,fun w' hw' => ?_⟩
     subst hv
     refine run_firstCells_some (P:=P) w' sz dss.length ⟨b,off,none⟩ _ cap dss.flatten (Q8 hwd) (fun j x hx => ?_)
     have hbk:=h4.block
     have hlt:=h4.lt
     rw[Addr.add_mid,cell_of_row w' b (off+j) _ E (0,0) (by rw[hw' b hlt];exact hbk),←Array.getElem?_toList,←h1]
     have hjl:j<dss.flatten.length:=(List.getElem?_eq_some_iff.1 hx).1
     simp only[List.append_assoc]
     rw[List.getElem?_append_right (by omega),Nat.add_sub_cancel_left,List.getElem?_append_left hjl,hx]
   obtain⟨ua,uc,hue,huf⟩:=hu
   have hfit:Builtin.nextslicecap (css.length+dss.length) 0*inf.bytes≤281474976710656∨True:=.inr trivial
   have hbb:(css.length+dss.length)*inf.bytes≤140737488355328:=by
    rw[hinfo.2]
    calc (css.length+dss.length)*by_≤4294967296*32768:=Nat.mul_le_mul hn hb
     _≤_:=by decide
   have h63':¬(9223372036854775807<((css.length:Int)+(dss.length:Int))):=by omega
   have newOf:∀(olds:Array Value) (old:Nat),olds=css.flatten.toArray→old<css.length+dss.length →
     Sat O (w.drew.alloc (.cells (olds++dss.flatten.toArray++Builtin.zeroCells zv.cells (grownCap w (css.length+dss.length) old E-(css.length+dss.length))) E))
      (sl E sz (css++dss) (.slice (some ⟨w.heap.size,0,none⟩) (css.length+dss.length) (grownCap w (css.length+dss.length) old E))*(sl E sz dss u*R)):=by
    intro olds old ho hlt
    subst ho
    have hge:=grownCap_ge w (css.length+dss.length) old E
    refine QL.2 ⟨hwa,.inr ⟨w.heap.size,0,grownCap w (css.length+dss.length) old E,[],(Builtin.zeroCells zv.cells (grownCap w (css.length+dss.length) old E-(css.length+dss.length))).toList,by simp,rfl,by simpa using hge,?_,?_⟩⟩
    ·simp only[Array.length_toList,zeroCells_size,hzero,List.length_append,←Nat.add_mul]
     refine Nat.mul_le_mul_right _ ?_
     omega
    ·have:=hs2.drew.alloc (.cells (css.flatten.toArray++dss.flatten.toArray++Builtin.zeroCells zv.cells (grownCap w (css.length+dss.length) old E-(css.length+dss.length))) E)
     refine this.cast ?_
     congr 3
     apply Array.ext'
     simp
   rcases hcs with⟨hv,hc,_⟩|⟨b,off,cap,pre,post,hv,h1,h2,h3,h4⟩
   ·subst hv;subst hc
    by_cases hd0:dss.length=0
    ·have hd:dss=[]:=List.eq_nil_of_length_eq_zero hd0
     subst hd
     refine⟨.slice none 0 0,w,?_,hs⟩
     have hf:=huf w (fun _ _=>rfl)
     rw[hue]at hf ⊢
     simp at hf
     simp[Builtin.append_,run_underlying h.is,sizeOf,typeInfo,hq,Builtin.lenOf,hinfo.1,hf]
    ·have hfd:=huf w.drew (fun k hk=>rfl)
     have hn0:=newOf #[] 0 rfl (by simp;omega)
     refine⟨_,_,?_,hn0⟩
     rw[hue]at hfd ⊢
     have h48':¬(281474976710656<Builtin.nextslicecap dss.length 0*inf.bytes):=by
      rw[nextslicecap_zero (by omega)];simp at hbb;omega
     have h63'':¬(9223372036854775807<(dss.length:Int)):=by simp at h63';omega
     simp[Builtin.append_,run_underlying h.is,sizeOf,typeInfo,zeroValue,hq,hzz,Builtin.lenOf,hd0,h63'',h48',Question.forced,hinfo.1,run_firstCells_none,hfd,newRow,grownCap]
   ·subst hv
    by_cases hroom:css.length+dss.length≤cap
    ·have hflen:=Q8 hws
     have hdlen:=Q8 hwd
     have hmul:(css.length+dss.length)*sz≤cap*sz:=Nat.mul_le_mul_right _ hroom
     rw[Nat.add_mul]at hmul
     have hst:=run_storeCells_at P b (off+css.length*sz) E dss.flatten 0 _ w h4.block (by simp[h1,hflen,hdlen];omega) (flatten_one hwd)
     simp only[Nat.add_zero]at hst
     have hf:=huf w (fun _ _=>rfl)
     refine⟨.slice (some ⟨b,off,none⟩) (css.length+dss.length) cap,w.setRow b ((pre++css.flatten++post).toArray.toList.take (off+css.length*sz)++dss.flatten++(pre++css.flatten++post).toArray.toList.drop (off+css.length*sz+dss.flatten.length)).toArray,?_,?_⟩
     rotate_left
     ·refine QL.2 ⟨hwa,.inr ⟨b,off,cap,pre,post.drop dss.flatten.length,by simp,h1,by simpa using hroom,?_,?_⟩⟩
      ·simp only[List.length_append,List.length_drop,Nat.add_mul,hdlen];omega
      ·refine(h4.setRow).cast ?_
       congr 3
       apply Array.ext'
       simp only[List.flatten_append]
       have a1:((pre++css.flatten++post).take (off+css.length*sz))=pre++css.flatten:=by
        rw[List.take_append_of_le_length (by simp[h1,hflen])]
        exact List.take_of_length_le (by simp[h1,hflen])
       have a2:((pre++css.flatten++post).drop (off+css.length*sz+dss.flatten.length))=post.drop dss.flatten.length:=by
        rw[←List.drop_drop]
        congr 1
        have:off+css.length*sz=(pre++css.flatten).length:=by simp[h1,hflen]
        rw[this,List.drop_left]
       simp only[a1,a2]
       simp
     ·rw[hue]at hf ⊢
      simp[Builtin.append_,run_underlying h.is,sizeOf,typeInfo,hq,Builtin.lenOf,hroom,hinfo.1,hf,Addr.add_mid,hst]
    ·have hfd:=huf w.drew (fun k hk=>rfl)
     have hfo:(Builtin.firstCells sz css.length (.slice (some ⟨b,off,none⟩) css.length cap)).run P w.drew=.ok css.flatten.toArray w.drew:=by
      refine run_firstCells_some (P:=P) w.drew sz css.length ⟨b,off,none⟩ _ cap css.flatten (Q8 hws) (fun j x hx => ?_)
      have hbk:=h4.block
      rw[Addr.add_mid,cell_of_row w.drew b (off+j) _ E (0,0) hbk,←Array.getElem?_toList,←h1]
      have hjl:j<css.flatten.length:=(List.getElem?_eq_some_iff.1 hx).1
      simp only[List.append_assoc]
      rw[List.getElem?_append_right (by omega),Nat.add_sub_cancel_left,List.getElem?_append_left hjl,hx]
     have hg:=newOf css.flatten.toArray cap rfl (by omega)
     refine⟨_,_,?_,hg⟩
     rw[hue]at hfd ⊢
     have h48':¬(281474976710656<Builtin.nextslicecap (css.length+dss.length) cap*inf.bytes):=by
      have:=growslice_fits (need:=css.length+dss.length) (old:=cap) (bytes:=inf.bytes) (by omega) hbb;omega
     simp[Builtin.append_,run_underlying h.is,sizeOf,typeInfo,zeroValue,hq,hzz,Builtin.lenOf,hroom,h63',h48',Question.forced,hinfo.1,hfo,hfd,newRow,grownCap]
     congr 2
     apply Array.ext'
     simp
theorem JA {by_:Nat}(hs:Sat O w S)(h:SlcC P T E)(hE:ElC P E sz by_)(hx:ev l x=some v)(hy:ev l y=some u)(hp:Pull S (sl E sz css v) R)(hp':Pull R (sl E sz dss u) R')(hn:css.length+dss.length≤4294967296)(hb:by_≤32768)
  (hg:Region.wanted { dst:=some d,op:=.call { callee:=.builtin .append,args := #[x,y],argTypes := #[T,T] },type:=ty,pos,after,guard:=gd } (yielded ops l.toArray)=true)
  (kk:∀w' v',Sat O w' (sl E sz (css++dss) v'*(sl E sz dss u*R'))→wpList P ops Q rest ⟨(l.set d v').toArray,ds⟩ w') :
  wpList P ops Q ({ dst:=some d,op:=.call { callee:=.builtin .append,args := #[x,y],argTypes := #[T,T] },type:=ty,pos,after,guard:=gd }::rest) ⟨l.toArray,ds⟩ w:=by
 have hs':Sat O w (sl E sz css v*(sl E sz dss u*R')):=(hs.pull hp).cast (by rw[hp'])
 obtain⟨v',w',hr,hk⟩:=run_app (P:=P) (t:=T) (ty:=ty) h hE hs' hn hb
 refine QE (v:=v') hg ?_ (ZU▸kk w' v' hk)
 have e1:=Zm (ds:=ds) hx
 have e2:=Zm (ds:=ds) hy
 simp[execOp,resolve,e1,e2,invoke,builtin,hr]
theorem wl_bs {by_:Nat}{vs:List Value}(hs:Sat O w S)(h:SlcC P T E)(hE:ElC P E sz by_)(hx:ev l x=some u)(hc:(cel u).map (·.toList)=some vs)(h1:vs.all Value.oneCell'=true)(hl:vs.length=sz)(hsz:sz≤16777216)
  (hg:Region.wanted { dst:=some d,op:=.buildSlice T 1 #[(0,x)],type:=ty,pos,after,guard:=gd } (yielded ops l.toArray)=true)
  (kk:∀w' v',Sat O w' (sl E sz [vs] v'*S)→wpList P ops Q rest ⟨(l.set d v').toArray,ds⟩ w') :
  wpList P ops Q ({ dst:=some d,op:=.buildSlice T 1 #[(0,x)],type:=ty,pos,after,guard:=gd }::rest) ⟨l.toArray,ds⟩ w:=by
 have hinfo:=hE.info
 have hzero:=hE.zero
 have hpos:=hE.pos
 cases hq:P.info? E with
 | none=>simp[hq]at hinfo
 | some inf=>
  cases hzz:inf.zero with
  | none=>simp[hq,hzz]at hzero
  | some zv=>
   simp[hq,hzz]at hinfo hzero
   cases hcc:cel u with
   | none=>simp[hcc]at hc
   | some cs=>
    simp[hcc]at hc
    have hcu:=cel_cells hcc
    have e1:=Zm (ds:=ds) hx
    have hcsz:cs.size=sz:=by rw[←hl,←hc];simp
    refine QE (v:=.slice (some ⟨w.heap.size,0,none⟩) 1 1) (w':=w.alloc (.cells cs E)) hg ?_ (ZU▸kk _ _ ?_)
    ·have hne:¬sz=0:=by omega
     have hle:¬2 ^ 24<sz:=by omega
     have hfold:∀(A:Array Value),A.size=sz→Array.foldl (fun c x=>c.setIfInBounds x.2 x.1) A cs.zipIdx 0 sz=cs:=by
      intro A hA
      have hzz':sz=cs.zipIdx.size:=by simp[hcsz]
      conv=>lhs;rw[hzz']
      have key:∀(vs:List Value) (n:Nat) (B:Array Value),n+vs.length≤B.size→((vs.zipIdx n).foldl (fun c x=>c.setIfInBounds x.2 x.1) B).toList=B.toList.take n++vs++B.toList.drop (n+vs.length):=by
       intro vs
       induction vs with
       | nil=>intro n B _;simp
       | cons a r ih=>
        intro n B hB
        simp only[List.length_cons]at hB
        simp only[List.zipIdx_cons,List.foldl_cons]
        rw[ih (n+1) _ (by simp;omega)]
        simp only[Array.toList_setIfInBounds,List.length_cons]
        rw[List.take_set,List.drop_set_of_lt (by omega)]
        have hn:n<(B.toList.take (n+1)).length:=by simp;omega
        rw[List.set_eq_take_append_cons_drop,if_pos hn]
        simp[List.take_take,Nat.add_comm,Nat.add_left_comm]
      apply Array.ext'
      have:=key cs.toList 0 A (by simp[hcsz,hA])
      rw[←Array.foldl_toList,Array.toList_zipIdx,this]
      simp[hcsz,hA]
     simp[execOp,e1,Instr.buildSlice,run_underlying h.is,sizeOf,typeInfo,hq,hinfo.1,hne,hle,zeroValue,hzz,Instr.fill,hcu,hcsz,newRow,hfold (Array.map (fun x=>zv.cells[x%zv.cells.size]!) (Array.range sz)) (by simp)]
    ·refine QL.2 ⟨⟨fun c hc'=>by rw[List.mem_singleton.1 hc'];exact⟨hl,h1⟩,hpos⟩,.inr ⟨w.heap.size,0,1,[],[],rfl,rfl,by simp,by simp,?_⟩⟩
     refine(hs.alloc (.cells cs E)).cast ?_
     congr 3
     apply Array.ext'
     simp[hc]
def resH (v:Value)(h:Nat):Value:=match v with
 | .slice a _ c=>.slice a h c
 | v=>v
def resL (sz:Nat)(v:Value)(l:Nat):Value:=match v with
 | .slice a n c=>.slice (if c=l then a else a.map (·.add (l*sz))) (n-l) (c-l)
 | v=>v
theorem resH_one {v:Value}(hv:v.oneCell'=true)(h:Nat):(resH v h).oneCell'=true:=by
 unfold resH;split<;>first|rfl|exact hv
theorem resL_one {v:Value}(hv:v.oneCell'=true)(sz h:Nat):(resL sz v h).oneCell'=true:=by
 unfold resL;split<;>first|rfl|exact hv
theorem wl_reH {kd:IntKind}{zz:Int}{by_:Nat}(hs:Sat O w S)(h:SlcC P T E)(hE:ElC P E sz by_)(hx:ev l x=some v)(hy:ev l y=some (.int kd zz))(hp:Pull S (sl E sz css v) R)(hz:zz=(i:Int))(hi:i≤css.length)
  (hg:Region.wanted { dst:=some d,op:=.slice T x none (some y) none,type:=ty,pos,after,guard:=gd } (yielded ops l.toArray)=true)
  (kk:wpList P ops Q rest ⟨(l.set d (resH v i)).toArray,ds⟩ w) :
  wpList P ops Q ({ dst:=some d,op:=.slice T x none (some y) none,type:=ty,pos,after,guard:=gd }::rest) ⟨l.toArray,ds⟩ w:=by
 refine QE (v:=resH v i) hg ?_ (ZU▸kk)
 have h2:zz.toNat=i:=by omega
 obtain⟨_,h1|⟨b,off,cap,pre,post,hv,g1,g2,g3,g4⟩⟩:=QL.1 (hs.pull hp)
 ·obtain⟨hv,hc,_⟩:=h1
  subst hv;subst hc
  have hi0:i=0:=by simpa using hi
  have hz0:zz=0:=by omega
  subst hi0;subst hz0
  simp[execOp,Zm hx,Zm hy,Instr.sliceAt,Instr.slice,Instr.sliceBounds,Instr.sliceBound,asIntOf,run_underlying h.is,Qu hE.size,resH]
 ·subst hv
  have h1:(0:Int)≤zz∧zz≤(cap:Int):=by omega
  simp[execOp,Zm hx,Zm hy,Instr.sliceAt,Instr.slice,Instr.sliceBounds,Instr.sliceBound,asIntOf,run_underlying h.is,Qu hE.size,resH,h1,h2,Addr.add]
theorem wl_reL {kd:IntKind}{zz:Int}{by_:Nat}(hs:Sat O w S)(h:SlcC P T E)(hE:ElC P E sz by_)(hx:ev l x=some v)(hy:ev l y=some (.int kd zz))(hp:Pull S (sl E sz css v) R)(hz:zz=(i:Int))(hi:i≤css.length)
  (hg:Region.wanted { dst:=some d,op:=.slice T x (some y) none none,type:=ty,pos,after,guard:=gd } (yielded ops l.toArray)=true)
  (kk:wpList P ops Q rest ⟨(l.set d (resL sz v i)).toArray,ds⟩ w) :
  wpList P ops Q ({ dst:=some d,op:=.slice T x (some y) none none,type:=ty,pos,after,guard:=gd }::rest) ⟨l.toArray,ds⟩ w:=by
 refine QE (v:=resL sz v i) hg ?_ (ZU▸kk)
 have h2:zz.toNat=i:=by omega
 obtain⟨n,a,cap,hv,hn,hc⟩:∃(n:Nat) (a:Option Addr) (cap:Nat),v=.slice a n cap∧i≤n∧n≤cap:=by
  obtain⟨_,h1|⟨b,off,cap,pre,post,hv,g1,g2,g3,g4⟩⟩:=QL.1 (hs.pull hp)
  ·obtain⟨hv,hc,_⟩:=h1
   subst hc
   exact⟨0,none,0,hv,by simpa using hi,Nat.le_refl _⟩
  ·exact⟨_,_,_,hv,hi,g2⟩
 subst hv
 have h1:(0:Int)≤zz∧zz≤(n:Int):=by omega
 simp[execOp,Zm hx,Zm hy,Instr.sliceAt,Instr.slice,Instr.sliceBounds,Instr.sliceBound,asIntOf,run_underlying h.is,Qu hE.size,resL,h1,h2]
theorem sl_takeH {h:Nat}(hs:Sat O w (sl E sz css v*R))(hh:h≤css.length):Sat O w (sl E sz (css.take h) (resH v h)*R):=by
 obtain⟨hw,h1|⟨b,off,cap,pre,post,hv,g1,g2,g3,g4⟩⟩:=QL.1 hs
 ·obtain⟨hv,hc,hR⟩:=h1
  subst hv;subst hc
  have:h=0:=by simpa using hh
  subst this
  exact QL.2 ⟨hw,.inl ⟨rfl,rfl,hR⟩⟩
 ·subst hv
  have hw':SlOk sz (css.take h):=⟨fun c hc=>hw.wf c (List.mem_of_mem_take hc),hw.pos⟩
  have hsp:css.flatten=(css.take h).flatten++(css.drop h).flatten:=by rw[←List.flatten_append,List.take_append_drop]
  have hw2:SlOk sz (css.drop h):=⟨fun c hc=>hw.wf c (List.mem_of_mem_drop hc),hw.pos⟩
  refine QL.2 ⟨hw',.inr ⟨b,off,cap,pre,(css.drop h).flatten++post,?_,g1,?_,?_,?_⟩⟩
  ·simp[resH,hh]
  ·simp;omega
  ·rw[List.length_append,Q8 hw2]
   simp only[List.length_take,List.length_drop,Nat.min_eq_left hh]
   have:h*sz+(css.length-h)*sz=css.length*sz:=by rw[←Nat.add_mul];congr 1;omega
   omega
  ·refine g4.cast ?_
   rw[hsp];simp
theorem sl_dropL {h:Nat}(hs:Sat O w (sl E sz css v*R))(hh:h≤css.length):Sat O w (sl E sz (css.drop h) (resL sz v h)*R):=by
 obtain⟨hw,h1|⟨b,off,cap,pre,post,hv,g1,g2,g3,g4⟩⟩:=QL.1 hs
 ·obtain⟨hv,hc,hR⟩:=h1
  subst hv;subst hc
  have:h=0:=by simpa using hh
  subst this
  exact QL.2 ⟨hw,.inl ⟨rfl,rfl,hR⟩⟩
 ·subst hv
  have hw':SlOk sz (css.take h):=⟨fun c hc=>hw.wf c (List.mem_of_mem_take hc),hw.pos⟩
  have hsp:css.flatten=(css.take h).flatten++(css.drop h).flatten:=by rw[←List.flatten_append,List.take_append_drop]
  have hw2:SlOk sz (css.drop h):=⟨fun c hc=>hw.wf c (List.mem_of_mem_drop hc),hw.pos⟩
  have e1:h*sz+(css.length-h)*sz=css.length*sz:=by rw[←Nat.add_mul];congr 1;omega
  have e2:h*sz+(cap-h)*sz=cap*sz:=by rw[←Nat.add_mul];congr 1;omega
  have e3:(css.take h).flatten.length=h*sz:=by rw[Q8 hw'];simp[Nat.min_eq_left hh]
  by_cases hc:cap=h
  ·have hcl:css.length=h:=by omega
   refine QL.2 ⟨hw2,.inr ⟨b,off,0,pre,css.flatten++post,?_,g1,?_,?_,?_⟩⟩
   ·simp[resL,hc,hcl]
   ·simp;omega
   ·simp
   ·refine g4.cast ?_
    have:css.drop h=[]:=List.drop_eq_nil_of_le (by omega)
    rw[this];simp
  ·refine QL.2 ⟨hw2,.inr ⟨b,off+h*sz,cap-h,pre++(css.take h).flatten,post,?_,?_,?_,?_,?_⟩⟩
   ·simp[resL,hc,Addr.add_mid]
   ·simp[g1,e3]
   ·simp;omega
   ·simp only[List.length_drop];omega
   ·refine g4.cast ?_
    rw[hsp];simp
end
/-! ### Getting elements; frames -/
theorem Ze {α β:Type}{f:α→β}{xs:List α}{i:Nat}{c:α}(h:xs[i]? = some c):(xs.map f)[i]? = some (f c):=by simp[h]
theorem Qp {α:Type}{xs:List α}{i:Nat}{c d:α}(h:xs[i]? = some c):(xs.set i d)[i]? = some d:=by
 obtain⟨h1,_⟩:=List.getElem?_eq_some_iff.1 h
 simp[h1]
theorem Sat.fin {O w:World}{S T R:Zc}(hs:Sat O w S)(h:Pull S T R):Sat O w T:=(hs.pull h).left
/-! ### Results that lie in memory -/
section
variable {P:Program}{O w:World}{S R:Zc}{fn:Func}{tmps:Array Value}{t t' u u' b b':Nat}{ty ty' E E':TypeId}{fr fr':Nat×Nat}{cs cs':Array Value}{n n':Nat}{v v':Value}
theorem loadF (hs:Sat O w S)(hA:AggC P ty n)(hp:Pull S (pt b (.cells cs E fr)) R)(hn:cs.size=n):(loadVar ty ⟨b,0,none⟩).run P w=.ok (.agg cs) w:=by
 have:=run_loadVar_agg (P:=P) (T:=ty) (n:=n) (off:=0) (hs.pull hp).block (by omega)
 rw[this]
 congr 2
 subst hn;simp
theorem results_c (h:fn.results = #[.cell t ty])(ht:tmps.getD t undef=.pointer (some ⟨b,0,none⟩))(hv:(loadVar ty ⟨b,0,none⟩).run P w=.ok v w):(results fn tmps).run P w=.ok v w:=by
 have ht':tmps[t]?.getD undef=.pointer (some ⟨b,0,none⟩):=by simpa using ht
 simp[results,h,ht',asAddr,hv]
theorem results_ct (h:fn.results = #[.cell t ty,.tmp u])(ht:tmps.getD t undef=.pointer (some ⟨b,0,none⟩))(hv:(loadVar ty ⟨b,0,none⟩).run P w=.ok v w):(results fn tmps).run P w=.ok (.tuple #[v,tmps.getD u undef]) w:=by
 have ht':tmps[t]?.getD undef=.pointer (some ⟨b,0,none⟩):=by simpa using ht
 simp[results,h,ht',asAddr,hv]
end
/-! ### Slices of slices -/
def Jd (E:TypeId):List (List Int)→List Value→Zc
 | x::xs,v::vs=>sl E 1 (x.map fun z=>[.int .i64 z]) v*Jd E xs vs
 | _,_=>emp
theorem stars_at {E:TypeId}:∀ {xss:List (List Int)} {vs:List Value} {i:Nat} {x:List Int} {v:Value},xss[i]? = some x→vs[i]? = some v→Jd E xss vs=sl E 1 (x.map fun z=>[.int .i64 z]) v*Jd E (xss.eraseIdx i) (vs.eraseIdx i)
 | [],_,_,_,_,h,_=>by simp at h
 | _::_,[],_,_,_,_,h=>by simp at h
 | y::ys,u::us,0,x,v,h1,h2=>by simp at h1 h2;subst h1;subst h2;rfl
 | y::ys,u::us,i+1,x,v,h1,h2=>by
  simp only[Ue]at h1 h2
  simp only[Jd,List.eraseIdx_cons_succ]
  rw[stars_at h1 h2,QN]
def nest (E1 E0:TypeId)(xss:List (List Int))(v:Value):Zc:=ex fun vs=>pu (vs.length=xss.length)*(sl E1 1 (vs.map fun u=>[u]) v*Jd E0 xss vs)
section
variable {O w:World}{R:Zc}{E1 E0:TypeId}{xss:List (List Int)}{v:Value}{i:Nat}{x:List Int}
theorem nest_iff:Sat O w (nest E1 E0 xss v*R)↔∃vs:List Value,vs.length=xss.length∧Sat O w (sl E1 1 (vs.map fun u=>[u]) v*(Jd E0 xss vs*R)):=by
 unfold nest
 simp only[ZG,Ma,Zz]
theorem nest_at (hs:Sat O w (nest E1 E0 xss v*R))(hi:xss[i]? = some x):∃(vs:List Value) (u:Value),vs.length=xss.length∧vs[i]? = some u∧Sat O w (sl E1 1 (vs.map fun u=>[u]) v*(sl E0 1 (x.map fun z=>[.int .i64 z]) u*(Jd E0 (xss.eraseIdx i) (vs.eraseIdx i)*R))):=by
 obtain⟨vs,hl,hs⟩:=nest_iff.1 hs
 have hlt:i<vs.length:=by rw[hl];exact(List.getElem?_eq_some_iff.1 hi).1
 refine⟨vs,vs[i],hl,by simp,?_⟩
 rw[stars_at hi (show vs[i]? = some vs[i] by simp),Ma]at hs
 exact hs
theorem nest_mk {vs:List Value}{u:Value}(hl:vs.length=xss.length)(hi:i<xss.length)(hs:Sat O w (sl E1 1 ((vs.set i u).map fun u=>[u]) v*(sl E0 1 (x.map fun z=>[.int .i64 z]) u*(Jd E0 (xss.eraseIdx i) (vs.eraseIdx i)*R)))):Sat O w (nest E1 E0 (xss.set i x) v*R):=by
 refine nest_iff.2 ⟨vs.set i u,by simp[hl],?_⟩
 rw[stars_at (xss:=xss.set i x) (vs:=vs.set i u) (i:=i) (x:=x) (v:=u) (by simp[hi]) (by simp[hl,hi]),Ma,List.eraseIdx_set_eq,List.eraseIdx_set_eq]
 exact hs
theorem nest_back {vs:List Value}{u:Value}(hl:vs.length=xss.length)(hi:xss[i]? = some x)(hu:vs[i]? = some u)(hs:Sat O w (sl E1 1 (vs.map fun u=>[u]) v*(sl E0 1 (x.map fun z=>[.int .i64 z]) u*(Jd E0 (xss.eraseIdx i) (vs.eraseIdx i)*R)))):Sat O w (nest E1 E0 xss v*R):=by
 refine nest_iff.2 ⟨vs,hl,?_⟩
 rw[stars_at hi hu,Ma]
 exact hs
end
attribute [irreducible] sl nest
end Hp
end Go.Proofs.YtefjbdajgakgpaaGreat
