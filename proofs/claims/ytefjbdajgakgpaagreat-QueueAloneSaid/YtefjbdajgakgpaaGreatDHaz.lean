import Derived.MapKept
import Derived.Carry
import Derived.ScopeJumps
import Derived.Test.YtefjbdajgakgpaaGreatDParts5
set_option linter.all false
namespace Go.Proofs.YtefjbdajgakgpaaGreat
section
open Go.RowKit
namespace Hp
class MapC (P:Program) (T:TypeId) (kt:outParam TypeId) (et:outParam TypeId) (K:outParam IntKind) (z:outParam Value):Prop where
 is:P.underlying T=some (.map kt et)
 key:P.underlying kt=some (.int K)
 zero:((P.info? et).bind (·.zero))=some z
structure Ents (K:IntKind)(es:List MapEntry)(f:Int→Option Value):Prop where
 keys:∀e∈es,∃k,e.key=.int K k
 nodup:(es.map (·.key)).Nodup
 iff:∀k v,f k=some v↔∃e∈es,e.key=.int K k∧e.val=v
def Stm (es:List MapEntry)(clock:Nat):Prop:=(es.map (·.born)).Nodup∧∀e∈es,e.born<clock
def mp (K:IntKind)(f:Int→Option Value)(v:Value):Zc:=
 ⟨fun h=>∃r es clock,v=.map (some r)∧Ents K es.toList f∧Stm es.toList clock∧(pt r (.map es clock)).on h⟩
section
variable {P:Program}{O w w':World}{R S:Zc}{K:IntKind}{f:Int→Option Value}{v:Value}{T kt et:TypeId}{z:Value}
theorem sat_mp:Sat O w (mp K f v*R)↔∃r es clock,v=.map (some r)∧Ents K es.toList f∧Stm es.toList clock∧Sat O w (pt r (.map es clock)*R):=by
 constructor
 ·rintro⟨h1,h2,h3,h4,x,hxx,hh⟩
  obtain⟨a,c,d,e,⟨r,es,clock,hv,hE,hM,hx⟩,y⟩:=(mul_on _ _ _).1 hxx
  exact⟨r,es,clock,hv,hE,hM,h1,h2,h3,h4,x,(mul_on _ _ _).2 ⟨a,c,d,e,hx,y⟩,hh⟩
 ·rintro⟨r,es,clock,hv,hE,hM,h1,h2,h3,h4,x,hxx,hh⟩
  obtain⟨a,c,d,e,hx,y⟩:=(mul_on _ _ _).1 hxx
  exact⟨h1,h2,h3,h4,x,(mul_on _ _ _).2 ⟨a,c,d,e,⟨r,es,clock,hv,hE,hM,hx⟩,y⟩,hh⟩
theorem mp_some (hs:Sat O w (mp K f v*R)):∃r,v=.map (some r):=by
 obtain⟨r,es,clock,hv,_⟩:=sat_mp.1 hs
 exact⟨r,hv⟩
theorem ents_isKey {es:List MapEntry}(h:Ents K es f):∀x∈es,MapKept.IsKey (.int K) x.key:=by
 intro x hx
 obtain⟨k,e⟩:=h.keys x hx
 rw[e];simp[MapKept.IsKey]
theorem ents_none {es:List MapEntry}(h:Ents K es f){k:Int}(hn:∀x∈es,x.key≠.int K k):f k=none:=by
 cases hf:f k with
 | none=>rfl
 | some u=>
  obtain⟨e,he,hk,_⟩:=(h.iff k u).1 hf
  exact absurd hk (hn e he)
theorem ents_some {es:List MapEntry}(h:Ents K es f){k:Int}{e:MapEntry}(he:e∈es)(hk:e.key=.int K k):f k=some e.val:=(h.iff k e.val).2 ⟨e,he,hk,rfl⟩
theorem ents_nil:Ents K [] (fun _=>none):=⟨by simp,by simp,by simp⟩
theorem ents_push {es:List MapEntry}(h:Ents K es f){k:Int}(hn:∀x∈es,x.key≠.int K k)(u:Value)(b:Nat):Ents K (es++[⟨.int K k,u,b⟩]) (fun x=>if x=k then some u else f x):=by
 refine⟨?_,?_,?_⟩
 ·intro e he
  rcases List.mem_append.1 he with he|he
  ·exact h.keys e he
  ·rw[List.mem_singleton.1 he];exact⟨k,rfl⟩
 ·rw[Yh,List.nodup_append]
  refine⟨h.nodup,by simp,?_⟩
  intro a ha b hb
  obtain⟨e,he,rfl⟩:=List.mem_map.1 ha
  simp only[Yi,Yj,List.mem_singleton]at hb
  subst hb
  exact hn e he
 ·intro x y
  by_cases hx:x=k
  ·subst hx
   simp only[if_true]
   constructor
   ·intro e;injection e with e;subst e
    exact⟨⟨.int K x,u,b⟩,by simp,rfl,rfl⟩
   ·rintro⟨e,he,hk,rfl⟩
    rcases List.mem_append.1 he with he|he
    ·exact absurd hk (hn e he)
    ·rw[List.mem_singleton.1 he]
  ·simp only[if_neg hx,h.iff]
   constructor
   ·rintro⟨e,he,hk,hv⟩;exact⟨e,by simp[he],hk,hv⟩
   ·rintro⟨e,he,hk,hv⟩
    rcases List.mem_append.1 he with he|he
    ·exact⟨e,he,hk,hv⟩
    ·rw[List.mem_singleton.1 he]at hk;injection hk with _ hk;exact absurd hk.symm hx
theorem ents_set {es:List MapEntry}(h:Ents K es f){k:Int}{j:Nat}{e:MapEntry}(hj:es[j]? = some e)(hk:e.key=.int K k)(u:Value):Ents K (es.set j { e with key:=.int K k,val:=u }) (fun x=>if x=k then some u else f x):=by
 have hmap:(es.set j { e with key:=.int K k,val:=u }).map (·.key)=es.map (·.key):=by
  rw[Yk]
  apply List.ext_getElem?
  intro i
  rw[List.getElem?_set]
  split
  ·rename_i hij
   subst hij
   have hlt:j<es.length:=(List.getElem?_eq_some_iff.1 hj).1
   simp[hlt,←hk]
   rw[Yd hlt]at hj
   injection hj with hj
   rw[hj]
  ·rfl
 have hlt:j<es.length:=(List.getElem?_eq_some_iff.1 hj).1
 have hget:es[j]=e:=by rw[Yd hlt]at hj;injection hj
 refine⟨?_,by rw[hmap];exact h.nodup,?_⟩
 ·intro x hx
  rcases List.mem_or_eq_of_mem_set hx with hx|rfl
  ·exact h.keys x hx
  ·exact⟨k,rfl⟩
 ·intro x y
  by_cases hx:x=k
  ·subst hx
   simp only[if_true]
   constructor
   ·intro q;injection q with q;subst q
    exact⟨{ e with key:=.int K x,val:=u },List.mem_set hlt _,rfl,rfl⟩
   ·rintro⟨e',he',hk',rfl⟩
    obtain⟨i,hi,rfl⟩:=List.getElem_of_mem he'
    have hi':i<es.length:=by simpa using hi
    rw[List.getElem_set]at hk' ⊢
    split at hk'
    ·rw[if_pos (by assumption)]
    ·rename_i hne
     exfalso
     have hn:=h.nodup
     rw[List.nodup_iff_pairwise_ne,List.pairwise_iff_getElem]at hn
     have e1:(es.map (·.key))[i]'(by simpa using hi')=.int K x:=by simpa using hk'
     have e2:(es.map (·.key))[j]'(by simpa using hlt)=.int K x:=by simp[hget,hk]
     rcases Nat.lt_or_gt_of_ne hne with q|q
     ·exact hn j i (by simpa using hlt) (by simpa using hi') q (by rw[e1,e2])
     ·exact hn i j (by simpa using hi') (by simpa using hlt) q (by rw[e1,e2])
  ·simp only[if_neg hx,h.iff]
   constructor
   ·rintro⟨e',he',hk',hv⟩
    obtain⟨i,hi,rfl⟩:=List.getElem_of_mem he'
    have hne:j≠i:=by
     rintro rfl
     rw[hget,hk]at hk';injection hk' with _ q;exact hx q.symm
    refine⟨es[i],?_,hk',hv⟩
    have:=List.getElem_mem (l:=es.set j { e with key:=.int K k,val:=u }) (n:=i) (by simpa using hi)
    rwa [List.getElem_set_ne hne]at this
   ·rintro⟨e',he',hk',hv⟩
    rcases List.mem_or_eq_of_mem_set he' with he'|rfl
    ·exact⟨e',he',hk',hv⟩
    ·injection hk' with _ q;exact absurd q.symm hx
theorem ents_del {es:List MapEntry}(h:Ents K es f){k:Int}{j:Nat}{e:MapEntry}(hj:es[j]? = some e)(hk:e.key=.int K k):Ents K (es.eraseIdx j) (fun x=>if x=k then none else f x):=by
 have hlt:j<es.length:=(List.getElem?_eq_some_iff.1 hj).1
 have hget:es[j]=e:=by rw[Yd hlt]at hj;injection hj
 have hsub:=List.eraseIdx_sublist es j
 have hn:=h.nodup
 rw[List.nodup_iff_pairwise_ne,List.pairwise_iff_getElem]at hn
 refine⟨fun x hx=>h.keys x (hsub.subset hx),(hsub.map _).nodup h.nodup,?_⟩
 intro x y
 by_cases hx:x=k
 ·subst hx
  simp only[if_true]
  constructor
  ·intro q;cases q
  ·rintro⟨e',he',hk',rfl⟩
   exfalso
   obtain⟨i,hi,hie⟩:=List.mem_eraseIdx_iff_getElem.1 he'
   obtain⟨hij,hie⟩:=hie
   have e1:(es.map (·.key))[i]'(by simpa using hi)=.int K x:=by simp[hie,hk']
   have e2:(es.map (·.key))[j]'(by simpa using hlt)=.int K x:=by simp[hget,hk]
   rcases Nat.lt_or_gt_of_ne hij with q|q
   ·exact hn i j (by simpa using hi) (by simpa using hlt) q (by rw[e1,e2])
   ·exact hn j i (by simpa using hlt) (by simpa using hi) q (by rw[e1,e2])
 ·simp only[if_neg hx,h.iff]
  constructor
  ·rintro⟨e',he',hk',hv⟩
   obtain⟨i,hi,rfl⟩:=List.getElem_of_mem he'
   have hne:i≠j:=by
    rintro rfl
    rw[hget,hk]at hk';injection hk' with _ q;exact hx q.symm
   exact⟨es[i],List.mem_eraseIdx_iff_getElem.2 ⟨i,hi,hne,rfl⟩,hk',hv⟩
  ·rintro⟨e',he',hk',hv⟩
   exact⟨e',hsub.subset he',hk',hv⟩
theorem stm_push {es:List MapEntry}{clock:Nat}(h:Stm es clock)(k u:Value):Stm (es++[⟨k,u,clock⟩]) (clock+1):=by
 refine⟨?_,?_⟩
 ·rw[Yh,List.nodup_append]
  refine⟨h.1,by simp,?_⟩
  intro a ha b hb
  obtain⟨e,he,rfl⟩:=List.mem_map.1 ha
  simp only[Yi,Yj,List.mem_singleton]at hb
  have:=h.2 e he
  omega
 ·intro e he
  rcases List.mem_append.1 he with he|he
  ·have:=h.2 e he
   omega
  ·rw[List.mem_singleton.1 he]
   show clock<clock+1
   omega
theorem stm_set {es:List MapEntry}{clock:Nat}(h:Stm es clock){j:Nat}{e:MapEntry}(hj:es[j]? = some e)(k u:Value):Stm (es.set j { e with key:=k,val:=u }) clock:=by
 have hmap:(es.set j { e with key:=k,val:=u }).map (·.born)=es.map (·.born):=by
  rw[Yk]
  have hg:(es.map (·.born))[j]? = some e.born:=by rw[Ym,hj];rfl
  obtain⟨h1,h2⟩:=List.getElem?_eq_some_iff.1 hg
  show(es.map (·.born)).set j e.born=_
  rw[←h2]
  exact List.set_getElem_self h1
 refine⟨by rw[hmap];exact h.1,fun x hx => ?_⟩
 rcases List.mem_or_eq_of_mem_set hx with hx|rfl
 ·exact h.2 x hx
 ·exact h.2 e (Yc hj)
theorem stm_del {es:List MapEntry}{clock:Nat}(h:Stm es clock)(j:Nat):Stm (es.eraseIdx j) clock:=
 ⟨((List.eraseIdx_sublist es j).map _).nodup h.1,fun x hx=>h.2 x ((List.eraseIdx_sublist es j).subset hx)⟩
theorem run_zero (hz:((P.info? et).bind (·.zero))=some z):(zeroValue et).run P w=.ok z w:=by
 cases hi:P.info? et with
 | none=>simp[hi]at hz
 | some i=>
  simp[hi]at hz
  simp[zeroValue,typeInfo,hi,hz]
theorem run_mp_lookup (h:MapC P T kt et K z)(hs:Sat O w (mp K f v*R))(k:Int):(Instr.lookup T v (.int K k) false).run P w=.ok ((f k).getD z) w:=by
 obtain⟨r,es,clock,rfl,hE,hM,hs⟩:=sat_mp.1 hs
 have hb:=hs.block
 have hik:MapKept.IsKey (.int K) (.int K k):=by simp[MapKept.IsKey]
 rcases MapKept.findNow_spec hik es.toList 0 (ents_isKey hE) with⟨h1,h2⟩|⟨j,e,h1,h2,h3⟩
 ·rw[ents_none hE h2]
  simp[Instr.lookup,run_underlying h.is,MapKept.run_getObj_map hb,MapKept.run_checkKey h.key hik,MapKept.run_findKey h.key h1,run_zero h.zero,Result.andThen]
 ·rw[ents_some hE (Yc h2) h3]
  simp[Instr.lookup,run_underlying h.is,MapKept.run_getObj_map hb,MapKept.run_checkKey h.key hik,MapKept.run_findKey h.key h1,Result.andThen]
theorem sat_setMap {r:Nat}{es es':Array MapEntry}{clock clock':Nat}(hs:Sat O w (pt r (.map es clock)*R)):Sat O { w with heap:=w.heap.setIfInBounds r (.map es' clock') } (pt r (.map es' clock')*R):=by
 have hb:=hs.block
 exact hs.turn rfl rfl rfl (by simp) (MapKept.heap_set hb).1 (fun k hk _=>(MapKept.heap_set hb).2 k hk)
theorem run_mp_update (h:MapC P T kt et K z)(hs:Sat O w (mp K f v*R))(k:Int)(u:Value):∃w',(Instr.mapUpdate T v (.int K k) u).run P w=.ok () w'∧Sat O w' (mp K (fun x=>if x=k then some u else f x) v*R):=by
 obtain⟨r,es,clock,rfl,hE,hM,hs⟩:=sat_mp.1 hs
 have hb:=hs.block
 have hik:MapKept.IsKey (.int K) (.int K k):=by simp[MapKept.IsKey]
 rcases MapKept.findNow_spec hik es.toList 0 (ents_isKey hE) with⟨h1,h2⟩|⟨j,e,h1,h2,h3⟩
 ·refine⟨_,by simp[Instr.mapUpdate,run_underlying h.is,MapKept.run_getObj_map hb,MapKept.run_checkKey h.key hik,MapKept.run_findKey h.key h1,MapKept.run_setObj_map _ hb,Result.andThen];rfl,?_⟩
  refine sat_mp.2 ⟨r,_,_,rfl,?_,?_,sat_setMap hs⟩
  ·rw[Array.toList_push]
   exact ents_push hE h2 u clock
  ·rw[Array.toList_push]
   exact stm_push hM _ _
 ·have hj:es[j]? = some e:=by simpa using h2
  refine⟨_,by simp[Instr.mapUpdate,run_underlying h.is,MapKept.run_getObj_map hb,MapKept.run_checkKey h.key hik,MapKept.run_findKey h.key h1,hj,h3,MapKept.run_keyThatStays hik,MapKept.run_setObj_map _ hb,Result.andThen];rfl,?_⟩
  have e2:es.toList.modify j (fun e=>{ e with key:=.int K k,val:=u })=es.toList.set j { e with key:=.int K k,val:=u }:=by
   apply List.ext_getElem?
   intro i
   rw[List.getElem?_modify,List.getElem?_set]
   by_cases hij:j=i
   ·subst hij
    have hlt:j<es.toList.length:=(List.getElem?_eq_some_iff.1 h2).1
    rw[if_pos rfl,if_pos hlt,h2];simp
   ·rw[if_neg hij];simp[hij]
  refine sat_mp.2 ⟨r,_,_,rfl,?_,?_,sat_setMap hs⟩
  ·rw[Array.toList_modify,e2]
   exact ents_set hE h2 h3 u
  ·rw[Array.toList_modify,e2]
   exact stm_set hM h2 _ _
theorem run_mp_delete {ty:TypeId}(h:MapC P T kt et K z)(hs:Sat O w (mp K f v*R))(k:Int):∃w',(Builtin.delete_ #[T,kt] ty #[v,.int K k]).run P w=.ok (.tuple #[]) w'∧Sat O w' (mp K (fun x=>if x=k then none else f x) v*R):=by
 obtain⟨r,es,clock,rfl,hE,hM,hs⟩:=sat_mp.1 hs
 have hb:=hs.block
 have hik:MapKept.IsKey (.int K) (.int K k):=by simp[MapKept.IsKey]
 rcases MapKept.findNow_spec hik es.toList 0 (ents_isKey hE) with⟨h1,h2⟩|⟨j,e,h1,h2,h3⟩
 ·refine⟨_,by simp[Builtin.delete_,run_underlying h.is,MapKept.run_getObj_map hb,MapKept.run_checkKey h.key hik,MapKept.run_findKey h.key h1,MapKept.run_setObj_map _ hb,Result.andThen];rfl,?_⟩
  refine sat_mp.2 ⟨r,_,_,rfl,?_,hM,sat_setMap hs⟩
  have e1:(fun x=>if x=k then none else f x)=f:=by
   funext x;split
   ·rename_i q;subst q;rw[ents_none hE h2]
   ·rfl
  rw[e1];exact hE
 ·have hj:es[j]? = some e:=by simpa using h2
  have hlt:j<es.size:=(Array.getElem?_eq_some_iff.1 hj).1
  refine⟨_,by simp[Builtin.delete_,run_underlying h.is,MapKept.run_getObj_map hb,MapKept.run_checkKey h.key hik,MapKept.run_findKey h.key h1,MapKept.run_setObj_map _ hb,Result.andThen];rfl,?_⟩
  have e1:(es.eraseIdxIfInBounds j).toList=es.toList.eraseIdx j:=by
   unfold Array.eraseIdxIfInBounds
   rw[dif_pos hlt];simp
  refine sat_mp.2 ⟨r,_,_,rfl,?_,?_,sat_setMap hs⟩
  all_goals rw[e1]
  ·exact ents_del hE h2 h3
  ·exact stm_del hM _
end
section
variable {P:Program}{ops:Array Oper}{Q:Exit→Act→World→Prop}{w:World}{rest:List Oper}{O:World}{S R:Zc}
variable {l:List Value}{ds:List Deferred}{T ty kt et:TypeId}{pos:String}{after:Array Edge}{gd:Option (Nat×Bool)}{d:Nat}{x y z:Operand}{K:IntKind}{f:Int→Option Value}{u v zv:Value}{k:Int}
theorem wl_mkmap (hs:Sat O w S)(hM:MapC P T kt et K zv)(hg:Region.wanted { dst:=some d,op:=.makeMap T none,type:=ty,pos,after,guard:=gd } (yielded ops l.toArray)=true)
  (kk:∀w' r,Sat O w' (mp K (fun _=>none) (.map (some r))*S)→wpList P ops Q rest ⟨(l.set d (.map (some r))).toArray,ds⟩ w') :
  wpList P ops Q ({ dst:=some d,op:=.makeMap T none,type:=ty,pos,after,guard:=gd }::rest) ⟨l.toArray,ds⟩ w:=by
 refine QE (v:=.map (some w.heap.size)) hg ?_ (ZU▸kk _ _ (sat_mp.2 ⟨_,#[],0,rfl,by simpa using ents_nil,⟨by simp,by simp⟩,hs.alloc _⟩))
 simp[execOp,run_makeMap]
theorem wl_lk (hs:Sat O w S)(hM:MapC P T kt et K zv)(hx:ev l x=some v)(hy:ev l y=some (.int K k))(hp:Pull S (mp K f v) R)(hu:(f k).getD zv=u)
  (hg:Region.wanted { dst:=some d,op:=.lookup T x y false,type:=ty,pos,after,guard:=gd } (yielded ops l.toArray)=true)
  (kk:wpList P ops Q rest ⟨(l.set d u).toArray,ds⟩ w) :
  wpList P ops Q ({ dst:=some d,op:=.lookup T x y false,type:=ty,pos,after,guard:=gd }::rest) ⟨l.toArray,ds⟩ w:=by
 refine QE (v:=u) hg ?_ (ZU▸kk)
 have:=run_mp_lookup hM (hs.pull hp) k
 rw[hu]at this
 simp[execOp,Zm hx,Zm hy,this]
theorem wl_mu (hs:Sat O w S)(hM:MapC P T kt et K zv)(hx:ev l x=some v)(hy:ev l y=some (.int K k))(hz:ev l z=some u)(hp:Pull S (mp K f v) R)
  (hg:Region.wanted { dst:=none,op:=.mapUpdate T x y z,type:=ty,pos,after,guard:=gd } (yielded ops l.toArray)=true)
  (kk:∀w',Sat O w' (mp K (fun x=>if x=k then some u else f x) v*R)→wpList P ops Q rest ⟨l.toArray,ds⟩ w') :
  wpList P ops Q ({ dst:=none,op:=.mapUpdate T x y z,type:=ty,pos,after,guard:=gd }::rest) ⟨l.toArray,ds⟩ w:=by
 obtain⟨w',hr,hs'⟩:=run_mp_update hM (hs.pull hp) k u
 refine wl_skip hg ?_ (kk _ hs')
 simp[execOp,Zm hx,Zm hy,Zm hz,hr]
theorem wl_mi (hs:Sat O w S)(hM:MapC P T kt et K zv)(hx:ev l x=some v)(hy:ev l y=some (.int K k))(hz:ev l z=some u)(hp:Pull S (mp K f v) R)
  (hg:Region.wanted { dst:=none,op:=.insert T x y z,type:=ty,pos,after,guard:=gd } (yielded ops l.toArray)=true)
  (kk:∀w',Sat O w' (mp K (fun x=>if x=k then some u else f x) v*R)→wpList P ops Q rest ⟨l.toArray,ds⟩ w') :
  wpList P ops Q ({ dst:=none,op:=.insert T x y z,type:=ty,pos,after,guard:=gd }::rest) ⟨l.toArray,ds⟩ w:=by
 obtain⟨w',hr,hs'⟩:=run_mp_update hM (hs.pull hp) k u
 refine wl_skip hg ?_ (kk _ hs')
 simp[execOp,Zm hx,Zm hy,Zm hz,hr]
theorem wl_del (hs:Sat O w S)(hM:MapC P T kt et K zv)(hx:ev l x=some v)(hy:ev l y=some (.int K k))(hp:Pull S (mp K f v) R)
  (hg:Region.wanted { dst:=none,op:=.call { callee:=.builtin .delete,args := #[x,y],argTypes := #[T,kt] },type:=ty,pos,after,guard:=gd } (yielded ops l.toArray)=true)
  (kk:∀w',Sat O w' (mp K (fun x=>if x=k then none else f x) v*R)→wpList P ops Q rest ⟨l.toArray,ds⟩ w') :
  wpList P ops Q ({ dst:=none,op:=.call { callee:=.builtin .delete,args := #[x,y],argTypes := #[T,kt] },type:=ty,pos,after,guard:=gd }::rest) ⟨l.toArray,ds⟩ w:=by
 obtain⟨w',hr,hs'⟩:=run_mp_delete (ty:=ty) hM (hs.pull hp) k
 refine QE (v:=.tuple #[]) (w':=w') hg ?_ ?_
 ·simp[execOp,resolve,invoke,builtin,Zm hx,Zm hy,hr]
 ·exact kk _ hs'
end
attribute [irreducible] mp
end Hp
end
section
open Go.RowKit
namespace Hp
end Hp
end
section
open Go.Proofs.YtefjbdajgakgpaaGreat.Hp
instance :MapC Tryz.prog 70 54 177 .i64 (.nilFunc):=⟨by kernel_rfl,by kernel_rfl,by kernel_rfl⟩
instance :MapC Tryz.prog 219 3 3 .i64 (.int .i64 0):=⟨by kernel_rfl,by kernel_rfl,by kernel_rfl⟩
end
section
open Go.RowKit Hp
set_option maxRecDepth 100000
set_option maxHeartbeats 1000000
attribute [local irreducible] Go.Calls
structure Haz where
 c:Cfg
 held:List Int
 lists:List (List Int)
def HazR (b ba:Nat)(h:Haz):Zc:=ex fun vh=>ex fun vl=>
 pt b (.cells #[.pointer (some ⟨ba,0,none⟩),.int .i64 h.c.T,.int .i64 h.c.R,.int .i64 h.c.Hz,.int .i64 h.c.Rt,.int .i64 h.c.Ca,.int .i64 h.c.Sl,.int .i64 h.c.Bu,vh,vl,.int .i64 (base h.c 8),.int .i64 (base h.c 9),.int .i64 (base h.c 2),.int .i64 (base h.c 11)] 68)*(sl 3 1 (h.held.map eI) vh*nest 33 3 h.lists vl)
theorem hazR {O w:World}{b ba:Nat}{h:Haz}{R:Zc}:Sat O w (HazR b ba h*R)↔∃vh vl,Sat O w (pt b (.cells #[.pointer (some ⟨ba,0,none⟩),.int .i64 h.c.T,.int .i64 h.c.R,.int .i64 h.c.Hz,.int .i64 h.c.Rt,.int .i64 h.c.Ca,.int .i64 h.c.Sl,.int .i64 h.c.Bu,vh,vl,.int .i64 (base h.c 8),.int .i64 (base h.c 9),.int .i64 (base h.c 2),.int .i64 (base h.c 11)] 68)*(sl 3 1 (h.held.map eI) vh*(nest 33 3 h.lists vl*R))):=by
 unfold HazR
 simp only[ZG,Ma]
theorem ZA {O w:World}{b ba:Nat}{h:Haz}{R:Zc}{vh vl:Value}(hs:Sat O w (pt b (.cells #[.pointer (some ⟨ba,0,none⟩),.int .i64 h.c.T,.int .i64 h.c.R,.int .i64 h.c.Hz,.int .i64 h.c.Rt,.int .i64 h.c.Ca,.int .i64 h.c.Sl,.int .i64 h.c.Bu,vh,vl,.int .i64 (base h.c 8),.int .i64 (base h.c 9),.int .i64 (base h.c 2),.int .i64 (base h.c 11)] 68)*(sl 3 1 (h.held.map eI) vh*(nest 33 3 h.lists vl*R)))):Sat O w (HazR b ba h*R):=hazR.2 ⟨_,_,hs⟩
attribute [irreducible] HazR
section
end
theorem Q3 (b ba:Nat)(h:Haz)(t:Nat)(r:Int)(ht:h.held[t]? = some r):Zk Tryz.prog 69 #[.pointer (some ⟨b,0,none⟩),.int .i64 (t:Int)] (HazR b ba h) (.int .i64 r) (HazR b ba h):=by
 intro O w F hs
 (obtain⟨vhh,vhl,hs⟩:=hazR.1 hs)
 have hlt:=(List.getElem?_eq_some_iff.1 ht).1
 have n1:decide ((t:Int)<0)=false:=by simp
 have n2:decide ((t:Int)≥(h.held.length:Int))=false:=by simp;omega
 go_enter Tryz.func69,Tryz.ntmps69
 go_wp2_with (first|((with_reducible apply Zb hs);exact Ii;rfl;(with_reducible repeat first|exact Qh|apply Qk);rfl;rfl;simp only[Uc,Uz])|((with_reducible apply ZE hs);exact Ii;rfl;assumption;(with_reducible repeat first|exact Qh|apply Qk);rfl;(exact Ze (by assumption));rfl;rfl;simp only[Uc,Uz])|((with_reducible apply Qe hs);exact Ii;exact Ii;rfl;rfl;(with_reducible repeat first|exact Qh|apply Qk);rfl;(simp only[Wm,Ws,Wa,Wc,Wn,Wr]at *;omega);rfl;intro b off hat;simp only[Uc,Uz])|((with_reducible apply ZS hs);exact Ii;rfl;(with_reducible repeat first|exact Qh|apply Qk);rfl;simp only[Uc,Uz]))
 go_ret
 refine⟨rfl,?_⟩
 (apply ZA;((try simp only[Yh,Yi,Yj,Yk,Yl]);(try simp only[Yh,Yi,Yj,Yk,Yl]at hs);((with_reducible apply Sat.fin hs);(with_reducible exact Ql))))
theorem haz_addr (b ba:Nat)(h:Haz)(hc:h.c.Ok)(t:Nat)(r k:Int)(ht:h.held[t]? = some r)(r0:0≤r)(r1:r<h.c.R)(k0:0≤k)(k1:k<h.c.Hz) :
  Zk Tryz.prog 91 #[.pointer (some ⟨b,0,none⟩),.int .i64 (t:Int),.int .i64 k] (HazR b ba h) (.int .i64 (base h.c 9+r*h.c.Hz+k)) (HazR b ba h):=by
 intro O w F hs
 have hR:=Lh (Q3 b ba h t r ht)
 have n1:decide (r<0)=false:=by simp;omega
 have n2:decide (k<0)=false:=by simp;omega
 have n3:decide (k≥h.c.Hz)=false:=by simp;omega
 have hm:0≤r*h.c.Hz∧r*h.c.Hz≤128:=by
  have:=hc.H2;have:=hc.R2
  exact⟨Int.mul_nonneg r0 (by omega),by
   calc r*h.c.Hz≤16*8:=Int.mul_le_mul (by omega) (by omega) (by omega) (by omega)
    _=128:=rfl⟩
 obtain⟨m0,m1⟩:=hm
 have hb:=ZD hc 9
 obtain⟨b0,b1⟩:=hb
 have hw:wrap64 (r*h.c.Hz)=r*h.c.Hz:=by unfold wrap64;omega
 have hH2:=hc.H2
 go_enter Tryz.func91,Tryz.ntmps91
 go_wp2_with (first|(with_reducible refine NQ.mk ?_)|((with_reducible apply Zi);rfl;rfl)|(with_reducible refine Zj ?_)|((with_reducible apply Zb hs);exact Ii;rfl;(with_reducible exact Qh);rfl;rfl;simp only[Uc,Uz])|(go_at_call 69;((refine(hR.out).at hs (by (with_reducible exact Qh)) ?_);clear hs;intro w hs;(try simp only[Em,Ma]at hs));(obtain⟨vhh,vhl,hs⟩:=hazR.1 hs))|((with_reducible refine Wp (id:=4) (Paz (Pbz [.neu 10,.neu 11,.neu 12,.neu 13,.neu 14])) hs rfl ?_ ?_);kernel_rfl;clear hs;intro w hs))
 go_ret
 refine⟨rfl,?_⟩
 (apply ZA;((try simp only[Yh,Yi,Yj,Yk,Yl]);(try simp only[Yh,Yi,Yj,Yk,Yl]at hs);((with_reducible apply Sat.fin hs);(with_reducible exact Ql))))
/-! ### One record's list in hand -/
theorem hazT {O w:World}{b ba:Nat}{h:Haz}{R:Zc}{t:Nat}{x:List Int}(hs:Sat O w (HazR b ba h*R))(hi:h.lists[t]? = some x):∃(vh vl:Value) (us:List Value) (u:Value),us.length=h.lists.length∧us[t]? = some u ∧
  Sat O w (pt b (.cells #[.pointer (some ⟨ba,0,none⟩),.int .i64 h.c.T,.int .i64 h.c.R,.int .i64 h.c.Hz,.int .i64 h.c.Rt,.int .i64 h.c.Ca,.int .i64 h.c.Sl,.int .i64 h.c.Bu,vh,vl,.int .i64 (base h.c 8),.int .i64 (base h.c 9),.int .i64 (base h.c 2),.int .i64 (base h.c 11)] 68)*(sl 3 1 (h.held.map eI) vh *
   (sl 33 1 (us.map fun u=>[u]) vl*(sl 3 1 (x.map eI) u*(Jd 3 (h.lists.eraseIdx t) (us.eraseIdx t)*R))))):=by
 obtain⟨vh,vl,hs⟩:=hazR.1 hs
 obtain⟨us,u,h1,h2,hs⟩:=nest_at (hs.pull (A:=nest 33 3 h.lists vl) (by (with_reducible repeat first|exact Qh|apply Qk))) hi
 refine⟨vh,vl,us,u,h1,h2,?_⟩
 (with_reducible apply Sat.fin hs;repeat first|exact Ql|exact Qh|apply Qb|apply Qk)
theorem hazT_back {O w:World}{b ba:Nat}{h:Haz}{R:Zc}{t:Nat}{x:List Int}{vh vl u:Value}{us:List Value}(hl:us.length=h.lists.length)(hu:us[t]? = some u)(hi:h.lists[t]? = some x)
  (hs:Sat O w (pt b (.cells #[.pointer (some ⟨ba,0,none⟩),.int .i64 h.c.T,.int .i64 h.c.R,.int .i64 h.c.Hz,.int .i64 h.c.Rt,.int .i64 h.c.Ca,.int .i64 h.c.Sl,.int .i64 h.c.Bu,vh,vl,.int .i64 (base h.c 8),.int .i64 (base h.c 9),.int .i64 (base h.c 2),.int .i64 (base h.c 11)] 68)*(sl 3 1 (h.held.map eI) vh *
   (sl 33 1 (us.map fun u=>[u]) vl*(sl 3 1 (x.map eI) u*(Jd 3 (h.lists.eraseIdx t) (us.eraseIdx t)*R)))))):Sat O w (HazR b ba h*R):=by
 apply ZA
 have:=nest_back (xss:=h.lists) hl hi hu (hs.fin (T:=sl 33 1 (us.map fun u=>[u]) vl*(sl 3 1 (x.map eI) u*(Jd 3 (h.lists.eraseIdx t) (us.eraseIdx t)*(pt b (.cells #[.pointer (some ⟨ba,0,none⟩),.int .i64 h.c.T,.int .i64 h.c.R,.int .i64 h.c.Hz,.int .i64 h.c.Rt,.int .i64 h.c.Ca,.int .i64 h.c.Sl,.int .i64 h.c.Bu,vh,vl,.int .i64 (base h.c 8),.int .i64 (base h.c 9),.int .i64 (base h.c 2),.int .i64 (base h.c 11)] 68)*(sl 3 1 (h.held.map eI) vh*R))))) (by (with_reducible repeat first|exact Ql|exact Qh|apply Qb|apply Qk)))
 have hs:=this
 (with_reducible apply Sat.fin hs;repeat first|exact Ql|exact Qh|apply Qb|apply Qk)
theorem hazT_mk {O w:World}{b ba:Nat}{h:Haz}{R:Zc}{t:Nat}{x:List Int}{xc:List (List Value)}{vh vl u:Value}{us:List Value}(hl:us.length=h.lists.length)(ht:t<h.lists.length)
  (hs:Sat O w (pt b (.cells #[.pointer (some ⟨ba,0,none⟩),.int .i64 h.c.T,.int .i64 h.c.R,.int .i64 h.c.Hz,.int .i64 h.c.Rt,.int .i64 h.c.Ca,.int .i64 h.c.Sl,.int .i64 h.c.Bu,vh,vl,.int .i64 (base h.c 8),.int .i64 (base h.c 9),.int .i64 (base h.c 2),.int .i64 (base h.c 11)] 68)*(sl 3 1 (h.held.map eI) vh *
   (sl 33 1 ((us.map fun u=>[u]).set t [u]) vl*(sl 3 1 xc u*(Jd 3 (h.lists.eraseIdx t) (us.eraseIdx t)*R)))))) (hxc:xc=x.map eI):Sat O w (HazR b ba { h with lists:=h.lists.set t x }*R):=by
 subst hxc
 have e:(us.map fun u=>[u]).set t [u]=(us.set t u).map fun u=>[u]:=by rw[Yk]
 rw[e]at hs
 apply ZA
 have:=nest_mk (xss:=h.lists) hl ht (hs.fin (T:=sl 33 1 ((us.set t u).map fun u=>[u]) vl*(sl 3 1 (x.map eI) u*(Jd 3 (h.lists.eraseIdx t) (us.eraseIdx t)*(pt b (.cells #[.pointer (some ⟨ba,0,none⟩),.int .i64 h.c.T,.int .i64 h.c.R,.int .i64 h.c.Hz,.int .i64 h.c.Rt,.int .i64 h.c.Ca,.int .i64 h.c.Sl,.int .i64 h.c.Bu,vh,vl,.int .i64 (base h.c 8),.int .i64 (base h.c 9),.int .i64 (base h.c 2),.int .i64 (base h.c 11)] 68)*(sl 3 1 (h.held.map eI) vh*R))))) (by (with_reducible repeat first|exact Ql|exact Qh|apply Qb|apply Qk)))
 have hs:=this
 (with_reducible apply Sat.fin hs;repeat first|exact Ql|exact Qh|apply Qb|apply Qk)
section
end
/-! ### A scan -/
structure Scn where
 thread:Int
 record:Int
 stage:Int
 at_:Int
 hasMap:Bool
 named:Int→Int
 pending:List Int
 give:Option Psh
def namedR (b:Bool)(c:Int→Int)(v:Value):Zc:=match b with
 | true=>ex fun f=>pu (∀k,(f k).getD (.int .i64 0)=.int .i64 (c k))*mp .i64 f v
 | false=>pu (v=.map none)
def giveR (ba:Nat)(o:Option Psh)(v:Value):Zc:=match o with
 | none=>pu (v=.pointer none)
 | some p=>ex fun g=>pu (v=.pointer (some ⟨g,0,none⟩))*PshR g ba 292 p
def ScnR (g bh ba:Nat)(s:Scn):Zc:=ex fun vn=>ex fun vp=>ex fun vg=>
 pt g (.cells #[.pointer (some ⟨bh,0,none⟩),.int .i64 s.thread,.int .i64 s.record,.int .i64 s.stage,.int .i64 s.at_,vn,vp,vg] 222)*(namedR s.hasMap s.named vn*(sl 3 1 (s.pending.map eI) vp*giveR ba s.give vg))
theorem scnR {O w:World}{g bh ba:Nat}{s:Scn}{R:Zc}:Sat O w (ScnR g bh ba s*R)↔∃vn vp vg,Sat O w (pt g (.cells #[.pointer (some ⟨bh,0,none⟩),.int .i64 s.thread,.int .i64 s.record,.int .i64 s.stage,.int .i64 s.at_,vn,vp,vg] 222)*(namedR s.hasMap s.named vn*(sl 3 1 (s.pending.map eI) vp*(giveR ba s.give vg*R)))):=by
 unfold ScnR
 simp only[ZG,Ma]
theorem QG {O w:World}{g bh ba:Nat}{s:Scn}{R:Zc}{vn vp vg:Value}(hs:Sat O w (pt g (.cells #[.pointer (some ⟨bh,0,none⟩),.int .i64 s.thread,.int .i64 s.record,.int .i64 s.stage,.int .i64 s.at_,vn,vp,vg] 222)*(namedR s.hasMap s.named vn*(sl 3 1 (s.pending.map eI) vp*(giveR ba s.give vg*R))))):Sat O w (ScnR g bh ba s*R):=scnR.2 ⟨_,_,_,hs⟩
theorem named_empty {O w:World}{v:Value}{R:Zc}(hs:Sat O w (mp .i64 (fun _=>none) v*R)):Sat O w (namedR true (fun _=>0) v*R):=by
 unfold namedR
 simp only[ZG,Ma,Zz]
 exact⟨_,fun k=>rfl,hs⟩
theorem named_get {O w:World}{v:Value}{c:Int→Int}{R:Zc}:Sat O w (namedR true c v*R)↔∃f,(∀k,(f k).getD (.int .i64 0)=.int .i64 (c k))∧Sat O w (mp .i64 f v*R):=by
 unfold namedR
 simp only[ZG,Ma,Zz]
theorem named_no {O w:World}{c:Int→Int}{R:Zc}(hs:Sat O w R):Sat O w (namedR false c (.map none)*R):=by
 unfold namedR
 simp only[Zz]
 exact⟨trivial,hs⟩
theorem give_none {O w:World}{ba:Nat}{R:Zc}(hs:Sat O w R):Sat O w (giveR ba none (.pointer none)*R):=by
 unfold giveR
 simp only[Zz]
 exact⟨trivial,hs⟩
theorem give_get {O w:World}{ba:Nat}{p:Psh}{v:Value}{R:Zc}:Sat O w (giveR ba (some p) v*R)↔∃g,v=.pointer (some ⟨g,0,none⟩)∧Sat O w (PshR g ba 292 p*R):=by
 unfold giveR
 simp only[ZG,Ma,Zz]
attribute [irreducible] ScnR namedR giveR
theorem haz_scan (b ba:Nat)(h:Haz)(t:Nat)(r:Int)(ht:h.held[t]? = some r) :
  Makes Tryz.prog 94 #[.pointer (some ⟨b,0,none⟩),.int .i64 (t:Int)] (HazR b ba h) (fun g=>ScnR g b ba ⟨t,r,6,0,false,fun _=>0,[],none⟩*HazR b ba h):=by
 intro O w F hs
 have hR:=Lh (Q3 b ba h t r ht)
 go_enter Tryz.func94,Tryz.ntmps94
 go_wp2_with (first|((with_reducible apply Zt hs);rfl;rfl;rfl;clear hs;intro w b hs;simp only[Uc,Uz])|(go_at_call 69;((refine(hR.out).at hs (by (with_reducible exact Qh)) ?_);clear hs;intro w hs;(try simp only[Em,Ma]at hs))))
 go_ret
 refine⟨_,rfl,?_⟩
 rw[Ma]
 apply QG (vn:=.map none) (vp:=.slice none 0 0) (vg:=.pointer none)
 have h2:=give_none (ba:=ba) (sl_nil (E:=3) (sz:=1) hs (by omega))
 have hs:=named_no (c:=fun _=>0) h2
 ((with_reducible apply Sat.fin hs);(focus((repeat(first|with_reducible exact Ql|with_reducible exact Qh|with_reducible apply Qb|exact Qh|with_reducible apply Qk));done)))
def Zy (h:Haz)(s:Scn):Bool×Scn:=
 let k:=if s.at_+1=s.record then s.at_+2 else s.at_+1
 if k<h.c.R then (false,{ s with at_:=k,stage:=0 })
 else if (h.lists.getD s.record.toNat []).length=0 then (true,{ s with at_:=0,named:=fun _=>0,hasMap:=true,stage:=6 })
 else (false,{ s with at_:=0,named:=fun _=>0,hasMap:=true,stage:=3 })
end
end Go.Proofs.YtefjbdajgakgpaaGreat
