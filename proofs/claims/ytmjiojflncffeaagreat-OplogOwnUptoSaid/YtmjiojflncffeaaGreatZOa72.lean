/- Part 2 of what a law of this seat rests on. -/
import Derived.Laws.StructEq
import Derived.Deep.LoopGhost
import Derived.RangeFuncLeaves
import Derived.RangeFuncRecord
import Derived.Lib.Walk
import Derived.Lib.Small
import Derived.StillTailTactics
import Derived.Shelf.SlSortCmp.InsertionK
import Derived.Test.YtmjiojflncffeaaGreatProg
import Derived.Shelf.SlLaysF0
import Derived.Ground.SlsfProg
import Derived.Shelf.SlSortCmp.WholeK
import Derived.Shelf.SlSortCmp.NoneTotal
import Derived.Test.YtmjiojflncffeaaGreatZOa71
set_option linter.unusedVariables false
set_option linter.unusedSimpArgs false
namespace Go.Proofs.YtmjiojflncffeaaGreat.Vc
open Go
theorem zsw {es:Array MapEntry} {cl:Nat} (h:MapKept.Stamped es cl) {j:Nat} {e:MapEntry} (hj:es.toList[j]? =some e) {k:Value} (hk:e.key=k):MapKept.Stamped (es.modify j fun e=>{e with key:=k}) cl:=by
 refine MapKept.stamped_modify h j _ (fun _ _=>rfl) fun e' _ he'=> ?_
 rw [Array.getElem?_toList,he']at hj
 simp at hj;subst hj
 exact hk.symm
structure Key2 (P:Program) (k:TypeId) (fs:Array Field) (f0 f1:Field):Prop where
 ty:P.underlying k=some (.struct fs)
 fs:fs.toList=[f0,f1]
 held:P.stoodInHeld k=false
 o0:f0.offset=0
 o1:f1.offset=1
 n0:f0.name≠ "_"
 n1:f1.name≠ "_"
 t0:P.underlying f0.type=some (.int .i64)
 t1:P.underlying f1.type=some (.int .i64)
theorem zro {d:Option TypeDesc} (h:zxM d=true):d=some (.int .i64):=by
 unfold zxM at h
 split at h
 ·rfl
 ·cases h
theorem zei {P:Program} {t:TypeId} {z:Option Value} (h:zgY P t=some z):
  ∃k e fs f0 f1,P.underlying t=some (.map k e)∧Key2 P k fs f0 f1∧∀v,z=some v→v.oneCell'=true∧∃i,P.info? e=some i∧i.zero=some v:=by
 unfold zgY at h
 split at h<;>first|(cases h;done)|skip
 rename_i k e hm
 split at h<;>first|(cases h;done)|skip
 rename_i fs hk
 split at h<;>first|(cases h;done)|skip
 rename_i f0 f1 hf
 split at h<;>first|(cases h;done)|skip
 rename_i hc
 simp only [Bool.and_eq_true,beq_iff_eq,bne_iff_ne,ne_eq,Bool.not_eq_true']at hc
 obtain ⟨⟨⟨⟨⟨⟨c1,c2⟩,c3⟩,c4⟩,c5⟩,c6⟩,c7⟩:=hc
 simp only [Option.some.injEq]at h
 refine ⟨k,e,fs,f0,f1,hm,⟨hk,hf,c5,c1,c2,c3,c4,zro c6,zro c7⟩,fun v hv=> ?_⟩
 subst h
 split at hv
 ·rename_i z' hz'
  split at hv
  ·rename_i h1
   simp at hv;subst hv
   obtain ⟨i,hi,hz⟩:=Option.bind_eq_some_iff.mp hz'
   exact ⟨h1,i,hi,hz⟩
  ·cases hv
 ·cases hv
section
variable {P:Program} {kt:TypeId} {fs:Array Field} {f0 f1:Field}
theorem zeO {t:TypeId} (h:P.underlying t=some (.int .i64)) {xs:Array Value} {off:Nat} {v:Value} (hx:xs[off]? =some v) (w:World):(part t xs off).run P w= .ok v w:=by
 simp [part,isAgg,Sem.run_bind,zo h,hx]
theorem Key2.fields (h:Key2 P kt fs f0 f1):P.fieldsOf kt=fs:=by simp [Program.fieldsOf,h.ty]
theorem zBi (h:Key2 P kt fs f0 f1) (a b:Int×Int) (d:Nat) (w:World):(Op.equalIn (d+2) kt (k2 a) (k2 b)).run P w= .ok (decide (a=b)) w:=by
 obtain ⟨a1,a2⟩:=a
 obtain ⟨b1,b2⟩:=b
 unfold k2
 rw [run_equalIn_struct w (d+1) kt _ _ (by rw [h.fields];exact h.ty) h.held,h.fields,h.fs]
 have p0:=zeO (P:=P) h.t0 (xs:= #[.int .i64 a1, .int .i64 a2]) (off:=f0.offset) (v:= .int .i64 a1) (by rw [h.o0];rfl) w
 have p1:=zeO (P:=P) h.t1 (xs:= #[.int .i64 a1, .int .i64 a2]) (off:=f1.offset) (v:= .int .i64 a2) (by rw [h.o1];rfl) w
 have q0:=zeO (P:=P) h.t0 (xs:= #[.int .i64 b1, .int .i64 b2]) (off:=f0.offset) (v:= .int .i64 b1) (by rw [h.o0];rfl) w
 have q1:=zeO (P:=P) h.t1 (xs:= #[.int .i64 b1, .int .i64 b2]) (off:=f1.offset) (v:= .int .i64 b2) (by rw [h.o1];rfl) w
 have r0:=run_equalIn_int (P:=P) w d f0.type .i64 .i64 a1 b1 h.t0
 have r1:=run_equalIn_int (P:=P) w d f1.type .i64 .i64 a2 b2 h.t1
 have hd:decide (((a1,a2):Int×Int)=(b1,b2))=((a1==b1)&&(a2==b2)):=by
  by_cases h1:a1=b1<;>by_cases h2:a2=b2<;>simp [h1,h2]
 rw [hd]
 simp only [Op.eqFields,h.n0,h.n1,ne_eq,not_false_eq_true,if_true,Sem.run_bind,p0,q0,r0,Result.andThen_ok]
 cases (a1==b1)with
 |false=>simp
 |true=>
  simp only [Bool.not_true,Bool.false_eq_true,if_false,Sem.run_bind,p1,q1,r1,Result.andThen_ok,Bool.true_and]
  cases (a2==b2)<;>simp
theorem zgI (h:Key2 P kt fs f0 f1) (k:Int×Int) (e:Bool) (n:Nat) (w:World):(Instr.checkKey e (n+2) kt (k2 k)).run P w= .ok () w:=by
 have p0:=zeO (P:=P) h.t0 (xs:= #[.int .i64 k.1, .int .i64 k.2]) (off:=f0.offset) (v:= .int .i64 k.1) (by rw [h.o0];rfl) w
 have p1:=zeO (P:=P) h.t1 (xs:= #[.int .i64 k.1, .int .i64 k.2]) (off:=f1.offset) (v:= .int .i64 k.2) (by rw [h.o1];rfl) w
 have c:∀(t:TypeId) (x:Int),P.underlying t=some (.int .i64)→(Instr.checkKey e (n+1) t (.int .i64 x)).run P w= .ok () w:=fun t x ht=>MapKept.run_checkKey (d:= .int .i64) (k:= .int .i64 x) ht rfl e n
 unfold Instr.checkKey k2
 rw [Sem.run_bind,zo h.ty]
 simp only [Result.andThen_ok]
 rw [←Array.forIn_toList,h.fs]
 simp [Sem.run_bind,h.n0,h.n1,p0,p1,c _ _ h.t0,c _ _ h.t1]
theorem zzM {a b:Int×Int} (h:k2 a=k2 b):a=b:=by
 obtain ⟨a1,a2⟩:=a
 obtain ⟨b1,b2⟩:=b
 simpa [k2]using h
theorem ask2 (h:Key2 P kt fs f0 f1) (k:Int×Int) (w:World):∀(l:List MapEntry) (L:List ((Int×Int)×Value)) (i:Nat),l.map kv=L.map (fun p=>(k2 p.1,p.2))→
  ((Instr.findAsking kt (k2 k) l i).run P w= .ok none w∧(∀x∈l,x.key≠k2 k)∧zbO L k=none∧(∀y,zcP L k y=L++[(k,y)]))∨
  ∃j e,(Instr.findAsking kt (k2 k) l i).run P w= .ok (some (i+j,e.val)) w∧l[j]? =some e∧e.key=k2 k∧zbO L k=some e.val∧(∀y,zcP L k y=L.set j (k,y))
 |[],L,i,hL=>by
  have:L=[]:=by simpa using hL.symm
  subst this
  exact .inl ⟨by simp [Instr.findAsking],by simp,rfl,fun _=>rfl⟩
 |e::l,[],i,hL=>by simp at hL
 |e::l,(k',v)::L,i,hL=>by
  simp only [List.map_cons,List.cons.injEq]at hL
  obtain ⟨h1,h2⟩:=hL
  simp only [kv,Prod.mk.injEq]at h1
  obtain ⟨hk,rfl⟩:=h1
  have hr:(Op.equal kt (k2 k) e.key).run P w= .ok (decide (k=k')) w:=by rw [hk];exact zBi h k k' 9998 w
  by_cases hkk:k'=k
  ·subst hkk
   refine .inr ⟨0,e,by simp [Instr.findAsking,Sem.run_bind,hr],rfl,hk,by simp [zbO],fun y=>by simp [zcP]⟩
  ·have hkk':¬k=k':=fun q=>hkk q.symm
   have hne:e.key≠k2 k:=fun q=>hkk (zzM (hk.symm.trans q))
   rcases ask2 h k w l L (i+1) h2 with ⟨g1,g2,g3,g4⟩|⟨j,e',g1,g2,g3,g4,g5⟩
   ·refine .inl ⟨by simp [Instr.findAsking,Sem.run_bind,hr,hkk',g1], ?_,by simp [zbO,hkk,g3],fun y=>by simp [zcP,hkk,g4]⟩
    intro x hx
    rcases List.mem_cons.1 hx with rfl|hx
    ·exact hne
    ·exact g2 x hx
   ·exact .inr ⟨j+1,e',by simp [Instr.findAsking,Sem.run_bind,hr,hkk',g1];omega,by simpa using g2,g3,by simp [zbO,hkk,g4],fun y=>by simp [zcP,hkk,g5]⟩
theorem zrh (h:Key2 P kt fs f0 f1) (k:Int×Int) (w:World) (l:List MapEntry) (L:List ((Int×Int)×Value)) (hL:l.map kv=L.map (fun p=>(k2 p.1,p.2))):
  ((Instr.findKey kt (k2 k) l).run P w= .ok none w∧(∀x∈l,x.key≠k2 k)∧zbO L k=none∧(∀y,zcP L k y=L++[(k,y)]))∨
  ∃j e,(Instr.findKey kt (k2 k) l).run P w= .ok (some (j,e.val)) w∧l[j]? =some e∧e.key=k2 k∧zbO L k=some e.val∧(∀y,zcP L k y=L.set j (k,y)):=by
 have e1:(Instr.findKey kt (k2 k) l).run P w=(Instr.findAsking kt (k2 k) l 0).run P w:=by
  unfold Instr.findKey
  rw [Sem.run_bind,zo h.ty]
  simp only [Result.andThen_ok]
  cases l with
  |nil=>simp [Instr.findNow,Instr.findAsking]
  |cons e l=>simp [Instr.findNow,Instr.sameNow]
 rw [e1]
 rcases ask2 h k w l L 0 hL with g|⟨j,e,g1,g2⟩
 ·exact .inl g
 ·exact .inr ⟨j,e,by rw [g1,Nat.zero_add],g2⟩
theorem zrX {l:List ((Int×Int)×Value)} (h:∀p∈l,p.2.oneCell'=true) {k:Int×Int} {v:Value} (hv:zbO l k=some v):v.oneCell'=true:=by
 induction l with
 |nil=>cases hv
 |cons p l ih=>
  obtain ⟨k',u⟩:=p
  simp only [zbO]at hv
  split at hv
  ·cases hv;exact h (k',v) (by simp)
  ·exact ih (fun p hp=>h p (by simp [hp])) hv
theorem zmZ {l:List ((Int×Int)×Value)} (h:∀p∈l,p.2.oneCell'=true) (k:Int×Int) {y:Value} (hy:y.oneCell'=true):∀p∈zcP l k y,p.2.oneCell'=true:=by
 induction l with
 |nil=>intro p hp;simp [zcP]at hp;subst hp;exact hy
 |cons q l ih=>
  obtain ⟨k',u⟩:=q
  intro p hp
  simp only [zcP]at hp
  split at hp
  ·rcases List.mem_cons.1 hp with rfl|hp
   ·exact hy
   ·exact h p (by simp [hp])
  ·rcases List.mem_cons.1 hp with rfl|hp
   ·exact h _ (by simp)
   ·exact ih (fun p hp=>h p (by simp [hp])) p hp
end
section
variable {C:Ctx} {loc:Loc} {σ:SS} {a:Act} {o:Oper} {w:World} {K:KT} {Q:Exit→Act→World→Prop}
theorem zBI {t:TypeId} {x i:Operand} {x' i':Opd} {ok:Bool} {z:Value} (ho:o.op= .lookup t x i ok) (hT:zgY C.P t=some (some z)) (hx:zQ x=some x') (hi:zQ i=some i') (hF:FR loc C.N σ.fr σ.pv σ.ph a)
  {b:Nat} {k:Int×Int} (e1:ev σ x'=some (.g (.s (.map (some b))))) (e2:ev σ i'=some (.g (gk2 k))) {ob:Obj} {l:List ((Int×Int)×Value)} (hs:zdX C σ.ph σ.m b ob) (hI:znA ob l):
  Reads C loc σ o a (zsu l k z ok):=by
 have h1:=(hF.ev rfl e1).s
 obtain ⟨_,h2⟩:=hF.ev rfl e2
 have h2:evO a i'=k2 k:=h2
 obtain ⟨kt,et,fs,f0,f1,hm,hk2,hz⟩:=zei hT
 obtain ⟨hz1,inf,hinf,hz2⟩:=hz z rfl
 obtain ⟨es,cl,rfl,hl,hst,hks⟩:=hI
 have hvo:((zbO l k).getD z).oneCell'=true:=by
  cases hg:zbO l k with
  |none=>exact hz1
  |some v=>exact zrX hks hg
 have hrun:∀w,HR C loc σ.pv σ.ph σ.m w→(Instr.lookup t (.map (some b)) (k2 k) ok).run C.P w= .ok (if ok then .tuple #[(zbO l k).getD z, .bool (zbO l k).isSome]else (zbO l k).getD z) w:=by
  intro w hw
  have hb:=hw.seenO hs
  have hzr:∀w,(zeroValue et).run C.P w= .ok z w:=fun w=>by simp [zeroValue,Sem.run_bind,zbH hinf,hz2]
  have hck:∀e,(Instr.checkKey e 10000 kt (k2 k)).run C.P w= .ok () w:=fun e=>zgI hk2 k e 9998 w
  rcases zrh hk2 k w es.toList l hl with ⟨g1,_,g3,_⟩|⟨j,e,g1,_,_,g4,_⟩
  ·cases ok<;>simp [Instr.lookup,Sem.run_bind,zo hm,MapKept.run_getObj_map hb,hck,g1,hzr,g3]
  ·cases ok<;>simp [Instr.lookup,Sem.run_bind,zo hm,MapKept.run_getObj_map hb,hck,g1,hzr,g4]
 refine zfe (zjD ho) (s:=Instr.lookup t (.map (some b)) (k2 k) ok) (v:=if ok then .tuple #[(zbO l k).getD z, .bool (zbO l k).isSome]else (zbO l k).getD z) ?_ (by simp only [execOp,ho,zs hx a,zs hi a,h1,h2]) fun w hw=>hrun w hw
 cases ok with
 |true=>exact ⟨fun y hy=>by simp at hy;rcases hy with rfl|rfl;exact hvo;rfl,rfl⟩
 |false=>exact ⟨hvo,rfl⟩
theorem zxr {t:TypeId} {x i v:Operand} {x' i' v':Opd} {z:Option Value} (ho:o.op= .mapUpdate t x i v∨o.op= .insert t x i v) (hT:zgY C.P t=some z) (hx:zQ x=some x') (hi:zQ i=some i') (hv:zQ v=some v') (hd:∀t,o.dst=some t→t<C.N)
  (hF:FR loc C.N σ.fr σ.pv σ.ph a) (hH:HR C loc σ.pv σ.ph σ.m w) {b:Nat} {g:GV} {y:Value} (e1:ev σ x'=some (.g (.s (.map (some b))))) (e2:ev σ i'=some (.g g)) (e3:ev σ v'=some (.g (.s y))) (h:zCj b g y o.dst K σ):o.wp C.P a w (zbD C K) Q:=by
 obtain ⟨kt,et,fs,f0,f1,hm,hk2,_⟩:=zei hT
 obtain ⟨k,ob,l,rfl,hmb,⟨es,cl,rfl,hl,hst,hks⟩,hK⟩:=h
 have h1:=(hF.ev rfl e1).s
 obtain ⟨_,h2⟩:=hF.ev rfl e2
 have h2:evO a i'=k2 k:=h2
 obtain ⟨h3o,h3⟩:=hF.ev rfl e3
 simp only [GV.val]at h3
 have hyo:y.oneCell'=true:=h3o
 have hb:=hH.mle b _ hmb
 have hck:∀e,(Instr.checkKey e 10000 kt (k2 k)).run C.P w= .ok () w:=fun e=>zgI hk2 k e 9998 w
 have hex:(execOp a.eval o)=(do Instr.mapUpdate t (.map (some b)) (k2 k) y;pure .skip:Sem Next):=by
  rcases ho with ho|ho<;>simp only [execOp,ho,zs hx a,zs hi a,zs hv a,h1,h2,h3]
 rcases zrh hk2 k w es.toList l hl with ⟨g1,g2,_,g4⟩|⟨j,e,g1,g2,g3,_,g5⟩
 ·refine zfy (ob':= .map (es.push {key:=k2 k,val:=y,born:=cl}) (cl+1)) (x:= .no) (v:=undef) (w1:=w) hd (.inr ⟨?_,rfl⟩) hH hF hmb rfl (hK _ ⟨_,_,rfl, ?_,MapKept.stamped_push hst g2,zmZ hks k hyo⟩)
  ·rw [hex]
   simp [Instr.mapUpdate,Sem.run_bind,zo hm,MapKept.run_getObj_map hb,hck,g1,MapKept.run_setObj_map _ hb,World.setBlk]
  ·rw [g4 y];simp [kv,hl]
 ·have hj:es[j]? =some e:=by rw [←Array.getElem?_toList];exact g2
  refine zfy (ob':= .map (es.modify j fun e=>{e with key:=k2 k,val:=y}) cl) (x:= .no) (v:=undef) (w1:=w) hd (.inr ⟨?_,rfl⟩) hH hF hmb rfl (hK _ ⟨_,_,rfl, ?_,zjI hst g2 g3,zmZ hks k hyo⟩)
  ·rw [hex]
   have hst':(Instr.keyThatStays (k2 k) (k2 k)).run C.P w= .ok (k2 k) w:=by
    have:Instr.sameBits 10000 (k2 k) (k2 k)=true:=by simp [Instr.sameBits,k2]
    simp [Instr.keyThatStays,this]
   simp [Instr.mapUpdate,Sem.run_bind,zo hm,MapKept.run_getObj_map hb,hck,g1,MapKept.run_setObj_map _ hb,World.setBlk,hj,g3,hst']
  ·rw [g5 y,List.map_set,←hl]
   apply List.ext_getElem?
   intro q
   simp only [List.getElem?_map,Array.getElem?_toList,Array.getElem?_modify,List.getElem?_set,List.length_map,Array.length_toList]
   by_cases hq:j=q
   ·subst hq
    have hlt:j<es.size:=by
     have:=(List.getElem?_eq_some_iff.1 g2).1
     simpa using this
    rw [Array.getElem?_toList]at g2
    simp [g2,hlt,kv]
   ·simp [hq]
theorem zkm {l:List ((Int×Int)×Value)} {k:Int×Int} {z y:Value}:zcP (zlx l k z) k y=zcP l k y:=by
 unfold zlx
 cases h:zbO l k with
 |some v=>simp
 |none=>
  simp only [Option.isSome_none,Bool.false_eq_true,if_false]
  induction l with
  |nil=>simp [zcP]
  |cons p l ih=>
   obtain ⟨k',u⟩:=p
   simp only [zbO]at h
   split at h
   ·cases h
   ·rename_i hne
    simp only [List.cons_append,zcP,hne,if_false]
    rw [ih h]
theorem zrv {l:List ((Int×Int)×Value)} {k:Int×Int} {z:Value}:(zbO (zlx l k z) k).getD z=(zbO l k).getD z:=by
 unfold zlx
 cases h:zbO l k with
 |some v=>simp [h]
 |none=>
  simp only [Option.isSome_none,Bool.false_eq_true,if_false]
  induction l with
  |nil=>simp [zbO]
  |cons p l ih=>
   obtain ⟨k',u⟩:=p
   simp only [zbO]at h
   split at h
   ·cases h
   ·rename_i hne
    simp only [List.cons_append,zbO,hne,if_false]
    exact ih h
theorem zng {es:Array MapEntry} {j:Nat} {e:MapEntry} {l:List ((Int×Int)×Value)} {k:Int×Int} (hl:es.toList.map kv=l.map (fun p=>(k2 p.1,p.2))) (g2:es.toList[j]? =some e) (f:MapEntry→MapEntry) {y:Value} (hf:kv (f e)=(k2 k,y)):
  (es.modify j f).toList.map kv=(l.set j (k,y)).map (fun p=>(k2 p.1,p.2)):=by
 rw [List.map_set,←hl]
 apply List.ext_getElem?
 intro q
 simp only [List.getElem?_map,Array.getElem?_toList,Array.getElem?_modify,List.getElem?_set,List.length_map,Array.length_toList]
 by_cases hq:j=q
 ·subst hq
  have hlt:j<es.size:=by
   have:=(List.getElem?_eq_some_iff.1 g2).1
   simpa using this
  rw [Array.getElem?_toList]at g2
  have h3:es[j]=e:=by rw [Array.getElem?_eq_getElem hlt]at g2;exact Option.some.inj g2
  simp [hlt,h3,hf]
 ·simp [hq]
theorem zBc {t:TypeId} {x i:Operand} {x' i':Opd} {z:Value} (ho:o.op= .mapEntry t x i) (hT:zgY C.P t=some (some z)) (hx:zQ x=some x') (hi:zQ i=some i') (hd:∀t,o.dst=some t→t<C.N)
  (hF:FR loc C.N σ.fr σ.pv σ.ph a) (hH:HR C loc σ.pv σ.ph σ.m w) {b:Nat} {g:GV} (e1:ev σ x'=some (.g (.s (.map (some b))))) (e2:ev σ i'=some (.g g)) (h:zBZ b g z o.dst K σ):o.wp C.P a w (zbD C K) Q:=by
 obtain ⟨kt,et,fs,f0,f1,hm,hk2,hz⟩:=zei hT
 obtain ⟨hz1,inf,hinf,hz2⟩:=hz z rfl
 obtain ⟨k,ob,l,rfl,hmb,⟨es,cl,rfl,hl,hst,hks⟩,hK⟩:=h
 have h1:=(hF.ev rfl e1).s
 obtain ⟨_,h2⟩:=hF.ev rfl e2
 have h2:evO a i'=k2 k:=h2
 have hb:=hH.mle b _ hmb
 have hck:∀e,(Instr.checkKey e 10000 kt (k2 k)).run C.P w= .ok () w:=fun e=>zgI hk2 k e 9998 w
 have hzr:∀w,(zeroValue et).run C.P w= .ok z w:=fun w=>by simp [zeroValue,Sem.run_bind,zbH hinf,hz2]
 have hex:(execOp a.eval o)=(do pure (.value (←Instr.mapEntry t (.map (some b)) (k2 k))):Sem Next):=by
  simp only [execOp,ho,zs hx a,zs hi a,h1,h2]
 rcases zrh hk2 k w es.toList l hl with ⟨g1,g2,g3,g4⟩|⟨j,e,g1,g2,g3,g4,g5⟩
 ·have hn:zlx l k z=l++[(k,z)]:=by simp [zlx,g3]
  refine zfy (ob':= .map (es.push {key:=k2 k,val:=z,born:=cl}) (cl+1)) (x:= .tup [.s z, .s (.int .i64 cl)]) (v:= .tuple #[z, .int .i64 cl]) (w1:=w) hd (.inl ?_) hH hF hmb ⟨fun y hy=>by simp at hy;rcases hy with rfl|rfl;exact hz1;rfl,rfl⟩ ?_
  ·rw [hex]
   refine zdb ?_
   simp [Instr.mapEntry,Sem.run_bind,zo hm,MapKept.run_getObj_map hb,hck,g1,hzr,MapKept.run_setObj_map _ hb,World.setBlk,goInt]
  ·have:=hK (.map (es.push {key:=k2 k,val:=z,born:=cl}) (cl+1)) cl ⟨_,_,rfl,by rw [hn];simp [kv,hl],MapKept.stamped_push hst g2,by rw [hn];intro p hp;rcases List.mem_append.1 hp with hp|hp;exact hks p hp;simp at hp;subst hp;exact hz1⟩ ⟨_,_,rfl,⟨{key:=k2 k,val:=z,born:=cl},by simp,rfl,rfl⟩⟩
   rw [g3]at this
   exact this
 ·have hj:es[j]? =some e:=by rw [←Array.getElem?_toList];exact g2
  have hn:zlx l k z=l:=by simp [zlx,g4]
  have he1:e.val.oneCell'=true:=zrX hks g4
  refine zfy (ob':= .map (es.modify j fun e=>{e with key:=k2 k}) cl) (x:= .tup [.s e.val, .s (.int .i64 e.born)]) (v:= .tuple #[e.val, .int .i64 e.born]) (w1:=w) hd (.inl ?_) hH hF hmb ⟨fun y hy=>by simp at hy;rcases hy with rfl|rfl;exact he1;rfl,rfl⟩ ?_
  ·rw [hex]
   refine zdb ?_
   have hst':(Instr.keyThatStays (k2 k) (k2 k)).run C.P w= .ok (k2 k) w:=by
    have:Instr.sameBits 10000 (k2 k) (k2 k)=true:=by simp [Instr.sameBits,k2]
    simp [Instr.keyThatStays,this]
   simp [Instr.mapEntry,Sem.run_bind,zo hm,MapKept.run_getObj_map hb,hck,g1,hj,g3,hst',MapKept.run_setObj_map _ hb,World.setBlk,goInt]
  ·have hlset:l.set j (k,e.val)=l:=by
    have hlj:l[j]? =some (k,e.val):=by
     have h5:=congrArg (fun q=>q[j]?) hl
     simp only [List.getElem?_map,g2,Option.map_some]at h5
     cases hq:l[j]? with
     |none=>rw [hq]at h5;cases h5
     |some p=>
      rw [hq]at h5
      simp only [Option.map_some,Option.some.injEq,kv,Prod.mk.injEq]at h5
      obtain ⟨h6,h7⟩:=h5
      rw [g3]at h6
      obtain ⟨p1,p2⟩:=p
      simp only at h6 h7
      rw [zzM h6,h7]
    apply List.ext_getElem?
    intro q
    rw [List.getElem?_set]
    split
    ·rename_i hjq;subst hjq
     split
     ·exact hlj.symm
     ·rename_i hlt;rw [List.getElem?_eq_none (by omega)]
    ·rfl
   have hlt:j<es.size:=(Array.getElem?_eq_some_iff.1 hj).1
   have:=hK (.map (es.modify j fun e=>{e with key:=k2 k}) cl) e.born ⟨_,_,rfl,by rw [hn,←hlset];rw [hlset];rw [zng hl g2 (fun e=>{e with key:=k2 k}) (k:=k) (y:=e.val) rfl,hlset],zsw hst g2 g3,by rw [hn];exact hks⟩
    ⟨_,_,rfl,⟨{e with key:=k2 k},by rw [Array.mem_toList_iff];exact Array.mem_of_getElem? (i:=j) (by rw [Array.getElem?_modify,if_pos rfl,hj];rfl),rfl,rfl⟩⟩
   rw [g4]at this
   exact this
theorem zBH {t:TypeId} {x s v:Operand} {x' s' v':Opd} {z:Option Value} (ho:o.op= .entryStore t x s v) (hT:zgY C.P t=some z) (hx:zQ x=some x') (hs:zQ s=some s') (hv:zQ v=some v') (hd:∀t,o.dst=some t→t<C.N)
  (hF:FR loc C.N σ.fr σ.pv σ.ph a) (hH:HR C loc σ.pv σ.ph σ.m w) {b:Nat} {sv y:Value} (e1:ev σ x'=some (.g (.s (.map (some b))))) (e2:ev σ s'=some (.g (.s sv))) (e3:ev σ v'=some (.g (.s y))) (h:zCg b sv y o.dst K σ):o.wp C.P a w (zbD C K) Q:=by
 obtain ⟨kt,et,fs,f0,f1,hm,hk2,_⟩:=zei hT
 obtain ⟨k,ob,l,β,rfl,hmb,⟨es,cl,rfl,hl,hst,hks⟩,⟨es',cl',heq,e,he,hek,heb⟩,hK⟩:=h
 obtain ⟨rfl,rfl⟩:es=es'∧cl=cl':=by simpa using heq
 have h1:=(hF.ev rfl e1).s
 have h2:=(hF.ev rfl e2).s
 obtain ⟨h3o,h3⟩:=hF.ev rfl e3
 simp only [GV.val]at h3
 have hyo:y.oneCell'=true:=h3o
 have hb:=hH.mle b _ hmb
 have hex:(execOp a.eval o)=(do Instr.entryStore t (.map (some b)) (.int .i64 β) y;pure .skip:Sem Next):=by
  simp only [execOp,ho,zs hx a,zs hs a,zs hv a,h1,h2,h3]
 rcases zrh hk2 k w es.toList l hl with ⟨_,g2,_,_⟩|⟨j,e',_,g2,g3,g4,g5⟩
 ·exact absurd hek (g2 e he)
 have hee:e'=e:=zeK (f:=fun x:MapEntry=>x.key) hst.2.2 (List.mem_of_getElem? g2) he (g3.trans hek.symm)
 subst hee
 have hj:es[j]? =some e':=by rw [←Array.getElem?_toList];exact g2
 have hlt:j<es.size:=(Array.getElem?_eq_some_iff.1 hj).1
 have hfi:es.findIdx? (fun e=>(e.born:Int)==β)=some j:=by
  rw [Array.findIdx?_eq_some_iff_getElem]
  refine ⟨hlt, ?_,fun i hi=> ?_⟩
  ·have:es[j]=e':=by rw [Array.getElem?_eq_getElem hlt]at hj;exact Option.some.inj hj
   rw [this,heb];simp
  ·intro hc
   have hil:i<es.size:=by omega
   have h6:(es[i].born:Int)=β:=by simpa using hc
   have h7:es[i]=e':=zeK (f:=fun x:MapEntry=>x.born) hst.2.1 (by rw [Array.mem_toList_iff];exact Array.getElem_mem hil) he (by show es[i].born=e'.born;omega)
   have h8:es.toList[i]? =es.toList[j]? :=by rw [Array.getElem?_toList,Array.getElem?_toList,hj,Array.getElem?_eq_getElem hil,h7]
   have hnd:=zfQ _ hst.2.1
   have:=(List.getElem?_inj (by simpa using hil) hnd).1 h8
   omega
 refine zfy (ob':= .map (es.modify j fun e=>{e with val:=y}) cl) (x:= .no) (v:=undef) (w1:=w) hd (.inr ⟨?_,rfl⟩) hH hF hmb rfl (hK _ ⟨_,_,rfl, ?_, ?_,zmZ hks k hyo⟩)
 ·rw [hex]
  simp [Instr.entryStore,Sem.run_bind,MapKept.run_getObj_map hb,asInt,asIntOf,hfi,MapKept.run_setObj_map _ hb,World.setBlk]
 ·rw [g5 y]
  exact zng hl g2 _ (by simp [kv,g3])
 ·exact MapKept.stamped_modify hst _ _ (fun _ _=>rfl) (fun _ _ _=>rfl)
theorem zBd {a b:Value} (h:scEq a b=true):a=b:=by
 unfold scEq at h
 split at h<;>first|(cases h;done)|rfl|skip
 ·simp at h;simp [h.1,h.2]
 ·simpa using h
 ·simp at h
  rename_i x y
  congr 1
  exact ByteArray.ext (by simpa using h)
theorem zhB:∀{a b:List Value},zkD a b=true→a=b
 |[],[],_=>rfl
 |x::a,y::b,h=>by
  simp [zkD]at h
  rw [zBd h.1,zhB h.2]
 |[],_::_,h=>by simp [zkD]at h
 |_::_,[],h=>by simp [zkD]at h
theorem zid:∀{g:GV},okB g=true→g.ok
 | .s v,h=>h
 | .u,_=>trivial
 | .c h t,e=>by
  simp [okB]at e
  exact ⟨zid e.1,zid e.2⟩
 | .ar n e f,h=>by
  simp [okB]at h
  intro j hj
  exact ⟨zid (h j hj).1,(h j hj).2⟩
theorem zyb (l:List ((Int×Int)×GV)) (k:Int×Int):zbO (l.map fun p=>(p.1,p.2.val)) k=(zff l k).map GV.val:=by
 induction l with
 |nil=>rfl
 |cons p l ih=>
  obtain ⟨k',y'⟩:=p
  simp only [List.map_cons,zbO,zff]
  split
  ·rfl
  ·exact ih
theorem zxF (l:List ((Int×Int)×GV)) (k:Int×Int) (y:GV):zcP (l.map fun p=>(p.1,p.2.val)) k y.val=(zlH l k y).map fun p=>(p.1,p.2.val):=by
 induction l with
 |nil=>rfl
 |cons p l ih=>
  obtain ⟨k',y'⟩:=p
  simp only [List.map_cons,zcP,zlH]
  split
  ·rfl
  ·simp only [List.map_cons];rw [ih]
theorem zAk {l:List ((Int×Int)×GV)} (h:∀p∈l,p.2.ok) {k:Int×Int} {v:GV} (hv:zff l k=some v):v.ok:=by
 induction l with
 |nil=>cases hv
 |cons p l ih=>
  obtain ⟨k',y'⟩:=p
  simp only [zff]at hv
  split at hv
  ·cases hv;exact h (k',v) (by simp)
  ·exact ih (fun p hp=>h p (by simp [hp])) hv
theorem zvx {l:List ((Int×Int)×GV)} (h:∀p∈l,p.2.ok) (k:Int×Int) {y:GV} (hy:y.ok):∀p∈zlH l k y,p.2.ok:=by
 induction l with
 |nil=>intro p hp;simp [zlH]at hp;subst hp;exact hy
 |cons q l ih=>
  obtain ⟨k',y'⟩:=q
  intro p hp
  simp only [zlH]at hp
  split at hp
  ·rcases List.mem_cons.1 hp with rfl|hp
   ·exact hy
   ·exact h p (by simp [hp])
  ·rcases List.mem_cons.1 hp with rfl|hp
   ·exact h _ (by simp)
   ·exact ih (fun p hp=>h p (by simp [hp])) p hp
theorem zoZ {es:Array MapEntry} {l:List ((Int×Int)×GV)} (hl:es.toList.map kv=l.map (fun p=>(k2 p.1,p.2.val))):es.toList.map kv=(l.map fun p=>(p.1,p.2.val)).map (fun p=>(k2 p.1,p.2)):=by
 rw [hl,List.map_map];rfl
theorem zBS {g:GV} (h:g.isS=false):g.val= .agg g.flat.toArray:=by
 cases g<;>first|rfl|(cases h;done)
theorem zvV {P:Program} {t:TypeId} {z:GV} (h:zxC P t=some z):∃k e i,P.underlying t=some (.map k e)∧P.info? e=some i∧i.zero=some z.val∧z.ok:=by
 unfold zxC at h
 split at h<;>first|(cases h;done)|skip
 rename_i k e hm
 split at h<;>first|(cases h;done)|skip
 rename_i z' xs hz' hx
 split at h<;>first|(cases h;done)|skip
 rename_i hc
 simp only [Bool.and_eq_true,Bool.not_eq_true']at hc
 obtain ⟨⟨c1,c2⟩,c3⟩:=hc
 simp only [Option.some.injEq]at h
 subst h
 obtain ⟨i,hi,hz⟩:=Option.bind_eq_some_iff.mp hx
 refine ⟨k,e,i,hm,hi, ?_,zid c2⟩
 rw [hz,zBS c1,zhB c3]
theorem zBX {t:TypeId} {x i:Operand} {x' i':Opd} {ok:Bool} {z:GV} {z0:Option Value} (ho:o.op= .lookup t x i ok) (hT:zgY C.P t=some z0) (hG:zxC C.P t=some z) (hx:zQ x=some x') (hi:zQ i=some i') (hF:FR loc C.N σ.fr σ.pv σ.ph a)
  {b:Nat} {k:Int×Int} (e1:ev σ x'=some (.g (.s (.map (some b))))) (e2:ev σ i'=some (.g (gk2 k))) {ob:Obj} {l:List ((Int×Int)×GV)} (hs:zdX C σ.ph σ.m b ob) (hI:zyV ob l):
  Reads C loc σ o a (lkSG l k z ok):=by
 have h1:=(hF.ev rfl e1).s
 obtain ⟨_,h2⟩:=hF.ev rfl e2
 have h2:evO a i'=k2 k:=h2
 obtain ⟨kt,et,fs,f0,f1,hm,hk2,_⟩:=zei hT
 obtain ⟨kt',et',inf,hm',hinf,hz2,hzok⟩:=zvV hG
 obtain ⟨rfl,rfl⟩:kt=kt'∧et=et':=by rw [hm]at hm';simpa using hm'
 obtain ⟨es,cl,rfl,hl,hst,hks⟩:=hI
 have hvo:((zff l k).getD z).ok:=by
  cases hg:zff l k with
  |none=>exact hzok
  |some v=>exact zAk hks hg
 have hrun:∀w,HR C loc σ.pv σ.ph σ.m w→(Instr.lookup t (.map (some b)) (k2 k) ok).run C.P w= .ok (if ok then .tuple #[((zff l k).getD z).val, .bool (zff l k).isSome]else ((zff l k).getD z).val) w:=by
  intro w hw
  have hb:=hw.seenO hs
  have hzr:∀w,(zeroValue et).run C.P w= .ok z.val w:=fun w=>by simp [zeroValue,Sem.run_bind,zbH hinf,hz2]
  have hck:∀e,(Instr.checkKey e 10000 kt (k2 k)).run C.P w= .ok () w:=fun e=>zgI hk2 k e 9998 w
  rcases zrh hk2 k w es.toList _ (zoZ hl)with ⟨g1,_,g3,_⟩|⟨j,e,g1,_,_,g4,_⟩
  ·rw [zyb]at g3
   have g3:zff l k=none:=by simpa using g3
   cases ok<;>simp [Instr.lookup,Sem.run_bind,zo hm,MapKept.run_getObj_map hb,hck,g1,hzr,g3]
  ·rw [zyb,Option.map_eq_some_iff]at g4
   obtain ⟨v,g4,hev⟩:=g4
   cases ok<;>simp [Instr.lookup,Sem.run_bind,zo hm,MapKept.run_getObj_map hb,hck,g1,hzr,g4,hev]
 refine zfe (zjD ho) (s:=Instr.lookup t (.map (some b)) (k2 k) ok) (v:=if ok then .tuple #[((zff l k).getD z).val, .bool (zff l k).isSome]else ((zff l k).getD z).val) ?_ (by simp only [execOp,ho,zs hx a,zs hi a,h1,h2]) fun w hw=>hrun w hw
 cases ok with
 |true=>exact ⟨fun y hy=>by simp at hy;rcases hy with rfl|rfl;exact hvo;rfl,by simp [GV.val]⟩
 |false=>exact ⟨hvo,rfl⟩
theorem zxX {t:TypeId} {x i v:Operand} {x' i' v':Opd} {z:Option Value} (ho:o.op= .mapUpdate t x i v∨o.op= .insert t x i v) (hT:zgY C.P t=some z) (hx:zQ x=some x') (hi:zQ i=some i') (hv:zQ v=some v') (hd:∀t,o.dst=some t→t<C.N)
  (hF:FR loc C.N σ.fr σ.pv σ.ph a) (hH:HR C loc σ.pv σ.ph σ.m w) {b:Nat} {g y:GV} (e1:ev σ x'=some (.g (.s (.map (some b))))) (e2:ev σ i'=some (.g g)) (e3:ev σ v'=some (.g y)) (h:zCb b g y o.dst K σ):o.wp C.P a w (zbD C K) Q:=by
 obtain ⟨kt,et,fs,f0,f1,hm,hk2,_⟩:=zei hT
 obtain ⟨k,ob,l,rfl,hmb,⟨es,cl,rfl,hl,hst,hks⟩,hK⟩:=h
 have h1:=(hF.ev rfl e1).s
 obtain ⟨_,h2⟩:=hF.ev rfl e2
 have h2:evO a i'=k2 k:=h2
 obtain ⟨hyo,h3⟩:=hF.ev rfl e3
 have hb:=hH.mle b _ hmb
 have hck:∀e,(Instr.checkKey e 10000 kt (k2 k)).run C.P w= .ok () w:=fun e=>zgI hk2 k e 9998 w
 have hex:(execOp a.eval o)=(do Instr.mapUpdate t (.map (some b)) (k2 k) y.val;pure .skip:Sem Next):=by
  rcases ho with ho|ho<;>simp only [execOp,ho,zs hx a,zs hi a,zs hv a,h1,h2,h3]
 rcases zrh hk2 k w es.toList _ (zoZ hl)with ⟨g1,g2,_,g4⟩|⟨j,e,g1,g2,g3,_,g5⟩
 ·refine zfy (ob':= .map (es.push {key:=k2 k,val:=y.val,born:=cl}) (cl+1)) (x:= .no) (v:=undef) (w1:=w) hd (.inr ⟨?_,rfl⟩) hH hF hmb rfl (hK _ ⟨_,_,rfl, ?_,MapKept.stamped_push hst g2,zvx hks k hyo⟩)
  ·rw [hex]
   simp [Instr.mapUpdate,Sem.run_bind,zo hm,MapKept.run_getObj_map hb,hck,g1,MapKept.run_setObj_map _ hb,World.setBlk]
  ·have g4:=g4 y.val
   rw [zxF]at g4
   have e5:=congrArg (List.map fun p:(Int×Int)×Value=>(k2 p.1,p.2)) g4
   rw [List.map_map,List.map_append,←zoZ hl]at e5
   show _=(zlH l k y).map ((fun p:(Int×Int)×Value=>(k2 p.1,p.2)) ∘ fun p=>(p.1,p.2.val))
   rw [e5]
   simp [kv]
 ·have hj:es[j]? =some e:=by rw [←Array.getElem?_toList];exact g2
  refine zfy (ob':= .map (es.modify j fun e=>{e with key:=k2 k,val:=y.val}) cl) (x:= .no) (v:=undef) (w1:=w) hd (.inr ⟨?_,rfl⟩) hH hF hmb rfl (hK _ ⟨_,_,rfl, ?_,zjI hst g2 g3,zvx hks k hyo⟩)
  ·rw [hex]
   have hst':(Instr.keyThatStays (k2 k) (k2 k)).run C.P w= .ok (k2 k) w:=by
    have:Instr.sameBits 10000 (k2 k) (k2 k)=true:=by simp [Instr.sameBits,k2]
    simp [Instr.keyThatStays,this]
   simp [Instr.mapUpdate,Sem.run_bind,zo hm,MapKept.run_getObj_map hb,hck,g1,MapKept.run_setObj_map _ hb,World.setBlk,hj,g3,hst']
  ·have g5:=g5 y.val
   rw [zxF]at g5
   have e5:=congrArg (List.map fun p:(Int×Int)×Value=>(k2 p.1,p.2)) g5
   rw [List.map_map]at e5
   show _=(zlH l k y).map ((fun p:(Int×Int)×Value=>(k2 p.1,p.2)) ∘ fun p=>(p.1,p.2.val))
   rw [e5]
   exact zng (zoZ hl) g2 _ (by simp [kv])
theorem zBE {c:Call} {x:Operand} {y:Opd} {t:TypeId} {z:Option Value} (ho:o.op= .call c) (hc:c.callee= .builtin .len) (ha:c.args.toList=[x]) (ht:c.argTypes[0]? =some t) (hT:zgY C.P t=some z)
  (hx:zQ x=some y) (hF:FR loc C.N σ.fr σ.pv σ.ph a) {b:Nat} (e1:ev σ y=some (.g (.s (.map (some b))))) {ob:Obj} {l:List ((Int×Int)×GV)} (hs:zdX C σ.ph σ.m b ob) (hI:zyV ob l):Reads C loc σ o a (.g (.s (.int .i64 l.length))):=by
 obtain ⟨kt,et,fs,f0,f1,hm,hk2,_⟩:=zei hT
 have h1:=(hF.ev rfl e1).s
 refine zfe (zoh ho hc ha ht hm) (s:=Builtin.len_ c.argTypes o.type (c.args.map a.eval)) (v:= .int .i64 l.length) ⟨rfl,rfl⟩ (by rw [zcK ho hc];rfl) fun w hw=> ?_
 obtain ⟨es,cl,rfl,hl,hst,hks⟩:=hI
 have hb:=hw.seenO hs
 have hlen:es.size=l.length:=by have:=congrArg List.length hl;simpa using this
 rw [zmu ha]
 simp [Builtin.len_,ht,Sem.run_bind,zo hm,zs hx a,h1,goInt,MapKept.run_getObj_map hb,hlen]
end
end Go.Proofs.YtmjiojflncffeaaGreat.Vc

set_option linter.unusedVariables false
set_option linter.unusedSimpArgs false
namespace Go.Proofs.YtmjiojflncffeaaGreat.Vc
open Go
section
variable {C:Ctx} {loc:Loc} {σ:SS} {a:Act} {o:Oper} {w:World} {K:KT} {Q:Exit→Act→World→Prop}
theorem zhL:∀{l:List Operand} {l':List Opd},l.mapM zQ=some l'→∀a:Act,l.map a.eval=l'.map (evO a)
 |[],l',h,a=>by simp at h;subst h;rfl
 |x::l,l',h,a=>by
  simp only [List.mapM_cons,Option.bind_eq_bind,Option.bind_eq_some_iff,Option.pure_def,Option.some.injEq]at h
  obtain ⟨y,hy,l2,hl2,rfl⟩:=h
  simp [zs hy a,zhL hl2 a]
theorem zvm {f:Nat} {args:List Opd} {c:Call} {fn:Func} (ho:o.op= .call c) (hc:c.callee= .value (.func f)) (hf:C.P.funcs[f]? =some fn) (hfn:(fn.body.isSome&&fn.name != "runtime.NumGoroutine")=true)
  (ha:c.args.toList.mapM zQ=some args):(execOp a.eval o).run C.P w= .ok (.enter f (args.map (evO a)).toArray) w:=by
 have hargs:c.args.map a.eval=(args.map (evO a)).toArray:=by
  rw [←zhL ha a]
  apply Array.toList_inj.mp
  simp
 obtain ⟨dst,op,type,pos,after,guard⟩:=o
 obtain ⟨callee,cargs,argTypes⟩:=c
 simp only at ho hc hargs
 subst ho;subst hc
 simp at hfn
 obtain ⟨b,hb⟩:=Option.isSome_iff_exists.mp hfn.1
 simp [execOp,resolve,Deferred.ofValue,Act.eval,invoke,callFunc,Sem.run_bind,hf,hfn.2,hb,hargs]
theorem zBe {f:Nat} {args:List Opd} {c:Call} {fn:Func} (ho:o.op= .call c) (hc:c.callee= .value (.func f)) (hf:C.P.funcs[f]? =some fn) (hfn:(fn.body.isSome&&fn.name != "runtime.NumGoroutine")=true)
  (ha:c.args.toList.mapM zQ=some args) (hR:Rel C σ a w) (h:vcCall C f args o.dst K σ):o.wp C.P a w (zbD C K) Q:=by
 unfold Oper.wp
 rw [zvm ho hc hf hfn ha,Oper.upon_enter]
 refine (h.h a w hR).mono fun e w' he=> ?_
 obtain ⟨v,rfl,hK⟩:=he
 exact hK
theorem zzD {f v:Nat} {args:List Opd} {c:Call} {fn:Func} {p q:Array Value} (ho:o.op= .call c) (hc:c.callee= .value (.tmp v)) (hf:C.P.funcs[f]? =some fn) (hfn:(fn.body.isSome&&fn.name != "runtime.NumGoroutine")=true)
  (ha:c.args.toList.mapM zQ=some args) (hv:a.tmps.getD v undef= .func (.func f) p q) (hR:Rel C σ a w) (h:vcCall C f (p.toList.map Opd.c++args++q.toList.map Opd.c) o.dst K σ):o.wp C.P a w (zbD C K) Q:=by
 have hargs:c.args.map a.eval=(args.map (evO a)).toArray:=by
  rw [←zhL ha a]
  apply Array.toList_inj.mp
  simp
 have hcs:∀l:List Value,(l.map Opd.c).map (evO a)=l:=fun l=>by
  induction l with
  |nil=>rfl
  |cons x l ih=>simp only [List.map_cons,ih];rfl
 have hrun:(execOp a.eval o).run C.P w= .ok (.enter f ((p.toList.map Opd.c++args++q.toList.map Opd.c).map (evO a)).toArray) w:=by
  obtain ⟨dst,op,type,pos,after,guard⟩:=o
  obtain ⟨callee,cargs,argTypes⟩:=c
  simp only at ho hc hargs
  subst ho;subst hc
  simp at hfn
  obtain ⟨b,hb⟩:=Option.isSome_iff_exists.mp hfn.1
  have hv':a.tmps[v]?.getD undef= .func (.func f) p q:=by simpa using hv
  have hl:((p.toList.map Opd.c++args++q.toList.map Opd.c).map (evO a)).toArray=p++(args.map (evO a)).toArray++q:=by
   apply Array.toList_inj.mp
   simp [hcs]
  rw [hl]
  simp [execOp,resolve,Deferred.ofValue,Act.eval,hv',invoke,callFunc,Sem.run_bind,hf,hfn.2,hb,hargs]
 unfold Oper.wp
 rw [hrun,Oper.upon_enter]
 refine (h.h a w hR).mono fun e w' he=> ?_
 obtain ⟨v,rfl,hK⟩:=he
 exact hK
theorem zlj (hd:∀t,o.dst=some t→t<C.N) (h:zj C o.dst K σ (cOp C.P o)) (hF:FR loc C.N σ.fr σ.pv σ.ph a) (hH:HR C loc σ.pv σ.ph σ.m w):
  (∃x,Reads C loc σ o a x∧K (σ.put o.dst x))∨(zaD (cOp C.P o)=false∧∀Q,o.wp C.P a w (zbD C K) Q):=by
 have hW:∃w,HR C loc σ.pv σ.ph σ.m w:=⟨w,hH⟩
 unfold cOp at h
 cases hc:zkz C.P o with
 |none=>
  rw [hc]at h
  rw [show cOp C.P o= .bot by unfold cOp;rw [hc];rfl]
  exact (show False from h).elim
 |some ro=>
  rw [hc]at h
  simp only [Option.getD_some]at h
  have fin:∀x,Reads C loc σ o a x→K (σ.put o.dst x)→(∃x,Reads C loc σ o a x∧K (σ.put o.dst x))∨(zaD ((some ro:Option RO).getD .bot)=false∧∀Q,o.wp C.P a w (zbD C K) Q):=fun x hx hk=> .inl ⟨x,hx,hk⟩
  rw [show cOp C.P o=(some ro:Option RO).getD .bot by unfold cOp;rw [hc]]
  unfold zkz at hc
  split at hc
  case h_1 x ho=>
   simp only [Option.map_eq_some_iff]at hc
   obtain ⟨y,hy,rfl⟩:=hc
   simp only [zj]at h
   split at h
   ·rename_i v hv;exact fin v (zCa (.inl ho) hy hF hv) h
   ·exact h.elim
  case h_2 x ho=>
   simp only [Option.map_eq_some_iff]at hc
   obtain ⟨y,hy,rfl⟩:=hc
   simp only [zj]at h
   split at h
   ·rename_i v hv;exact fin v (zCa (.inr ho) hy hF hv) h
   ·exact h.elim
  case h_3 c x y ho=>
   split at hc<;>first|(cases hc;done)|skip
   rename_i c' x' y' hc1 hx1 hy1
   simp only [Option.some.injEq]at hc
   subst hc
   simp only [zj,brB]at h
   split at h
   ·rename_i t v1 v2 ht hv1 hv2
    cases t with
    |true=>exact fin v1 (zxP ho hc1 hx1 hy1 hF ht (by simpa using hv1)) (h.1 rfl)
    |false=>exact fin v2 (zxP ho hc1 hx1 hy1 hF ht (by simpa using hv2)) (h.2 rfl)
   ·exact h.elim
  case h_4 e x ho=>
   simp only [Option.map_eq_some_iff]at hc
   obtain ⟨y,hy,rfl⟩:=hc
   simp only [zj]at h
   split at h
   ·rename_i k g hdst hv
    obtain ⟨hg,he⟩:=hF.ev rfl hv
    refine .inr ⟨rfl,fun Q=>zrj (e:=e) hdst hd ?_ hg hF hH h.1 h.2⟩
    simp [execOp,ho,zs hy a,he,Instr.box,newVar,newRow,Sem.run_bind,GV.cells_val g hg]
   ·exact h.elim
  case h_5 e ho=>
   split at hc<;>first|(cases hc;done)|skip
   rename_i z v hz hv
   split at hc<;>first|(cases hc;done)|skip
   rename_i hok
   simp only [Option.some.injEq]at hc
   subst hc
   simp only [Bool.and_eq_true]at hok
   simp only [zj]at h
   split at h
   ·rename_i k hdst
    obtain ⟨i,hi,hiz⟩:=Option.bind_eq_some_iff.mp hv
    have hcells:v.cells=(GV.flat z).toArray:=by rw [zhB hok.2]
    refine .inr ⟨rfl,fun Q=>zrj (e:=e) hdst hd ?_ (zid hok.1) hF hH h.1 h.2⟩
    simp [execOp,ho,Instr.alloc,zeroValue,typeInfo,hi,hiz,newVar,newRow,Sem.run_bind,hcells]
   ·exact h.elim
  case h_6 s x f ho=>
   split at hc<;>first|(cases hc;done)|skip
   rename_i fs x' hs hx
   split at hc<;>first|(cases hc;done)|skip
   rename_i fd hf
   split at hc<;>first|(cases hc;done)|skip
   rename_i i hi
   split at hc<;>first|(cases hc;done)|skip
   rename_i hz
   simp only [Option.some.injEq]at hc
   subst hc
   simp only [zj]at h
   split at h
   ·rename_i k p hv
    split at h
    ·rename_i g hg;exact fin _ (zBP ho hs hf hi hz hx hF hv hg h.1) h.2
    ·exact h.elim
   ·rename_i k j p hv
    exact fin _ (zzU ho hs hf hi hz hx hF hv h.1) h.2
   ·rename_i b q hv
    exact fin _ (zBg ho hs hf hi hz hx hF hv) h
   ·exact h.elim
  case h_7 t x i ho=>
   split at hc<;>first|(cases hc;done)|skip
   ·rename_i n e x' i' ht hx hi
    simp only [Option.map_eq_some_iff]at hc
    obtain ⟨z,hz,rfl⟩:=hc
    simp only [zj]at h
    split at h
    ·rename_i k p kd j hv hj
     split at h
     ·rename_i g hg;exact fin _ (zBq ho ht hz hx hi hF hv hj hg h.1 h.2.1) h.2.2
     ·exact h.elim
    ·rename_i k l p kd j hv hj
     exact fin _ (zzz ho ht hz hx hi hF hv hj h.1 h.2.1) h.2.2
    ·rename_i b q kd j hv hj
     exact fin _ (zBa ho ht hz hx hi hF hv hj h.1) h.2
    ·exact h.elim
   ·rename_i e x' i' ht hx hi
    simp only [Option.map_eq_some_iff]at hc
    obtain ⟨z,hz,rfl⟩:=hc
    simp only [zj]at h
    split at h
    ·rename_i k s n kd j hv hj
     split at h
     ·rename_i zz xs hg
      obtain ⟨rfl,h2,h3⟩:=h
      exact fin _ (zBY ho ht hz hx hi hF hW hv hj hg h2) h3
     ·exact h.elim
    ·rename_i b q n c kd j hv hj
     exact fin _ (zzG ho ht hz hx hi hF hv hj h.1) h.2
    ·exact h.elim
  case h_8 t x ho=>
   split at hc<;>first|(cases hc;done)|skip
   rename_i d i x' ht hi hx
   simp only [Option.some.injEq]at hc
   subst hc
   simp only [zj]at h
   split at h
   ·rename_i k p hv
    split at h
    ·rename_i g hg
     exact fin _ (rd_ld ho ht hi hx hF hv hg h.1 hW) h.2
    ·exact h.elim
   ·rename_i k l p hv
    exact fin _ (zCZ ho ht hi hx hF hv h.1 hW) h.2
   ·rename_i b q hv
    obtain ⟨y,h1,h2,h3⟩:=h
    exact fin _ (zCY ho ht hi hx hF hv h1 h2) h3
   ·exact h.elim
  case h_9 t x v ho=>
   split at hc<;>first|(cases hc;done)|skip
   rename_i i x' v' hi hx hv
   simp only [Option.some.injEq]at hc
   subst hc
   simp only [zj]at h
   split at h
   ·rename_i k p y e1 e2
    split at h
    ·rename_i g hg
     exact .inr ⟨rfl,fun Q=>zyG ho hi hx hv hd hF hH e1 e2 hg h.1.1 h.1.2 h.2⟩
    ·exact h.elim
   ·rename_i k l p y e1 e2
    split at h
    ·rename_i e z df xs hg
     exact .inr ⟨rfl,fun Q=>zyH ho hi hx hv hd hF hH e1 e2 hg h.1.1 h.1.2 h.2⟩
    ·exact h.elim
   ·rename_i b q y e1 e2
    obtain ⟨h1,cs,e,⟨h2,h3⟩,h4⟩:=h
    exact .inr ⟨rfl,fun Q=>zyR ho hi hx hv hd hF hH e1 e2 h2 h1 (by rw [←h1];omega) h4⟩
   ·exact h.elim
  case h_10 op t x y u ho=>
   have eqs:∀neg,(op= .eql∧neg=false∨op= .neq∧neg=true)→∀x' y',zQ x=some x'→zQ y=some y'→ro= .eqA neg t x' y'→(∃x,Reads C loc σ o a x∧K (σ.put o.dst x))∨(zaD ((some ro:Option RO).getD .bot)=false∧∀Q,o.wp C.P a w (zbD C K) Q):=by
    intro neg hop x' y' hx hy hro
    subst hro
    simp only [zj]at h
    split at h
    ·rename_i p q e1 e2
     obtain ⟨r,h1,h2⟩:=h
     exact fin _ (zCP ho hop hx hy hF e1 e2 h1) h2
    ·rename_i k p e1 e2
     obtain ⟨⟨e,ht⟩,h2⟩:=h
     obtain ⟨_,b,c,_,_,_,_,hp⟩:=hF.ev rfl e1
     exact fin _ (zrF ho hop hx hy hF ht hp e2) h2
    ·rename_i k i p e1 e2
     obtain ⟨⟨e,ht⟩,h2⟩:=h
     obtain ⟨_,_,_,_,b,o',c,_,_,_,_,hp⟩:=hF.ev rfl e1
     exact fin _ (zrF ho hop hx hy hF ht hp e2) h2
    ·rename_i k s n e1 e2
     obtain ⟨⟨e,ht⟩,h2⟩:=h
     obtain ⟨z,xs,g1,g2,g3⟩:=hF.ev rfl e1
     have hrow:=(hH.row g1).2
     cases hl:loc k with
     |none=>
      rw [hl]at g3 hrow
      simp only at hrow
      subst hrow
      obtain ⟨ad,g3⟩:=g3
      exact fin _ (zrG ho hop hx hy hF ht g3 e2) (h2 ad.isNone fun hn=>by simp at g2;omega)
     |some L=>
      obtain ⟨b,f,c⟩:=L
      rw [hl]at g3
      obtain ⟨ad,g3,_⟩:=g3
      exact fin _ (zrG ho hop hx hy hF ht g3 e2) (h2 false fun _=>rfl)
    ·exact h.elim
   have bins:∀x' y',zQ x=some x'→zQ y=some y'→ro= .bin op x' y'→(∃x,Reads C loc σ o a x∧K (σ.put o.dst x))∨(zaD ((some ro:Option RO).getD .bot)=false∧∀Q,o.wp C.P a w (zbD C K) Q):=by
    intro x' y' hx hy hro
    subst hro
    simp only [zj]at h
    split at h
    ·rename_i p q e1 e2
     split at h
     ·rename_i v h1;exact fin _ (zCI ho hx hy hF e1 e2 h1 h.1) h.2
     ·exact h.elim
    ·exact h.elim
   split at hc
   ·rename_i x' y' ht hx hy
    simp only [Option.some.injEq]at hc
    exact bins _ _ hx hy hc.symm
   ·rename_i x' y' ht hx hy
    simp only [Option.some.injEq]at hc
    exact bins _ _ hx hy hc.symm
   ·rename_i x' y' hx hy _ _ ht
    split at hc
    ·simp only [Option.some.injEq]at hc
     exact eqs false (.inl ⟨rfl,rfl⟩) _ _ (by assumption) (by assumption) hc.symm
    ·simp only [Option.some.injEq]at hc
     exact eqs true (.inr ⟨rfl,rfl⟩) _ _ (by assumption) (by assumption) hc.symm
    ·cases hc
   ·cases hc
  case h_11 op t x ho=>
   simp only [Option.map_eq_some_iff]at hc
   obtain ⟨y,hy,rfl⟩:=hc
   simp only [zj]at h
   split at h
   ·rename_i p e1
    split at h
    ·rename_i v h1;exact fin _ (rd_un ho hy hF e1 h1) h
    ·exact h.elim
   ·exact h.elim
  case h_12 t x f ho=>
   split at hc<;>first|(cases hc;done)|skip
   rename_i fs x' hs hx
   split at hc<;>first|(cases hc;done)|skip
   rename_i fd hf
   split at hc<;>first|(cases hc;done)|skip
   rename_i dd i hdd hi
   simp only [Option.some.injEq]at hc
   subst hc
   simp only [zj]at h
   split at h
   ·rename_i g hv;exact fin _ (zBy ho hs hf hdd hi hx hF hv h.1 h.2.1) h.2.2
   ·exact h.elim
  case h_13 t x i ho=>
   split at hc<;>first|(cases hc;done)|skip
   ·rename_i n e x' i' ht hx hi
    split at hc<;>first|(cases hc;done)|skip
    rename_i dd z hdd hz
    simp only [Option.some.injEq]at hc
    subst hc
    simp only [zj]at h
    split at h
    ·rename_i g kd j hv hj;exact fin _ (zBV ho ht hdd hz hx hi hF hv hj h.1 h.2.1 h.2.2.1) h.2.2.2
    ·exact h.elim
   ·rename_i x' i' ht hx hi
    simp only [Option.some.injEq]at hc
    subst hc
    simp only [zj]at h
    split at h
    ·rename_i s kd j hv hj;exact fin _ (zBM ho ht hx hi hF hv hj h.1) h.2
    ·exact h.elim
  case h_14 t x lo hi mx ho=>
   split at hc<;>first|(cases hc;done)|skip
   ·rename_i x' lo' hi' ht hx hlo hhi
    simp only [Option.some.injEq]at hc
    subst hc
    simp only [zj]at h
    split at h
    ·rename_i s hv
     split at h
     ·rename_i l hh hl1 hh1;exact fin _ (zCq ho ht hx hlo hhi hF hv hl1 hh1 h.1) h.2
     ·exact h.elim
    ·exact h.elim
   ·rename_i e x' lo' hi' ht hx hlo hhi
    simp only [Option.map_eq_some_iff]at hc
    obtain ⟨z,hz,rfl⟩:=hc
    simp only [zj]at h
    split at h
    ·rename_i k s n hv
     split at h
     ·rename_i l hh z' xs hl1 hh1 hg
      obtain ⟨⟨rfl,h1⟩,h2⟩:=h
      exact fin _ (rd_sl ho ht hz hx hlo hhi hF hW hv hl1 hh1 h1 (fun z2 xs2 e2=>by rw [hg]at e2;simp at e2;exact e2.1.symm)) h2
     ·exact h.elim
    ·rename_i hv
     split at h
     ·rename_i l hh hl1 hh1
      obtain ⟨⟨rfl,rfl⟩,h2⟩:=h
      exact fin _ (zzK ho ht hz hx hlo hhi hF hv hl1 hh1) h2
     ·exact h.elim
    ·rename_i b q n c hv
     split at h
     ·rename_i l hh hl1 hh1
      exact fin _ (zCt ho ht hz hx hlo hhi hF hv hl1 hh1 h.1) h.2
     ·exact h.elim
    ·rename_i b q sp hv
     split at h
     ·rename_i l hh hl1 hh1
      obtain ⟨⟨rfl,rfl⟩,h2⟩:=h
      exact fin _ (zBL ho ht hz hx hlo hhi hF hv hl1 hh1) h2
     ·exact h.elim
    ·exact h.elim
  case h_15 s t x ho=>
   split at hc<;>first|(cases hc;done)|skip
   rename_i ks k x' hs ht hx
   simp only [Option.some.injEq]at hc
   subst hc
   simp only [zj]at h
   split at h
   ·rename_i kd j hv;exact fin _ (zCN ho hs ht hx hF hv) h
   ·exact h.elim
   rename_i e x' hs ht hx
   split at hc<;>first|(cases hc;done)|skip
   rename_i he
   simp only [Option.some.injEq]at hc
   subst hc
   simp only [zj]at h
   split at h
   ·rename_i y hv
    obtain ⟨bs,h1,h2⟩:=h
    exact fin _ (zCT ho hs ht he hx hF hv h1) h2
   ·exact h.elim
   rename_i e x' hs ht hx
   split at hc<;>first|(cases hc;done)|skip
   rename_i he
   simp only [Option.some.injEq]at hc
   subst hc
   simp only [zj]at h
   split at h
   ·rename_i k b hdst e1
    exact .inr ⟨rfl,fun Q=>zCM ho hs ht he hx hd hF hH hdst e1 h.1 h.2⟩
   ·exact h.elim
  case h_16 x ho=>
   simp only [Option.map_eq_some_iff]at hc
   obtain ⟨y,hy,rfl⟩:=hc
   simp only [zj]at h
   split at h
   ·rename_i k p hv;exact fin _ (zpb ho hy hF hv (.inl ⟨k,p,rfl⟩)) h
   ·rename_i k i p hv;exact fin _ (zpb ho hy hF hv (.inr (.inl ⟨k,i,p,rfl⟩))) h
   ·rename_i ad hv;exact fin _ (zpb ho hy hF hv (.inr (.inr (.inl ⟨ad,rfl⟩)))) h
   ·rename_i f p q hv;exact fin _ (zpb ho hy hF hv (.inr (.inr (.inr ⟨f,p,q,rfl⟩)))) h
   ·exact h.elim
  case h_17 fn first caps ho=>
   split at hc<;>first|(cases hc;done)|skip
   rename_i f hfst
   have hfst':first= #[]:=by simpa using hfst
   subst hfst'
   simp only [Option.map_eq_some_iff]at hc
   obtain ⟨l,hl,rfl⟩:=hc
   simp only [zj]at h
   split at h
   ·rename_i xs e1
    split at h
    ·rename_i vs e2
     have hm:caps.map a.eval=(l.map (evO a)).toArray:=by
      rw [←zhL hl a]
      apply Array.toList_inj.mp
      simp
     exact fin _ (zCG ho hl hF hm e1 e2) h
    ·exact h.elim
   ·exact h.elim
  case h_18 t parts ho=>
   split at hc<;>first|(cases hc;done)|skip
   rename_i z zv l hz hzv hl
   split at hc<;>first|(cases hc;done)|skip
   rename_i hok
   simp only [Option.some.injEq]at hc
   subst hc
   simp only [Bool.and_eq_true,Bool.not_eq_true']at hok
   obtain ⟨⟨⟨ho1,ho2⟩,ho3⟩,ho4⟩:=hok
   simp only [zj]at h
   split at h
   ·rename_i xs e1
    split at h
    ·rename_i gs e2
     obtain ⟨i,hi,hiz⟩:=Option.bind_eq_some_iff.mp hzv
     have hns:∀v,z≠ .s v:=fun v e=>by subst e;simp [GV.isS]at ho1
     have hzf:=zhB ho3
     unfold zCc at ho4
     split at ho4
     ·rename_i fs hu
      split at ho4
      ·rename_i places hp
       simp only [List.all_eq_true,Bool.and_eq_true,beq_iff_eq]at ho4
       exact fin _ (zAT (place:=(places.toArray[·]?)) ho (zid ho2) hzf hns (fun l'=>by simp only [Program.built,hi,hu,hiz,hp]) (fun i hi=>ho4 i hi) hl hF e1 e2 h.1) h.2
      ·cases ho4
     ·rename_i n e hu
      split at ho4
      ·rename_i ie hie
       simp only [List.all_eq_true,Bool.and_eq_true,beq_iff_eq]at ho4
       exact fin _ (zAT (place:=fun i=>some (i*ie.size,ie.size)) ho (zid ho2) hzf hns (fun l'=>by simp only [Program.built,hi,hu,hiz,hie]) (fun i hi=>⟨(ho4 i hi).1,congrArg some (ho4 i hi).2⟩) hl hF e1 e2 h.1) h.2
      ·cases ho4
     ·cases ho4
    ·exact h.elim
   ·exact h.elim
  case h_19 t n parts ho=>
   split at hc<;>first|(cases hc;done)|skip
   rename_i e l ht hl
   split at hc<;>first|(cases hc;done)|skip
   rename_i i df hi hdf
   split at hc<;>first|(cases hc;done)|skip
   rename_i hok
   simp only [Option.some.injEq]at hc
   subst hc
   simp only [Bool.and_eq_true,beq_iff_eq,decide_eq_true_eq]at hok
   obtain ⟨⟨⟨hn,hz1⟩,hsm⟩,hidx⟩:=hok
   obtain ⟨zv,hzv⟩:=Option.isSome_iff_exists.mp hz1
   subst hn
   simp only [zj]at h
   split at h
   ·rename_i k xs hdst e1
    split at h
    ·rename_i gs e2
     refine .inr ⟨rfl,fun Q=>zAW (l:=l) ho ht hi hzv hsm ?_ hdst hd hF hH e1 e2 h.1.1 h.1.2 h.2⟩
     have hlen:l.length=parts.size:=by
      have key:∀(q:List (Nat×Operand)) (r:List Opd),(q.mapM fun x=>zQ x.2)=some r→r.length=q.length:=by
       intro q
       induction q with
       |nil=>intro r hr;simp at hr;subst hr;rfl
       |cons x q ih=>
        intro r hr
        simp only [List.mapM_cons,Option.bind_eq_bind,Option.bind_eq_some_iff,Option.pure_def,Option.some.injEq]at hr
        obtain ⟨y,_,r2,hr2,rfl⟩:=hr
        simp [ih r2 hr2]
      have:=key _ _ hl
      simpa using this
     rw [hlen,←hidx]
     have key:∀(q:List (Nat×Operand)) (r:List Opd),(q.mapM fun x=>zQ x.2)=some r→q.mapM (fun x=>(zQ x.2).map fun y=>(x.1,y))=some ((q.map (·.1)).zip r):=by
      intro q
      induction q with
      |nil=>intro r hr;simp at hr;subst hr;rfl
      |cons x q ih=>
       intro r hr
       simp only [List.mapM_cons,Option.bind_eq_bind,Option.bind_eq_some_iff,Option.pure_def,Option.some.injEq]at hr
       obtain ⟨y,hy,r2,hr2,rfl⟩:=hr
       simp [List.mapM_cons,hy,ih r2 hr2]
     exact key _ _ hl
    ·exact h.elim
   ·exact h.elim
  case h_20 x i ho=>
   simp only [Option.map_eq_some_iff]at hc
   obtain ⟨y,hy,rfl⟩:=hc
   simp only [zj]at h
   split at h
   ·rename_i xs e1
    split at h
    ·rename_i v h1;exact fin _ (zCF ho hy hF e1 h1) h
    ·exact h.elim
   ·exact h.elim
  case h_21 c ho=>
   split at hc
   case h_1 v hcal=>
    simp only [Option.map_eq_some_iff]at hc
    obtain ⟨args,ha,rfl⟩:=hc
    simp only [zj]at h
    split at h
    ·rename_i f p q e1
     obtain ⟨⟨fn,hfn,hb⟩,h2⟩:=h
     exact .inr ⟨rfl,fun Q=>zzD ho hcal hfn hb ha (by have:=(hF.ev rfl e1).s;simpa [evO]using this) ⟨loc,hF,hH⟩ h2⟩
    ·exact h.elim
   case h_2 f hcal=>
    split at hc<;>first|(cases hc;done)|skip
    rename_i fn hfn
    split at hc<;>first|(cases hc;done)|skip
    rename_i hb
    simp only [Option.map_eq_some_iff]at hc
    obtain ⟨args,ha,rfl⟩:=hc
    simp only [zj]at h
    exact .inr ⟨rfl,fun Q=>zBe ho hcal hfn hb ha ⟨loc,hF,hH⟩ h⟩
   case h_3 hcal=>
    split at hc<;>first|(cases hc;done)|skip
    rename_i x t ha ht
    split at hc<;>first|(cases hc;done)|skip
    rotate_left 2
    ·rename_i k e hu
     split at hc<;>first|(cases hc;done)|skip
     ·rename_i kd z y hT hy
      simp only [Option.some.injEq]at hc
      subst hc
      simp only [zj]at h
      split at h
      ·rename_i b e1
       obtain ⟨ob,l,h1,h2,h3⟩:=h
       exact fin _ (zCV ho hcal ha ht hT hy hF e1 h1 h2) h3
      ·rename_i e1
       exact fin _ (zBW ho hcal ha ht hT hy hF e1) h
      ·exact h.elim
     ·rename_i y hT hy
      split at hc<;>first|(cases hc;done)|skip
      rename_i z hT2
      simp only [Option.some.injEq]at hc
      subst hc
      simp only [zj]at h
      split at h
      ·rename_i b e1
       obtain ⟨ob,l,h1,h2,h3⟩:=h
       exact fin _ (zBE ho hcal ha ht hT2 hy hF e1 h1 h2) h3
      ·exact h.elim
    all_goals
     simp only [Option.map_eq_some_iff]at hc
     obtain ⟨y,hy,rfl⟩:=hc
     simp only [zj]at h
    ·rename_i e hu
     split at h
     ·rename_i k s n e1
      obtain ⟨z,xs,h1,h2,h3⟩:=hF.ev rfl e1
      have h3':∃b k c,evO a y= .slice b k c∧(n:Int)=k:=by
       cases hl:loc k with
       |none=>
        have hrow:=(hH.row h1).2
        rw [hl]at hrow h3
        simp only at hrow
        subst hrow
        simp at h2
        obtain ⟨rfl,rfl⟩:=h2
        obtain ⟨ad,h3⟩:=h3
        exact ⟨ad,0,0,h3,rfl⟩
       |some l=>
        obtain ⟨b,o',c⟩:=l
        rw [hl]at h3
        obtain ⟨ad,h3,_⟩:=h3
        exact ⟨_,n,_,h3,rfl⟩
      obtain ⟨b,k',c',h4,h5⟩:=h3'
      exact fin _ (zwk ho hcal ha ht hu hy h4 (.inl ⟨e,b,k',c',rfl,rfl,h5⟩)) h
     ·rename_i b n c' e1
      obtain ⟨h1,h2⟩:=hF.ev rfl e1
      exact fin _ (zwk ho hcal ha ht hu hy h2 (.inl ⟨e,b,n,c',rfl,rfl,rfl⟩)) h
     ·exact h.elim
    ·rename_i hu
     split at h
     ·rename_i b e1
      obtain ⟨h1,h2⟩:=hF.ev rfl e1
      exact fin _ (zwk ho hcal ha ht hu hy h2 (.inr ⟨b,rfl,rfl,rfl⟩)) h
     ·exact h.elim
   case h_4 hcal=>
    split at hc<;>first|(cases hc;done)|skip
    rename_i x y t t2 ha h0 h1
    split at hc<;>first|(cases hc;done)|skip
    rename_i e e2 x' y' ht ht2 hx hy
    split at hc<;>first|(cases hc;done)|skip
    rename_i i df hi hdf
    split at hc<;>first|(cases hc;done)|skip
    rename_i zv hzv
    split at hc<;>first|(cases hc;done)|skip
    rename_i hok
    simp only [Option.some.injEq]at hc
    subst hc
    simp only [Bool.and_eq_true,beq_iff_eq,bne_iff_ne,ne_eq]at hok
    have aok:AppOk C.P c.argTypes e i zv:=⟨⟨t,t2,_,h0,h1,ht,ht2,fun k=>by simp⟩,hi,hzv,hok.1,hok.2⟩
    simp only [zj]at h
    split at h
    ·rename_i k s n j s' n' e1 e2
     split at h
     ·rename_i e' z' df' xs z2 ys hk hj
      obtain ⟨⟨g1,rfl,rfl,rfl,rfl,rfl⟩,g7,g8⟩:=h
      exact .inr ⟨rfl,fun Q=>zpV ho hcal ha hx hy aok hd hF hH e1 e2 g1 hk hj g7 g8⟩
     ·exact h.elim
    ·rename_i v j s' n' e1 e2
     split at h
     ·rename_i z2 ys hj
      obtain ⟨rfl,h⟩:=h
      rcases h with ⟨rfl,k,hdst,g2,g3,g4⟩|h
      ·exact .inr ⟨rfl,fun Q=>zwc ho hcal ha hx hy aok hd hF hH hdst e1 e2 g2 hj g3 g4⟩
      ·exact .inr ⟨rfl,fun Q=>zBU (df:=df) ho hcal ha hx hy aok hd hF hH e1 e2 hj h⟩
     ·exact h.elim
    ·exact h.elim
    rename_i e kd x' y' ht ht2 hx hy
    split at hc<;>first|(cases hc;done)|skip
    rename_i i df hi hdf
    split at hc<;>first|(cases hc;done)|skip
    rename_i zv hzv
    split at hc<;>first|(cases hc;done)|skip
    rename_i hok
    simp only [Option.some.injEq]at hc
    subst hc
    simp only [Bool.and_eq_true,beq_iff_eq,bne_iff_ne,ne_eq]at hok
    obtain ⟨⟨⟨⟨⟨k1,k2⟩,k3⟩,k4⟩,k5⟩,k6⟩:=hok
    simp only [zj]at h
    split at h
    ·rename_i kd' m e1 e2
     split at h
     ·rename_i k hdst
      obtain ⟨⟨g1,g2⟩,g3,g4⟩:=h
      exact .inr ⟨rfl,fun Q=>zBt ho hcal ha hx hy h0 h1 ht ht2 hi hzv k5 k6 (zid k1) (zhB k2) k3 hd hF hH hdst e1 e2 g1 g2 g3 g4⟩
     ·exact h.elim
    ·exact h.elim
   case h_5 hcal=>
    split at hc<;>first|(cases hc;done)|skip
    rename_i x y ha
    split at hc<;>first|(cases hc;done)|skip
    rename_i x' y' hx hy
    simp only [Option.some.injEq]at hc
    subst hc
    simp only [zj]at h
    split at h
    ·rename_i k i k' j e1 e2
     exact fin _ (zCK ho hcal ha hx hy hF e1 e2) h
    ·exact h.elim
   case h_6 hcal=>
    split at hc<;>first|(cases hc;done)|skip
    rename_i x y ha
    split at hc<;>first|(cases hc;done)|skip
    rename_i x' y' hx hy
    simp only [Option.some.injEq]at hc
    subst hc
    simp only [zj]at h
    split at h
    ·rename_i k i k' j e1 e2
     exact fin _ (zCx ho hcal ha hx hy hF e1 e2) h
    ·exact h.elim
   case h_7 hcal=>
    split at hc<;>first|(cases hc;done)|skip
    rename_i x t ha ht
    split at hc<;>first|(cases hc;done)|skip
    rename_i e hu
    simp only [Option.map_eq_some_iff]at hc
    obtain ⟨y,hy,rfl⟩:=hc
    simp only [zj]at h
    split at h
    ·rename_i ad n c' e1
     exact fin _ (zCR ho hcal ha ht hu hy hF e1) h
    ·exact h.elim
   case h_8 hcal=>
    split at hc<;>first|(cases hc;done)|skip
    rename_i x i t ha ht
    split at hc<;>first|(cases hc;done)|skip
    rename_i kd z x' i' hT hx hi
    simp only [Option.some.injEq]at hc
    subst hc
    simp only [zj]at h
    split at h
    ·rename_i b k e1 e2
     exact .inr ⟨rfl,fun Q=>zCD ho hcal ha ht hT hx hi hd hF hH e1 e2 h⟩
    ·exact h.elim
   case h_9=>cases hc
  case h_22 t n c ho=>
   split at hc<;>first|(cases hc;done)|skip
   rename_i e n' c' ht hn hcc
   split at hc<;>first|(cases hc;done)|skip
   rename_i i df hi hdf
   split at hc<;>first|(cases hc;done)|skip
   rename_i zv hzv
   split at hc<;>first|(cases hc;done)|skip
   rename_i hok
   simp only [Option.some.injEq]at hc
   subst hc
   simp only [Bool.and_eq_true,beq_iff_eq,bne_iff_ne,ne_eq]at hok
   obtain ⟨⟨⟨⟨k1,k2⟩,k3⟩,k4⟩,k5⟩:=hok
   simp only [zj]at h
   split at h
   ·rename_i kd m kd' m' e1 e2
    split at h
    ·rename_i k hdst
     obtain ⟨⟨g1,rfl,g2⟩,g3,g4⟩:=h
     exact .inr ⟨rfl,fun Q=>zCE ho ht hn hcc hi hzv (zid k1) (zhB k2) k3 k5 hd hF hH hdst e1 e2 g1 g2 g3 g4⟩
    ·exact h.elim
   ·exact h.elim
  case h_23 t r ho=>
   split at hc<;>first|(cases hc;done)|skip
   simp only [Option.some.injEq]at hc
   subst hc
   exact .inr ⟨rfl,fun Q=>zCL ho hd hF hH h⟩
  case h_24 t x i ok ho=>
   split at hc<;>first|(cases hc;done)|skip
   ·rename_i kd z x' i' hT hx hi
    simp only [Option.some.injEq]at hc
    subst hc
    simp only [zj]at h
    split at h
    ·rename_i b k e1 e2
     obtain ⟨ob,l,h1,h2,h3,h4⟩:=h
     exact fin _ (zCr ho hT hx hi hF e1 e2 h1 h2 h3) h4
    ·exact h.elim
   ·rename_i x' i' hT hx hi
    split at hc<;>first|(cases hc;done)|skip
    ·rename_i z hT2
     simp only [Option.some.injEq]at hc
     subst hc
     simp only [zj]at h
     split at h
     ·rename_i b g e1 e2
      obtain ⟨k,ob,l,rfl,h1,h2,h3⟩:=h
      exact fin _ (zBI ho hT2 hx hi hF e1 e2 h1 h2) h3
     ·exact h.elim
    ·rename_i hT2
     split at hc<;>first|(cases hc;done)|skip
     rename_i z hG
     simp only [Option.some.injEq]at hc
     subst hc
     simp only [zj]at h
     split at h
     ·rename_i b g e1 e2
      obtain ⟨k,ob,l,rfl,h1,h2,h3⟩:=h
      exact fin _ (zBX ho hT2 hG hx hi hF e1 e2 h1 h2) h3
     ·exact h.elim
  case h_25 t x i v ho=>
   split at hc<;>first|(cases hc;done)|skip
   ·rename_i kd z x' i' v' hT hx hi hv
    simp only [Option.some.injEq]at hc
    subst hc
    simp only [zj]at h
    split at h
    ·rename_i b k y e1 e2 e3
     exact .inr ⟨rfl,fun Q=>zAw (.inl ho) hT hx hi hv hd hF hH e1 e2 e3 h⟩
    ·exact h.elim
   ·rename_i x' i' v' hT hx hi hv
    split at hc<;>first|(cases hc;done)|skip
    ·rename_i z hT2
     simp only [Option.some.injEq]at hc
     subst hc
     simp only [zj]at h
     split at h
     ·rename_i b g y e1 e2 e3
      exact .inr ⟨rfl,fun Q=>zxr (.inl ho) hT2 hx hi hv hd hF hH e1 e2 e3 h⟩
     ·exact h.elim
    ·rename_i hT2
     simp only [Option.some.injEq]at hc
     subst hc
     simp only [zj]at h
     split at h
     ·rename_i b g y e1 e2 e3
      exact .inr ⟨rfl,fun Q=>zxX (.inl ho) hT2 hx hi hv hd hF hH e1 e2 e3 h⟩
     ·exact h.elim
  case h_26 t x i v ho=>
   split at hc<;>first|(cases hc;done)|skip
   ·rename_i kd z x' i' v' hT hx hi hv
    simp only [Option.some.injEq]at hc
    subst hc
    simp only [zj]at h
    split at h
    ·rename_i b k y e1 e2 e3
     exact .inr ⟨rfl,fun Q=>zAw (.inr ho) hT hx hi hv hd hF hH e1 e2 e3 h⟩
    ·exact h.elim
   ·rename_i x' i' v' hT hx hi hv
    split at hc<;>first|(cases hc;done)|skip
    ·rename_i z hT2
     simp only [Option.some.injEq]at hc
     subst hc
     simp only [zj]at h
     split at h
     ·rename_i b g y e1 e2 e3
      exact .inr ⟨rfl,fun Q=>zxr (.inr ho) hT2 hx hi hv hd hF hH e1 e2 e3 h⟩
     ·exact h.elim
    ·rename_i hT2
     simp only [Option.some.injEq]at hc
     subst hc
     simp only [zj]at h
     split at h
     ·rename_i b g y e1 e2 e3
      exact .inr ⟨rfl,fun Q=>zxX (.inr ho) hT2 hx hi hv hd hF hH e1 e2 e3 h⟩
     ·exact h.elim
  case h_27 t x ho=>
   split at hc<;>first|(cases hc;done)|skip
   rename_i kd z x' hT hx
   simp only [Option.some.injEq]at hc
   subst hc
   simp only [zj]at h
   split at h
   ·rename_i b e1
    exact .inr ⟨rfl,fun Q=>zCp ho hT hx hd hF hH e1 h⟩
   ·exact h.elim
  case h_28 x ho=>
   simp only [Option.map_eq_some_iff]at hc
   obtain ⟨y,hy,rfl⟩:=hc
   simp only [zj]at h
   split at h
   ·rename_i r e1
    exact .inr ⟨rfl,fun Q=>zCU ho hy hd hF hH e1 h⟩
   ·exact h.elim
  case h_29 x ho=>
   simp only [Option.map_eq_some_iff]at hc
   obtain ⟨y,hy,rfl⟩:=hc
   simp only [zj]at h
   split at h
   ·rename_i r e1
    obtain ⟨it,b,ob,kd,l,s,p,h1,h2,h3,h4,h5⟩:=h
    exact fin _ (zCn ho hy hF e1 h1 h2 h3 h4) h5
   ·exact h.elim
  case h_30 t x i ho=>
   split at hc<;>first|(cases hc;done)|skip
   rename_i z x' i' hT hx hi
   simp only [Option.some.injEq]at hc
   subst hc
   simp only [zj]at h
   split at h
   ·rename_i b g e1 e2
    exact .inr ⟨rfl,fun Q=>zBc ho hT hx hi hd hF hH e1 e2 h⟩
   ·exact h.elim
  case h_31 t x s v ho=>
   split at hc<;>first|(cases hc;done)|skip
   rename_i z x' s' v' hT hx hs hv
   simp only [Option.some.injEq]at hc
   subst hc
   simp only [zj]at h
   split at h
   ·rename_i b s y e1 e2 e3
    exact .inr ⟨rfl,fun Q=>zBH ho hT hx hs hv hd hF hH e1 e2 e3 h⟩
   ·exact h.elim
  case h_32=>cases hc
theorem zqh (hd:∀t,o.dst=some t→t<C.N) (h:zj C o.dst K σ (cOp C.P o)) (hR:Rel C σ a w):o.wp C.P a w (zbD C K) Q:=by
 obtain ⟨loc,hF,hH⟩:=hR
 rcases zlj hd h hF hH with ⟨x,hx,hk⟩|h1
 ·exact zuK hd hx hF hH hk
 ·exact h1.2 Q
theorem zAA {f:Nat} {args:List Opd} (hro:cOp C.P o= .call f args):∃c fn,o.op= .call c∧c.callee= .value (.func f)∧C.P.funcs[f]? =some fn∧(fn.body.isSome&&fn.name != "runtime.NumGoroutine")=true∧c.args.toList.mapM zQ=some args:=by
 unfold cOp at hro
 cases hc:zkz C.P o with
 |none=>rw [hc]at hro;cases hro
 |some ro=>
  rw [hc]at hro
  simp only [Option.getD_some]at hro
  subst hro
  unfold zkz at hc
  split at hc
  case h_21 c ho=>
   split at hc
   case h_2 f' hcal=>
    split at hc<;>first|(cases hc;done)|skip
    rename_i fn hfn
    split at hc<;>first|(cases hc;done)|skip
    rename_i hb
    simp only [Option.map_eq_some_iff]at hc
    obtain ⟨args',ha,he⟩:=hc
    simp only [RO.call.injEq]at he
    obtain ⟨rfl,rfl⟩:=he
    exact ⟨c,fn,ho,hcal,hfn,hb,ha⟩
   all_goals (repeat' (split at hc))<;>first|(cases hc;done)|(simp only [Option.map_eq_some_iff]at hc;obtain ⟨_,_,he⟩:=hc;cases he)
  all_goals (repeat' (split at hc))<;>first|(cases hc;done)|(simp only [Option.map_eq_some_iff]at hc;obtain ⟨_,_,he⟩:=hc;cases he)
theorem zyi {x:Opd} {args:List Opd} (hro:cOp C.P o= .callV x args):∃c v,o.op= .call c∧c.callee= .value (.tmp v)∧x= .t v∧c.args.toList.mapM zQ=some args:=by
 unfold cOp at hro
 cases hc:zkz C.P o with
 |none=>rw [hc]at hro;cases hro
 |some ro=>
  rw [hc]at hro
  simp only [Option.getD_some]at hro
  subst hro
  unfold zkz at hc
  split at hc
  case h_21 c ho=>
   split at hc
   case h_1 v hcal=>
    simp only [Option.map_eq_some_iff]at hc
    obtain ⟨args',ha,he⟩:=hc
    simp only [RO.callV.injEq]at he
    obtain ⟨rfl,rfl⟩:=he
    exact ⟨c,v,ho,hcal,rfl,ha⟩
   all_goals (repeat' (split at hc))<;>first|(cases hc;done)|(simp only [Option.map_eq_some_iff]at hc;obtain ⟨_,_,he⟩:=hc;cases he)
  all_goals (repeat' (split at hc))<;>first|(cases hc;done)|(simp only [Option.map_eq_some_iff]at hc;obtain ⟨_,_,he⟩:=hc;cases he)
theorem zyj {f v:Nat} {args:List Opd} {c:Call} {fn:Func} {p q:Array Value} (ho:o.op= .call c) (hc:c.callee= .value (.tmp v)) (hf:C.P.funcs[f]? =some fn) (hfn:(fn.body.isSome&&fn.name != "runtime.NumGoroutine")=true)
  (ha:c.args.toList.mapM zQ=some args) (hv:a.tmps.getD v undef= .func (.func f) p q):(execOp a.eval o).run C.P w= .ok (.enter f ((p.toList.map Opd.c++args++q.toList.map Opd.c).map (evO a)).toArray) w:=by
 have hargs:c.args.map a.eval=(args.map (evO a)).toArray:=by
  rw [←zhL ha a]
  apply Array.toList_inj.mp
  simp
 have hcs:∀l:List Value,(l.map Opd.c).map (evO a)=l:=fun l=>by
  induction l with
  |nil=>rfl
  |cons x l ih=>simp only [List.map_cons,ih];rfl
 obtain ⟨dst,op,type,pos,after,guard⟩:=o
 obtain ⟨callee,cargs,argTypes⟩:=c
 simp only at ho hc hargs
 subst ho;subst hc
 simp at hfn
 obtain ⟨b,hb⟩:=Option.isSome_iff_exists.mp hfn.1
 have hv':a.tmps[v]?.getD undef= .func (.func f) p q:=by simpa using hv
 have hl:((p.toList.map Opd.c++args++q.toList.map Opd.c).map (evO a)).toArray=p++(args.map (evO a)).toArray++q:=by
  apply Array.toList_inj.mp
  simp [hcs]
 rw [hl]
 simp [execOp,resolve,Deferred.ofValue,Act.eval,hv',invoke,callFunc,Sem.run_bind,hf,hfn.2,hb,hargs]
theorem ztE {q:Act→Prop} (hd:∀t,o.dst=some t→t<C.N) (h:zX C o.dst K σ (cOp C.P o)) (hF:FR loc C.N σ.fr σ.pv σ.ph a) (hW:∃w,HR C loc σ.pv σ.ph σ.m w)
  (hq:∀x v,SVr loc σ.pv x v→K (σ.put o.dst x)→q (a.put o.dst v)):o.quiet C.P a (fun w=>HR C loc σ.pv σ.ph σ.m w) q:=by
 unfold zX at h
 split at h
 ·rename_i f args hro
  obtain ⟨y,hy,hcall,hk⟩:=h
  refine ⟨y.val,fun w hw=> ?_,hq (.g y) y.val ⟨hy,rfl⟩ hk⟩
  obtain ⟨c,fn,ho,hcal,hfn,hb,ha⟩:=zAA hro
  unfold Oper.quietAt
  rw [zvm ho hcal hfn hb ha]
  exact ⟨rfl,hcall loc a w hF hw⟩
 ·rename_i x args hro
  split at h
  ·rename_i f p q' e1
   obtain ⟨⟨fn,hfn,hb⟩,y,hy,hcall,hk⟩:=h
   refine ⟨y.val,fun w hw=> ?_,hq (.g y) y.val ⟨hy,rfl⟩ hk⟩
   obtain ⟨c,v,ho,hcal,rfl,ha⟩:=zyi hro
   unfold Oper.quietAt
   rw [zyj ho hcal hfn hb ha (by have:=(hF.ev rfl e1).s;simpa [evO]using this)]
   exact ⟨rfl,hcall loc a w hF hw⟩
  ·exact h.elim
 ·obtain ⟨h1,h2⟩:=h
  obtain ⟨w,hw⟩:=hW
  rcases zlj hd h2 hF hw with ⟨x,⟨v,hv,hrun,_⟩,hk⟩|h3
  ·refine ⟨v,fun w hw=> ?_,hq x v hv hk⟩
   unfold Oper.quietAt
   rw [hrun w hw]
   exact ⟨rfl,rfl⟩
  ·rw [h3.1]at h1;cases h1
end
end Go.Proofs.YtmjiojflncffeaaGreat.Vc

set_option linter.unusedVariables false
set_option linter.unusedSimpArgs false
namespace Go.Proofs.YtmjiojflncffeaaGreat.Vc
open Go
section
variable {P:Program} {ops:Array Oper} {C:World→Prop}
def HeadQ (P:Program) (ops:Array Oper) (C:World→Prop) (n:Nat) (L:Array Bool→Act→Prop):Nat→Array Bool→Act→Prop
 |0,lst,a=>L lst a
 |f+1,lst,a=>Region.ready .any ops lst≠[]∧∀i∈Region.ready .any ops lst,i<n∧qOp P ops C i (HeadQ P ops C n L f (lst.setIfInBounds i true)) a
theorem HeadQ.any {n g:Nat} {L:Array Bool→Act→Prop} {Q:Exit→Act→World→Prop} (hL:∀lst a w,C w→L lst a→wpAny P .any ops Q g lst a w):∀(f:Nat) (lst:Array Bool) (a:Act) (w:World),C w→HeadQ P ops C n L f lst a→wpAny P .any ops Q (g+f) lst a w:=by
 intro f
 induction f with
 |zero=>exact fun lst a w hw h=>hL lst a w hw h
 |succ f ih=>
  intro lst a w hw ⟨h0,h⟩
  show wpAny P .any ops Q ((g+f)+1) lst a w
  exact ⟨fun e=>absurd e h0,fun i hi=>wpOp_of_qOp hw (fun a' w' hw' h'=>ih _ a' w' hw' h') (h i hi).2⟩
theorem HeadQ.first {n i:Nat} {o:Oper} {v:Value} {L:Array Bool→Act→Prop} (ho:ops[i]? =some o) (hns:Region.noSelect ops=true) (hsk:Region.sinkB .any ops n=true) (hch:Region.chainB .any ops n=true) (hn:n<ops.size) (hi:i<n)
  (hend:∀lst a,L lst a→∀j∈Region.ready .any ops lst,n≤j) (f:Nat):∀(lst:Array Bool) (a:Act),HeadInv .any ops n lst→
   (∀j oj,ops[j]? =some oj→j≠i→lst.getD j true=false→(∀e∈oj.after,Region.binds .any e=true→e.on≠i)→o.apart ops oj=true)→
   i∈Region.ready .any ops lst→YieldsIn P ops C o v a→HeadQ P ops C n L f (lst.setIfInBounds i true) (a.put o.dst v)→HeadQ P ops C n L (f+1) lst a:=by
 have hsel:=Region.noSelect_spec hns
 induction f with
 |zero=>
  intro lst a inv hap hr hy h
  refine ⟨List.ne_nil_of_mem hr,fun j hj=> ?_⟩
  by_cases hji:j=i
  ·subst hji;exact ⟨hi,hy.qOp ho h⟩
  ·have h1:=hend _ _ h j (ready_mono hj hji)
   exact absurd hj (tail_waits hsk hch hn inv _ i rfl hi (mem_ready.1 hr).1 j h1)
 |succ f ih=>
  intro lst a inv hap hr hy h
  have hun:=(mem_ready.1 hr).1
  refine ⟨List.ne_nil_of_mem hr,fun j hj=> ?_⟩
  have hjn:j<n:=Nat.lt_of_not_le fun hle=>tail_waits hsk hch hn inv _ i rfl hi hun j hle hj
  refine ⟨hjn, ?_⟩
  by_cases hji:j=i
  ·subst hji;exact hy.qOp ho h
  ·obtain ⟨hjun,oj,hoj,hall⟩:=mem_ready.1 hj
   have hnot:∀e∈oj.after,Region.binds .any e=true→e.on≠i:=fun e he hb heq=>by
    have h3:=hall e he hb
    rw [heq,getD_both hun]at h3
    cases h3
   have hq:=qOp_put hoj (hap j oj hoj hji hjun hnot) (fun cs b=>hsel i o cs b ho) (fun cs b=>hsel j oj cs b hoj) hy (h.2 j (ready_mono hj hji)).2
   refine qOp_mono (fun a' h3=> ?_) hq
   refine ih _ a' (inv.set hj hjn) (fun k ok hk hki hu hno=>hap k ok hk hki ?_ hno) (ready_mono hr (Ne.symm hji)) h3.1 ?_
   ·by_cases hjk:j=k
    ·subst hjk;exact hjun
    ·rw [getD_set_ne true hjk]at hu;exact hu
   ·rw [Array.setIfInBounds_comm _ _ hji];exact h3.2
theorem HeadQ.lex {n g:Nat} {A:Act→Prop} (hns:Region.noSelect ops=true) (hsk:Region.sinkB .any ops n=true) (hch:Region.chainB .any ops n=true) (hn:n<ops.size):∀(l:List Oper) (k:Nat) (lst:Array Bool) (a:Act),
  (∀j,j<l.length→l[j]? =ops[k+j]?)→k+l.length=n→HeadInv .any ops n lst→Region.lexHead .any ops g l.length k lst=true→wpQuiet P ops C A l a→
  HeadQ P ops C n (fun lst' a'=>Region.seqB .any ops g n lst'=true∧A a') l.length lst a:=by
 intro l
 induction l with
 |nil=>
  intro k lst a hl hk inv hB h
  simp only [List.length_nil,Nat.add_zero]at hk
  subst hk
  exact ⟨hB,h⟩
 |cons o l ih=>
  intro k lst a hl hk inv hB h
  have h0:ops[k]? =some o:=by simpa using (hl 0 (by simp)).symm
  simp only [List.length_cons]at hk
  simp only [List.length_cons,Region.lexHead,Bool.and_eq_true]at hB
  have hr:k∈Region.ready .any ops lst:=by simpa using hB.1.1
  have hq:qOp P ops C k (wpQuiet P ops C A l) a:=by unfold qOp;simp only [h0];exact h
  obtain ⟨v,hy,hK⟩:=yieldsIn_of_qOp h0 hq
  refine HeadQ.first h0 hns hsk hch hn (by omega) (fun lst' a' hL=>seqB_ready hL.1) l.length lst a inv (Region.free_spec h0 hB.1.2) hr hy ?_
  exact ih (k+1) _ _ (fun j hj=>by
   have:=hl (j+1) (by simp;omega)
   simpa [Nat.add_assoc,Nat.add_comm 1 j]using this) (by omega) (inv.set hr (by omega)) hB.2 hK
theorem zsS {id:Nat} {Q:Exit→Act→World→Prop} {a:Act} {w:World} (n:Nat) (hm:P.follows .mixedOrders=true) (hB:Region.lexTailB .any ops n=true) (hC:C {w with drawn:=w.drawn+1})
  (h:wpQuiet P ops C (fun a'=>∀w',C w'→wpList P ops Q (ops.toList.drop n) a' w') (ops.toList.take n) a):(Code.region id ops true).wp P Q a w:=by
 simp only [Region.lexTailB,Bool.and_eq_true,decide_eq_true_eq]at hB
 obtain ⟨⟨⟨⟨hns,hn⟩,hsk⟩,hch⟩,hlex⟩:=hB
 have htl:(ops.toList.take n).length=n:=by simp;omega
 have hdl:(ops.toList.drop n).length=ops.size - n:=by simp
 have inv0:HeadInv .any ops n (Array.replicate ops.size false):=
  ⟨by simp,fun j oj _ hl=>(by rw [getD_replicate_false]at hl;cases hl),fun t _ ht=>getD_in (by simpa using ht) (getD_replicate_false _ _)⟩
 have H:=HeadQ.lex (P:=P) (C:=C) (g:=ops.size - n) hns hsk hch hn (ops.toList.take n) 0 _ a (fun j hj=>by
  rw [htl]at hj
  simp [hj]) (by omega) inv0 (by rw [htl];exact hlex) h
 refine wp_region_any hm ?_
 have:=HeadQ.any (Q:=Q) (g:=ops.size - n) (fun lst a' w' hw' hL=>by
  have h2:=wpAny_of_seq (md:= .any) (Q':=Q) (ops.toList.drop n) n lst a' w' (fun j=>by simp [List.getElem?_drop]) (by rw [hdl];exact hL.1) (hL.2 w' hw')
  rwa [hdl]at h2) _ _ _ _ hC H
 rw [htl,show ops.size - n+n=ops.size by omega]at this
 exact this
end
end Go.Proofs.YtmjiojflncffeaaGreat.Vc

set_option linter.unusedVariables false
set_option linter.unusedSimpArgs false
namespace Go.Proofs.YtmjiojflncffeaaGreat.Vc
open Go
section
variable {P:Program} {ops:Array Oper}
def wpOpN (P:Program) (ops:Array Oper) (i:Nat) (K:Act→World→Prop) (a:Act) (w:World):Prop:=
 match ops[i]? with
 |none=>K a w
 |some o=>if Region.wanted o (yielded ops a.tmps)then o.wp P a w K (fun _ _ _=>False)else K (a.put o.dst undef) w
def znp (P:Program) (ops:Array Oper) (D:Act→World→Prop):Nat→Array Bool→Act→World→Prop
 |0,l,a,w=>Region.ready .any ops l=[]∧D a w
 |f+1,l,a,w=>(Region.ready .any ops l=[]→D a w)∧∀i∈Region.ready .any ops l,wpOpN P ops i (znp P ops D f (l.setIfInBounds i true)) a w
theorem zrA {o:Oper} {a:Act} {w:World} {K K':Act→World→Prop} {Q:Exit→Act→World→Prop} (hK:∀a w,K a w→K' a w) (h:o.wp P a w K (fun _ _ _=>False)):o.wp P a w K' Q:=by
 unfold Oper.wp at*
 generalize (execOp a.eval o).run P w=r at*
 cases r with
 |ok n w'=>
  cases n<;>simp only [Oper.upon]at h ⊢
  case value v=>exact hK _ _ h
  case skip=>exact hK _ _ h
  case defer d=>exact hK _ _ h
  case enter f args=>
   refine Calls.mono h fun e w'' he=> ?_
   cases e with
   |returned u=>exact hK _ _ he
   |panicked c=>exact he.elim
   |outgrown=>obtain ⟨_,_,h⟩:=he;exact h.elim
  case row row args=>exact Rows.mono h fun u w'' he=>hK _ _ he
 |halt x w'=>cases x<;>simp only [Oper.upon]at h ⊢
theorem zek {D:Act→World→Prop} {Q:Exit→Act→World→Prop} (hD:∀a w,D a w→Q .normal a w):∀(f:Nat) (l:Array Bool) (a:Act) (w:World),znp P ops D f l a w→wpAny P .any ops Q f l a w
 |0,_,_,_,h=>⟨h.1,hD _ _ h.2⟩
 |f+1,l,a,w,h=>⟨fun e=>hD _ _ (h.1 e),fun i hi=>by
  have h1:=h.2 i hi
  unfold wpOpN at h1
  unfold wpOp
  split
  ·rename_i ho;simp only [ho]at h1;exact zek hD f _ _ _ h1
  ·rename_i o ho
   simp only [ho]at h1
   split
   ·rename_i hw
    rw [if_pos hw]at h1
    exact .inl (zrA (fun a' w'=>zek hD f _ a' w') h1)
   ·rename_i hw
    rw [if_neg hw]at h1
    exact zek hD f _ _ _ h1⟩
def YieldsEv (P:Program) (ops:Array Oper) (o:Oper) (v:Value) (a:Act):Prop:=
 (Region.wanted o (yielded ops a.tmps)=true∧∀w,(execOp a.eval o).run P w= .ok (.value v) w)∨(Region.wanted o (yielded ops a.tmps)=false∧v=undef)
theorem YieldsEv.wpOpN {i:Nat} {o:Oper} {v:Value} {a:Act} {w:World} (hi:ops[i]? =some o) (hy:YieldsEv P ops o v a) {K:Act→World→Prop} (h:K (a.put o.dst v) w):wpOpN P ops i K a w:=by
 unfold Go.Proofs.YtmjiojflncffeaaGreat.Vc.wpOpN
 simp only [hi]
 rcases hy with ⟨h1,h2⟩|⟨h1,rfl⟩
 ·rw [if_pos h1]
  unfold Oper.wp
  rw [h2,Oper.upon_value]
  exact h
 ·rw [h1];exact h
theorem YieldsEv.of_same {o:Oper} {v:Value} {a a':Act} (hy:YieldsEv P ops o v a) (he:execOp a'.eval o=execOp a.eval o) (hw:Region.wanted o (yielded ops a'.tmps)=Region.wanted o (yielded ops a.tmps)):YieldsEv P ops o v a':=by
 unfold YieldsEv at*
 rw [he,hw]
 exact hy
theorem zqu (a:Act) (d:Option Tmp) (v:Value) (ds:List Deferred):({a with defers:=ds}:Act).put d v={a.put d v with defers:=ds}:=by
 cases d<;>rfl
theorem zxJ (a:Act) (d:Option Tmp) (v:Value):(a.put d v).defers=a.defers:=by
 cases d<;>rfl
theorem zzh {j:Nat} {oi oj:Oper} {v:Value} {w:World} (hj:ops[j]? =some oj) (hap:oi.apart ops oj=true)
  (hsi:∀cs b,oi.op≠ .select cs b) (hsj:∀cs b,oj.op≠ .select cs b) {K:Act→World→Prop} {a:Act}
  (hy:YieldsEv P ops oi v a) (h:wpOpN P ops j K (a.put oi.dst v) w):
  wpOpN P ops j (fun a' w'=>YieldsEv P ops oi v a'∧K (a'.put oi.dst v) w') a w:=by
 obtain ⟨h1,h2,h3⟩:=Oper.apart_spec hap
 have keep:∀(b:Act),YieldsEv P ops oi v b→∀u,YieldsEv P ops oi v (b.put oj.dst u):=fun b hb u=>
  hb.of_same (execOp_put oi hsi b oj.dst u h3) (wanted_put oi b oj.dst u h3)
 unfold wpOpN at*
 simp only [hj]at*
 rw [wanted_put oj a oi.dst v h1]at h
 split
 ·rename_i hw
  rw [if_pos hw]at h
  unfold Oper.wp at*
  rw [execOp_put oj hsj a oi.dst v h1]at h
  generalize (execOp a.eval oj).run P w=r at*
  cases r with
  |ok n w'=>
   cases n<;>simp only [Oper.upon]at h ⊢
   case value u=>exact ⟨keep a hy u,by rw [←Act.put_comm a v u h2];exact h⟩
   case skip=>exact ⟨keep a hy _,by rw [←Act.put_comm a v undef h2];exact h⟩
   case defer d=>
    refine ⟨keep _ (hy.of_same (a':={a with defers:=d::a.defers}) rfl rfl) _, ?_⟩
    rw [←Act.put_comm _ v undef h2,zqu a oi.dst v]
    rw [zxJ]at h
    exact h
   case enter f args=>
    refine Calls.mono h fun e w'' he=> ?_
    cases e with
    |returned u=>exact ⟨keep a hy u,by rw [←Act.put_comm a v u h2];exact he⟩
    |panicked c=>exact he
    |outgrown=>exact he
   case row row args=>exact Rows.mono h fun u w'' he=>⟨keep a hy u,by rw [←Act.put_comm a v u h2];exact he⟩
  |halt x w'=>cases x<;>simp only [Oper.upon]at h ⊢
 ·rename_i hw
  rw [if_neg hw]at h
  exact ⟨keep a hy _,by rw [←Act.put_comm a v undef h2];exact h⟩
theorem zgH {i:Nat} {a:Act} {w:World} {K K':Act→World→Prop} (h:∀a w,K a w→K' a w) (hh:wpOpN P ops i K a w):wpOpN P ops i K' a w:=by
 unfold wpOpN at*
 split
 ·rename_i ho;simp only [ho]at hh;exact h _ _ hh
 ·rename_i o ho
  simp only [ho]at hh
  split
  ·rename_i hw;rw [if_pos hw]at hh;exact zrA h hh
  ·rename_i hw;rw [if_neg hw]at hh;exact h _ _ hh
theorem zxE {listed:Array Bool} {i:Nat} (h:listed.getD i true=false):listed.getD i false=false:=by
 rcases Nat.lt_or_ge i listed.size with h'|h'
 ·simp [h']at h ⊢;exact h
 ·simp [Array.getElem?_eq_none h']at h
theorem zsD {D:Act→World→Prop} {i:Nat} {oi:Oper} {v:Value} (hi:ops[i]? =some oi) (hsel:∀(j:Nat) (o:Oper) cs b,ops[j]? =some o→o.op≠ .select cs b):
  ∀(f:Nat) (l:Array Bool) (a:Act) (w:World),
   (∀j oj,ops[j]? =some oj→j≠i→l.getD j true=false→(∀e∈oj.after,Region.binds .any e=true→e.on≠i)→oi.apart ops oj=true)→
   i∈Region.ready .any ops l→YieldsEv P ops oi v a→
   znp P ops D f (l.setIfInBounds i true) (a.put oi.dst v) w→znp P ops D (f+1) l a w:=by
 intro f
 induction f with
 |zero=>
  intro l a w _ hr hy H
  refine ⟨fun h=>(by rw [h]at hr;cases hr),fun j hj=> ?_⟩
  by_cases hji:j=i
  ·subst hji;exact hy.wpOpN hi H
  ·have:=ready_mono hj hji
   rw [H.1]at this
   cases this
 |succ f ih=>
  intro l a w hfree hr hy H
  refine ⟨fun h=>(by rw [h]at hr;cases hr),fun j hj=> ?_⟩
  by_cases hji:j=i
  ·subst hji;exact hy.wpOpN hi H
  ·have h1:=H.2 j (ready_mono hj hji)
   obtain ⟨hjun,oj,hoj,hall⟩:=mem_ready.1 hj
   have hnot:∀e∈oj.after,Region.binds .any e=true→e.on≠i:=fun e he hb heq=>by
    have h1:=hall e he hb
    have h0:=(mem_ready.1 hr).1
    rw [heq,zxE h0]at h1
    cases h1
   have h2:=zzh hoj (hfree j oj hoj hji hjun hnot) (fun cs b=>hsel i oi cs b hi) (fun cs b=>hsel j oj cs b hoj) hy h1
   have hfree':∀k ok,ops[k]? =some ok→k≠i→(l.setIfInBounds j true).getD k true=false→
     (∀e∈ok.after,Region.binds .any e=true→e.on≠i)→oi.apart ops ok=true:=fun k ok hk hki hun hno=>by
    refine hfree k ok hk hki ?_ hno
    by_cases hjk:j=k
    ·subst hjk;exact hjun
    ·rw [getD_set_ne true hjk]at hun;exact hun
   refine zgH (fun a' w' h3=>ih (l.setIfInBounds j true) a' w' hfree' (ready_mono hr (Ne.symm hji)) h3.1 ?_) h2
   rw [Array.setIfInBounds_comm _ _ hji]
   exact h3.2
end
section
variable {C:Ctx} {ops:Array Oper} {K:KT} {σ:SS} {a:Act} {w:World}
theorem zqx (P:Program) (o:Oper):(cOp P o).isGh=false:=by
 cases h:(cOp P o).isGh with
 |false=>rfl
 |true=>
  have hg:cOp P o= .gh:=by
   generalize cOp P o=r at h
   cases r<;>first|rfl|(cases h;done)
  unfold cOp at hg
  cases hc:zkz P o with
  |none=>rw [hc]at hg;cases hg
  |some ro=>
   rw [hc]at hg
   simp only [Option.getD_some]at hg
   subst hg
   unfold zkz at hc
   repeat' (split at hc)
   all_goals first|(cases hc;done)|(simp only [Option.map_eq_some_iff]at hc;obtain ⟨_,_,he⟩:=hc;cases he)
theorem zyY {P:Program} {o:Oper} (h:zeY (cOp P o)=true):zaD (cOp P o)=true:=by
 unfold zeY at h
 split at h<;>first|(cases h;done)|exact h
theorem ztR {i:Nat} {o:Oper} (hi:ops[i]? =some o) (hd:zcY C.N o=true) (hk:zbB ops o=true) (hp:zeY (cOp C.P o)=true) (hR:Rel C σ a w) (h:zbN C [zjl C.P ops i] K σ):
  ∃v τ,YieldsEv C.P ops o v a∧K τ∧Rel C τ (a.put o.dst v) w:=by
 have hd':∀t,o.dst=some t→t<C.N:=fun t ht=>by simpa [zcY,ht]using hd
 have run:∀σ,Rel C σ a w→Region.wanted o (yielded ops a.tmps)=true→zj C o.dst K σ (cOp C.P o)→∃v τ,YieldsEv C.P ops o v a∧K τ∧Rel C τ (a.put o.dst v) w:=by
  rintro σ ⟨loc,hF,hH⟩ hw hv
  rcases zlj hd' hv hF hH with ⟨x,⟨v,hv,_,hrun⟩,hK⟩|h3
  ·obtain ⟨q1,q2,q3⟩:=σ.put_pv o.dst x
   exact ⟨v,_, .inl ⟨hw,hrun hp⟩,hK,loc,by rw [q1,q2];exact hF.put hd' rfl hv,by rw [q1,q2,q3];exact hH⟩
  ·rw [zyY hp]at h3;cases h3.1
 have skip:∀σ,Rel C σ a w→Region.wanted o (yielded ops a.tmps)=false→K (σ.put o.dst .no)→∃v τ,YieldsEv C.P ops o v a∧K τ∧Rel C τ (a.put o.dst v) w:=by
  rintro σ ⟨loc,hF,hH⟩ hw hK
  obtain ⟨q1,q2,q3⟩:=σ.put_pv o.dst .no
  exact ⟨undef,_, .inr ⟨hw,rfl⟩,hK,loc,by rw [q1,q2];exact hF.put hd' rfl (x:= .no) (v:=undef) rfl,by rw [q1,q2,q3];exact hH⟩
 have hng:=zqx C.P o
 unfold zjl at h
 simp only [hi]at h
 cases hg:gOf ops o with
 |none=>
  rw [hg]at h
  have hw:Region.wanted o (yielded ops a.tmps)=true:=by
   unfold gOf at hg;unfold Region.wanted
   cases hgg:o.guard with
   |none=>rfl
   |some x=>simp [hgg]at hg
  exact run σ hR hw h
 |some x=>
  obtain ⟨t,want⟩:=x
  rw [hg]at h
  have hwant:Region.wanted o (yielded ops a.tmps)=(match a.tmps[t]? with|some (.bool b)=>b==want|_=>false):=by
   unfold gOf at hg;unfold zbB at hk;unfold Region.wanted
   cases hgg:o.guard with
   |none=>simp [hgg]at hg
   |some x=>
    obtain ⟨j,v⟩:=x
    simp only [hgg,Option.map_some,Option.some.injEq,Prod.mk.injEq]at hg
    simp only [hgg]at hk
    cases hdd:(ops[j]?).bind (·.dst)with
    |none=>simp [hdd]at hk
    |some t'=>
     simp only [hdd,Option.getD_some]at hg hk
     obtain ⟨rfl,rfl⟩:=hg
     simp only [yielded,hdd,Option.bind_some]
     cases a.tmps[t']? with
     |none=>rfl
     |some u=>cases u<;>first|rfl|(rename_i b;cases b<;>cases v<;>rfl)
  simp only [zbN,brB,zco,hng,cond_false]at h
  split at h
  ·rename_i b hl
   have hR':=hR
   obtain ⟨loc,hF,hH⟩:=hR'
   obtain ⟨v,hv,hs⟩:=hF.slots t _ hl
   have hvb:v= .bool b:=hs.2
   subst hvb
   have hre:∀c,c=b→Rel C (σ.put (some t) (.g (.s (.bool c)))) a w:=fun c hc=>⟨loc,⟨hF.defers,hF.size,fun u y hy=>by
    rw [zgw]at hy
    by_cases hu:u=t
    ·simp only [hu,if_true,Option.some.injEq]at hy
     subst hy;subst hu;subst hc
     exact ⟨.bool c,hv,rfl,rfl⟩
    ·simp only [hu,if_false]at hy
     exact hF.slots u y hy⟩,hH⟩
   by_cases hb:b=want
   ·exact run _ (hre want hb.symm) (by rw [hwant,hv];simp [hb]) (h.1 hb)
   ·have hb':b= !want:=by cases b<;>cases want<;>simp_all
    exact skip _ (hre (!want) hb'.symm) (by rw [hwant,hv];simp [hb']) (h.2 hb')
  ·rename_i hl
   have hR':=hR
   obtain ⟨loc,hF,hH⟩:=hR'
   obtain ⟨v,hv,hs⟩:=hF.slots t _ hl
   have hvu:v=undef:=hs
   exact skip σ hR (by rw [hwant,hv,hvu];rfl) h
  ·exact h.elim
theorem zxu {i:Nat} {o:Oper} (hi:ops[i]? =some o) (hd:zcY C.N o=true) (hk:zbB ops o=true) (hR:Rel C σ a w) (h:zbN C [zjl C.P ops i] K σ):wpOpN C.P ops i (zbD C K) a w:=by
 have hd':∀t,o.dst=some t→t<C.N:=fun t ht=>by simpa [zcY,ht]using hd
 have run:∀σ,Rel C σ a w→Region.wanted o (yielded ops a.tmps)=true→zj C o.dst K σ (cOp C.P o)→wpOpN C.P ops i (zbD C K) a w:=by
  intro σ hR hw hv
  unfold wpOpN
  simp only [hi]
  rw [if_pos hw]
  exact zqh hd' hv hR
 have skip:∀σ,Rel C σ a w→Region.wanted o (yielded ops a.tmps)=false→K (σ.put o.dst .no)→wpOpN C.P ops i (zbD C K) a w:=by
  rintro σ ⟨loc,hF,hH⟩ hw hK
  obtain ⟨q1,q2,q3⟩:=σ.put_pv o.dst .no
  unfold wpOpN
  simp only [hi]
  rw [hw]
  exact ⟨_,hK,loc,by rw [q1,q2];exact hF.put hd' rfl (x:= .no) (v:=undef) rfl,by rw [q1,q2,q3];exact hH⟩
 have hng:=zqx C.P o
 unfold zjl at h
 simp only [hi]at h
 cases hg:gOf ops o with
 |none=>
  rw [hg]at h
  have hw:Region.wanted o (yielded ops a.tmps)=true:=by
   unfold gOf at hg;unfold Region.wanted
   cases hgg:o.guard with
   |none=>rfl
   |some x=>simp [hgg]at hg
  exact run σ hR hw h
 |some x=>
  obtain ⟨t,want⟩:=x
  rw [hg]at h
  have hwant:Region.wanted o (yielded ops a.tmps)=(match a.tmps[t]? with|some (.bool b)=>b==want|_=>false):=by
   unfold gOf at hg;unfold zbB at hk;unfold Region.wanted
   cases hgg:o.guard with
   |none=>simp [hgg]at hg
   |some x=>
    obtain ⟨j,v⟩:=x
    simp only [hgg,Option.map_some,Option.some.injEq,Prod.mk.injEq]at hg
    simp only [hgg]at hk
    cases hdd:(ops[j]?).bind (·.dst)with
    |none=>simp [hdd]at hk
    |some t'=>
     simp only [hdd,Option.getD_some]at hg hk
     obtain ⟨rfl,rfl⟩:=hg
     simp only [yielded,hdd,Option.bind_some]
     cases a.tmps[t']? with
     |none=>rfl
     |some u=>cases u<;>first|rfl|(rename_i b;cases b<;>cases v<;>rfl)
  simp only [zbN,brB,zco,hng,cond_false]at h
  split at h
  ·rename_i b hl
   have hR':=hR
   obtain ⟨loc,hF,hH⟩:=hR'
   obtain ⟨v,hv,hs⟩:=hF.slots t _ hl
   have hvb:v= .bool b:=hs.2
   subst hvb
   have hre:∀c,c=b→Rel C (σ.put (some t) (.g (.s (.bool c)))) a w:=fun c hc=>⟨loc,⟨hF.defers,hF.size,fun u y hy=>by
    rw [zgw]at hy
    by_cases hu:u=t
    ·simp only [hu,if_true,Option.some.injEq]at hy
     subst hy;subst hu;subst hc
     exact ⟨.bool c,hv,rfl,rfl⟩
    ·simp only [hu,if_false]at hy
     exact hF.slots u y hy⟩,hH⟩
   by_cases hb:b=want
   ·exact run _ (hre want hb.symm) (by rw [hwant,hv];simp [hb]) (h.1 hb)
   ·have hb':b= !want:=by cases b<;>cases want<;>simp_all
    exact skip _ (hre (!want) hb'.symm) (by rw [hwant,hv];simp [hb']) (h.2 hb')
  ·rename_i hl
   have hR':=hR
   obtain ⟨loc,hF,hH⟩:=hR'
   obtain ⟨v,hv,hs⟩:=hF.slots t _ hl
   have hvu:v=undef:=hs
   exact skip σ hR (by rw [hwant,hv,hvu];rfl) h
  ·exact h.elim
theorem zgB {K:KT}:∀(t:OT) (σ:SS),zgT C K t σ→Rel C σ a w→∃t' τ,erO t'=erO t∧(∀u,t'≠ .gh u)∧zgT C K t' τ∧Rel C τ a w
 | .gh u,σ,h,hR=>by
  obtain ⟨τ,hR',h'⟩:=(show ghC C (zgT C K u) σ from h).h a w hR
  exact zgB u τ h' hR'
 | .done,σ,h,hR=>⟨.done,σ,rfl,by simp,h,hR⟩
 | .bad,σ,h,hR=>⟨.bad,σ,rfl,by simp,h,hR⟩
 | .op s t,σ,h,hR=>⟨.op s t,σ,rfl,by simp,h,hR⟩
 | .first s t,σ,h,hR=>⟨.first s t,σ,rfl,by simp,h,hR⟩
 | .or s t,σ,h,hR=>⟨.or s t,σ,rfl,by simp,h,hR⟩
 | .held s t,σ,h,hR=>⟨.held s t,σ,rfl,by simp,h,hR⟩
 | .heldF s t,σ,h,hR=>⟨.heldF s t,σ,rfl,by simp,h,hR⟩
theorem zsx {t:OT} {s:Seg} {u:OT} (h:erO t= .op s u) (hn:∀u,t≠ .gh u):∃u',t= .op s u'∧erO u'=u:=by
 cases t<;>simp only [erO]at h<;>first|(cases h;done)|skip
 ·cases h;exact ⟨_,rfl,rfl⟩
 ·exact absurd rfl (hn _)
theorem zzf {t:OT} {s:Seg} {u:OT} (h:erO t= .first s u) (hn:∀u,t≠ .gh u):∃u',t= .first s u'∧erO u'=u:=by
 cases t<;>simp only [erO]at h<;>first|(cases h;done)|skip
 ·cases h;exact ⟨_,rfl,rfl⟩
 ·exact absurd rfl (hn _)
theorem zAE {t a b:OT} (h:erO t= .or a b) (hn:∀u,t≠ .gh u):∃a' b',t= .or a' b'∧erO a'=a∧erO b'=b:=by
 cases t<;>simp only [erO]at h<;>first|(cases h;done)|skip
 ·cases h;exact ⟨_,_,rfl,rfl,rfl⟩
 ·exact absurd rfl (hn _)
theorem zAQ {t:OT} {ts:List Nat} {u:OT} (h:erO t= .held ts u) (hn:∀u,t≠ .gh u):∃u',(t= .held ts u'∨t= .heldF ts u')∧erO u'=u:=by
 cases t<;>simp only [erO]at h<;>first|(cases h;done)|skip
 ·cases h;exact ⟨_, .inl rfl,rfl⟩
 ·exact absurd rfl (hn _)
 ·cases h;exact ⟨_, .inr rfl,rfl⟩
theorem zpD {K:KT} {t u:OT} {ts:List Nat} {σ:SS} (h:erO t= .held ts u) (hn:∀u,t≠ .gh u) (hK:zgT C K t σ):∃u' σ0,erO u'=u∧zbg σ0 σ ts∧zcV C K ts σ0 u' σ∧HeldM σ0.m σ0.ph σ.m σ.ph:=by
 obtain ⟨u',rfl|rfl,e⟩:=zAQ h hn
 ·exact ⟨u',σ,e,hK.1,hK.2,HeldM.self _ _⟩
 ·exact ⟨u',{σ with m:=PH.no},e,hK.1,hK.2,fun _ _ h=>(by cases h),fun _ h=>h⟩
theorem zmn {t:OT} (h:erO t= .done) (hn:∀u,t≠ .gh u):t= .done:=by
 cases t<;>simp only [erO]at h<;>first|(cases h;done)|skip
 ·rfl
 ·exact absurd rfl (hn _)
theorem zxK {t:OT} (h:erO t= .bad) (hn:∀u,t≠ .gh u):t= .bad:=by
 cases t<;>simp only [erO]at h<;>first|(cases h;done)|skip
 ·rfl
 ·exact absurd rfl (hn _)
theorem zxO {K:KT} {f:Nat→OT}:∀(l:List Nat) (t:OT) (σ:SS),erO t=orL (l.map f)→zgT C K t σ→Rel C σ a w→∀i∈l,∃u τ,erO u=f i∧zgT C K u τ∧Rel C τ a w
 |[],_,_,_,_,_,i,hi=>by cases hi
 |[x],t,σ,he,h,hR,i,hi=>by
  simp at hi;subst hi;exact ⟨t,σ,he,h,hR⟩
 |x::y::r,t,σ,he,h,hR,i,hi=>by
  obtain ⟨t1,τ,e1,hn,h1,hR1⟩:=zgB t σ h hR
  obtain ⟨p,q,rfl,hp,hq⟩:=zAE (e1.trans he) hn
  have h':zgT C K p τ∧zgT C K q τ:=h1
  rcases List.mem_cons.1 hi with rfl|hi
  ·exact ⟨p,τ,hp,h'.1,hR1⟩
  ·exact zxO (y::r) q τ hq h'.2 hR1 i hi
theorem ztQ (hns:Region.noSelect ops=true) (hd:∀o∈ops,zcY C.N o=true) (hg:∀o∈ops,zbB ops o=true):∀(f:Nat) (l:Array Bool) (t:OT) (σ:SS) (a:Act) (w:World),
  zxd C.P ops f l=erO t→zgT C K t σ→Rel C σ a w→znp C.P ops (zbD C K) f l a w:=by
 have hsel:=Region.noSelect_spec hns
 intro f
 induction f with
 |zero=>
  intro l t0 σ0 a w he0 h0 hR0
  obtain ⟨t,σ,e1,hn,h,hR⟩:=zgB t0 σ0 h0 hR0
  have he:=e1.trans he0.symm
  simp only [zxd]at he
  cases hr:(Region.ready .any ops l).isEmpty with
  |true=>rw [hr]at he;obtain rfl:=zmn he hn;exact ⟨by simpa using hr,σ,h,hR⟩
  |false=>rw [hr]at he;obtain rfl:=zxK he hn;exact h.elim
 |succ f ih=>
  intro l t0 σ0 a w he0 h0 hR0
  obtain ⟨t,σ,e1,hn,h,hR⟩:=zgB t0 σ0 h0 hR0
  have he:=e1.trans he0.symm
  simp only [zxd]at he
  cases hr:(Region.ready .any ops l).isEmpty with
  |true=>
   rw [hr]at he
   obtain rfl:=zmn he hn
   have hnil:Region.ready .any ops l=[]:=by simpa using hr
   exact ⟨fun _=>⟨σ,h,hR⟩,fun i hi=>by rw [hnil]at hi;cases hi⟩
  |false=>
   rw [hr]at he
   simp only [cond_false]at he
   have hne:Region.ready .any ops l≠[]:=fun e=>by rw [e]at hr;cases hr
   split at he
   ·rename_i i hf
    have hi:=List.mem_of_find?_eq_some hf
    have hp:=List.find?_some hf
    simp only [Bool.and_eq_true]at hp
    cases ho:ops[i]? with
    |none=>rw [ho]at hp;cases hp.1
    |some o=>
     rw [ho]at hp
     have hmem:o∈ops:=Array.mem_of_getElem? ho
     obtain ⟨u,rfl,hu⟩:=zsx he hn
     obtain ⟨v,τ,hy,hK,hR'⟩:=ztR ho (hd o hmem) (hg o hmem) hp.1 hR h
     exact zsD ho hsel f l a w (Region.free_spec ho hp.2) hi hy (ih _ u τ _ _ hu.symm hK hR')
   ·refine ⟨fun e=>absurd e hne,fun i hi=> ?_⟩
    obtain ⟨u0,τ0,hu0,h1,hR1⟩:=zxO _ t σ he h hR i hi
    obtain ⟨u1,τ1,e2,hn2,h2,hR2⟩:=zgB u0 τ0 h1 hR1
    obtain ⟨u,rfl,hu⟩:=zsx (e2.trans hu0) hn2
    obtain ⟨_,o,ho,_⟩:=mem_ready.1 hi
    have hmem:o∈ops:=Array.mem_of_getElem? ho
    exact zgH (fun a' w' ⟨τ,hK,hR'⟩=>ih _ u τ a' w' hu.symm hK hR') (zxu ho (hd o hmem) (hg o hmem) hR2 h2)
end
end Go.Proofs.YtmjiojflncffeaaGreat.Vc

set_option linter.unusedVariables false
set_option linter.unusedSimpArgs false
namespace Go.Proofs.YtmjiojflncffeaaGreat.Vc
open Go
section
variable {P:Program} {ops:Array Oper} {S:World→Prop}
def zpL (P:Program) (ops:Array Oper) (S:World→Prop) (D:Act→World→Prop):Nat→Array Bool→Act→World→Prop
 |0,l,a,w=>Region.ready .any ops l=[]∧D a w
 |f+1,l,a,w=>(Region.ready .any ops l=[]→D a w)∧∀i∈Region.ready .any ops l,wpOpN P ops i (fun a' w'=>S w'∧zpL P ops S D f (l.setIfInBounds i true) a' w') a w
theorem zje {D:Act→World→Prop}:∀(f:Nat) (l:Array Bool) (a:Act) (w:World),zpL P ops S D f l a w→znp P ops D f l a w
 |0,_,_,_,h=>h
 |f+1,l,a,w,h=>⟨h.1,fun i hi=>zgH (fun a' w' h'=>zje f _ a' w' h'.2) (h.2 i hi)⟩
def YieldsS (P:Program) (ops:Array Oper) (S:World→Prop) (o:Oper) (v:Value) (a:Act):Prop:=
 (Region.wanted o (yielded ops a.tmps)=true∧∀w,S w→(execOp a.eval o).run P w= .ok (.value v) w)∨(Region.wanted o (yielded ops a.tmps)=false∧v=undef)
theorem YieldsEv.toS {o:Oper} {v:Value} {a:Act} (h:YieldsEv P ops o v a):YieldsS P ops S o v a:=h.imp (fun ⟨h1,h2⟩=>⟨h1,fun w _=>h2 w⟩) id
theorem YieldsS.wpOpN {i:Nat} {o:Oper} {v:Value} {a:Act} {w:World} (hi:ops[i]? =some o) (hy:YieldsS P ops S o v a) {K:Act→World→Prop} (hS:S w) (h:K (a.put o.dst v) w):wpOpN P ops i K a w:=by
 unfold Go.Proofs.YtmjiojflncffeaaGreat.Vc.wpOpN
 simp only [hi]
 rcases hy with ⟨h1,h2⟩|⟨h1,rfl⟩
 ·rw [if_pos h1]
  unfold Oper.wp
  rw [h2 w hS,Oper.upon_value]
  exact h
 ·rw [h1];exact h
theorem YieldsS.of_same {o:Oper} {v:Value} {a a':Act} (hy:YieldsS P ops S o v a) (he:execOp a'.eval o=execOp a.eval o) (hw:Region.wanted o (yielded ops a'.tmps)=Region.wanted o (yielded ops a.tmps)):YieldsS P ops S o v a':=by
 unfold YieldsS at*
 rw [he,hw]
 exact hy
theorem zwM {j:Nat} {oi oj:Oper} {v:Value} {w:World} (hj:ops[j]? =some oj) (hap:oi.apart ops oj=true)
  (hsi:∀cs b,oi.op≠ .select cs b) (hsj:∀cs b,oj.op≠ .select cs b) {K:Act→World→Prop} {a:Act}
  (hy:YieldsS P ops S oi v a) (h:wpOpN P ops j K (a.put oi.dst v) w):
  wpOpN P ops j (fun a' w'=>YieldsS P ops S oi v a'∧K (a'.put oi.dst v) w') a w:=by
 obtain ⟨h1,h2,h3⟩:=Oper.apart_spec hap
 have keep:∀(b:Act),YieldsS P ops S oi v b→∀u,YieldsS P ops S oi v (b.put oj.dst u):=fun b hb u=>
  hb.of_same (execOp_put oi hsi b oj.dst u h3) (wanted_put oi b oj.dst u h3)
 unfold wpOpN at*
 simp only [hj]at*
 rw [wanted_put oj a oi.dst v h1]at h
 split
 ·rename_i hw
  rw [if_pos hw]at h
  unfold Oper.wp at*
  rw [execOp_put oj hsj a oi.dst v h1]at h
  generalize (execOp a.eval oj).run P w=r at*
  cases r with
  |ok n w'=>
   cases n<;>simp only [Oper.upon]at h ⊢
   case value u=>exact ⟨keep a hy u,by rw [←Act.put_comm a v u h2];exact h⟩
   case skip=>exact ⟨keep a hy _,by rw [←Act.put_comm a v undef h2];exact h⟩
   case defer d=>
    refine ⟨keep _ (hy.of_same (a':={a with defers:=d::a.defers}) rfl rfl) _, ?_⟩
    rw [←Act.put_comm _ v undef h2,zqu a oi.dst v]
    rw [zxJ]at h
    exact h
   case enter f args=>
    refine Calls.mono h fun e w'' he=> ?_
    cases e with
    |returned u=>exact ⟨keep a hy u,by rw [←Act.put_comm a v u h2];exact he⟩
    |panicked c=>exact he
    |outgrown=>exact he
   case row row args=>exact Rows.mono h fun u w'' he=>⟨keep a hy u,by rw [←Act.put_comm a v u h2];exact he⟩
  |halt x w'=>cases x<;>simp only [Oper.upon]at h ⊢
 ·rename_i hw
  rw [if_neg hw]at h
  exact ⟨keep a hy _,by rw [←Act.put_comm a v undef h2];exact h⟩
theorem zms {D:Act→World→Prop} {i:Nat} {oi:Oper} {v:Value} (hi:ops[i]? =some oi) (hsel:∀(j:Nat) (o:Oper) cs b,ops[j]? =some o→o.op≠ .select cs b):
  ∀(f:Nat) (l:Array Bool) (a:Act) (w:World),
   (∀j oj,ops[j]? =some oj→j≠i→l.getD j true=false→(∀e∈oj.after,Region.binds .any e=true→e.on≠i)→oi.apart ops oj=true)→
   i∈Region.ready .any ops l→YieldsS P ops S oi v a→S w→
   zpL P ops S D f (l.setIfInBounds i true) (a.put oi.dst v) w→zpL P ops S D (f+1) l a w:=by
 intro f
 induction f with
 |zero=>
  intro l a w _ hr hy hS H
  refine ⟨fun h=>(by rw [h]at hr;cases hr),fun j hj=> ?_⟩
  by_cases hji:j=i
  ·subst hji;exact hy.wpOpN hi hS ⟨hS,H⟩
  ·have:=ready_mono hj hji
   rw [H.1]at this
   cases this
 |succ f ih=>
  intro l a w hfree hr hy hS H
  refine ⟨fun h=>(by rw [h]at hr;cases hr),fun j hj=> ?_⟩
  by_cases hji:j=i
  ·subst hji;exact hy.wpOpN hi hS ⟨hS,H⟩
  ·have h1:=H.2 j (ready_mono hj hji)
   obtain ⟨hjun,oj,hoj,hall⟩:=mem_ready.1 hj
   have hnot:∀e∈oj.after,Region.binds .any e=true→e.on≠i:=fun e he hb heq=>by
    have h1:=hall e he hb
    have h0:=(mem_ready.1 hr).1
    rw [heq,zxE h0]at h1
    cases h1
   have h2:=zwM hoj (hfree j oj hoj hji hjun hnot) (fun cs b=>hsel i oi cs b hi) (fun cs b=>hsel j oj cs b hoj) hy h1
   have hfree':∀k ok,ops[k]? =some ok→k≠i→(l.setIfInBounds j true).getD k true=false→
     (∀e∈ok.after,Region.binds .any e=true→e.on≠i)→oi.apart ops ok=true:=fun k ok hk hki hun hno=>by
    refine hfree k ok hk hki ?_ hno
    by_cases hjk:j=k
    ·subst hjk;exact hjun
    ·rw [getD_set_ne true hjk]at hun;exact hun
   refine zgH (fun a' w' h3=>⟨h3.2.1,ih (l.setIfInBounds j true) a' w' hfree' (ready_mono hr (Ne.symm hji)) h3.1 h3.2.1 ?_⟩) h2
   rw [Array.setIfInBounds_comm _ _ hji]
   exact h3.2.2
end
theorem zfo {a:Act} {d:Option Tmp} {v:Value} {t:Nat} (h:d≠some t):(a.put d v).tmps[t]? =a.tmps[t]? :=by
 cases d with
 |none=>rfl
 |some x=>
  show (a.tmps.setIfInBounds x v)[t]? =_
  rw [Array.getElem?_setIfInBounds_ne (fun e=>h (by rw [e]))]
section
variable {P:Program} {ops:Array Oper}
theorem zxe {i:Nat} {ts:List Nat} (hd:∀o∈ops,∀t∈ts,o.dst≠some t) {K:Act→World→Prop} {a:Act} {w:World} (h:wpOpN P ops i K a w):
  wpOpN P ops i (fun a' w'=>K a' w'∧∀t∈ts,a'.tmps[t]? =a.tmps[t]?) a w:=by
 unfold wpOpN at*
 split
 ·rename_i ho;simp only [ho]at h;exact ⟨h,fun _ _=>rfl⟩
 ·rename_i o ho
  simp only [ho]at h
  have hm:∀t∈ts,o.dst≠some t:=hd o (Array.mem_of_getElem? ho)
  split
  ·rename_i hw
   rw [if_pos hw]at h
   unfold Oper.wp at*
   generalize (execOp a.eval o).run P w=r at*
   cases r with
   |ok n w'=>
    cases n<;>simp only [Oper.upon]at h ⊢
    case value u=>exact ⟨h,fun t ht=>zfo (hm t ht)⟩
    case skip=>exact ⟨h,fun t ht=>zfo (hm t ht)⟩
    case defer d=>exact ⟨h,fun t ht=>zfo (hm t ht)⟩
    case enter f args=>
     refine Calls.mono h fun e w'' he=> ?_
     cases e with
     |returned u=>exact ⟨he,fun t ht=>zfo (hm t ht)⟩
     |panicked c=>exact he
     |outgrown=>exact he
    case row row args=>exact Rows.mono h fun u w'' he=>⟨he,fun t ht=>zfo (hm t ht)⟩
   |halt x w'=>cases x<;>simp only [Oper.upon]at h ⊢
  ·rename_i hw
   rw [if_neg hw]at h
   exact ⟨h,fun t ht=>zfo (hm t ht)⟩
end
section
variable {C:Ctx} {ops:Array Oper} {K:KT} {σ σ0:SS} {a a0:Act} {w:World} {ts:List Nat}
structure Stands (C:Ctx) (σ0:SS) (ts:List Nat) (a0:Act) (w:World):Prop where
 box:∀t∈ts,∀k g,look σ0.fr t=some (.ref k [])→look σ0.pv k=some (.box g)→∃b e,a0.tmps[t]? =some (.pointer (some ⟨b,0,none⟩))∧w.heap[b]? =some (.cells g.flat.toArray e (0,0))
 m:σ0.m.le w
 u0:C.u0.le w
 ph:∀u∈σ0.ph,u.le w
theorem znj:∀{ts:List Nat},zbg σ0 σ ts→∀t∈ts,∀k,look σ0.fr t=some (.ref k [])→look σ.fr t=some (.ref k [])∧look σ.pv k=look σ0.pv k
 |t::ts,h,u,hu,k,hk=>by
  rcases List.mem_cons.1 hu with rfl|hu
  ·have h1:=h.1
   rw [hk]at h1
   exact h1
  ·exact znj h.2 u hu k hk
theorem zmX {fr:List (Nat×SV)} {k:Nat}:∀{ts:List Nat},k∈zlF fr ts→∃t∈ts,look fr t=some (.ref k [])
 |t::ts,h=>by
  simp only [zlF]at h
  split at h
  ·rename_i j hj
   rcases List.mem_cons.1 h with rfl|h
   ·exact ⟨t,by simp,hj⟩
   ·obtain ⟨u,hu,e⟩:=zmX h
    exact ⟨u,by simp [hu],e⟩
  ·obtain ⟨u,hu,e⟩:=zmX h
   exact ⟨u,by simp [hu],e⟩
theorem zmE (hR:Rel C σ a w) (hh:zbg σ0 σ ts) (hM:HeldM σ0.m σ0.ph σ.m σ.ph) (ha:∀t∈ts,a.tmps[t]? =a0.tmps[t]?):Stands C σ0 ts a0 w:=by
 obtain ⟨loc,hF,hH⟩:=hR
 refine ⟨fun t ht k g hk hg=> ?_,fun b o hb=>hH.mle b o (hM.m b o hb),hH.u0le,fun u hu=>(hH.phs u (hM.ph u hu)).1⟩
 obtain ⟨h1,h2⟩:=znj hh t ht k hk
 obtain ⟨v,hv,g',b,c,y,e1,e2,e3,e4⟩:=hF.slots t _ h1
 rw [h2,hg]at e1
 obtain rfl:g=g':=by simpa using e1
 obtain ⟨_,b',c',e,e5,e6⟩:=hH.pvs k _ (h2.trans hg)
 rw [e2]at e5
 obtain ⟨rfl,rfl⟩:b=b'∧c=c':=by simpa using e5
 exact ⟨b,e,by rw [←ha t ht,hv,e4,show g.offs []=0 by cases g<;>rfl],e6⟩
theorem zAF {P:Program} {o:Oper} (h:isLd (cOp P o)=true):∃t d i x y,o.op= .load t x∧P.underlying t=some d∧P.info? t=some i∧zQ x=some y∧cOp P o= .ld y i.size (agD d):=by
 unfold cOp at h ⊢
 cases hc:zkz P o with
 |none=>rw [hc]at h;cases h
 |some ro=>
  rw [hc]at h
  simp only [Option.getD_some]at h ⊢
  unfold zkz at hc
  repeat' (split at hc)
  all_goals first
   |(cases hc;done)
   |(simp only [Option.map_eq_some_iff]at hc;obtain ⟨_,_,rfl⟩:=hc;cases h;done)
   |(simp only [Option.some.injEq]at hc;subst hc;cases h;done)
   |(rename_i d i x hd hi hx;simp only [Option.some.injEq]at hc;subst hc;exact ⟨_,d,i,_,x,by assumption,hd,hi,hx,rfl⟩)
theorem zxR {o:Oper} {t:TypeId} {d:TypeDesc} {i:TypeInfo} {x:Operand} {y:Opd} (ho:o.op= .load t x) (ht:C.P.underlying t=some d) (hi:C.P.info? t=some i) (hx:zQ x=some y) (hd:∀t,o.dst=some t→t<C.N)
  (hw:Region.wanted o (yielded ops a.tmps)=true) (hh:zbg σ0 σ ts) (ha:∀t∈ts,a.tmps[t]? =a0.tmps[t]?) (hR:Rel C σ a w) (h:ldH C σ0 ts y i.size (agD d) o.dst K σ):
  ∃v τ,YieldsS C.P ops (Stands C σ0 ts a0) o v a∧K τ∧Rel C τ (a.put o.dst v) w:=by
 obtain ⟨loc,hF,hH⟩:=hR
 have fin:∀(g:GV),g.ok→g.fits i.size (agD d)=true→K (σ.put o.dst (.g g))→∀b q,evO a y= .pointer (some ⟨b,q,none⟩)→(∀w,Stands C σ0 ts a0 w→∃cs e fz,w.heap[b]? =some (.cells cs e fz)∧RowAt cs q g.flat)→
   ∃v τ,YieldsS C.P ops (Stands C σ0 ts a0) o v a∧K τ∧Rel C τ (a.put o.dst v) w:=by
  intro g hok hfit hK b q hp hc
  obtain ⟨q1,q2,q3⟩:=σ.put_pv o.dst (.g g)
  refine ⟨g.val,_, .inl ⟨hw,fun w' hS=> ?_⟩,hK,loc,by rw [q1,q2];exact hF.put hd rfl ⟨hok,rfl⟩,by rw [q1,q2,q3];exact hH⟩
  obtain ⟨cs,e,fz,hb,hat⟩:=hc w' hS
  have he:execOp a.eval o=(do pure (.value (←Instr.loadAt t (.pointer (some ⟨b,q,none⟩)))):Sem Next):=by
   simp only [execOp,ho,zs hx a,hp]
  rw [he]
  refine zex ?_
  simp only [Instr.loadAt,Instr.sureAddr,Sem.run_bind,Sem.run_pure,Result.andThen_ok]
  refine zev ht hi hok hfit b _ w' fun j v hj=> ?_
  rw [zfN hb]
  exact hat j v hj
 unfold ldH at h
 split at h
 ·rename_i k p hv
  obtain ⟨hk,h⟩:=h
  split at h
  ·rename_i g hg
   obtain ⟨hfit,hK⟩:=h
   obtain ⟨u,hu,huk⟩:=zmX (by simpa using hk)
   obtain ⟨f1,f2⟩:=znj hh u hu k huk
   obtain ⟨g',b,c,r,e1,e2,e3,e4⟩:=hF.ev rfl hv
   rw [f2,hg]at e1
   obtain rfl:g=g':=by simpa using e1
   obtain ⟨v1,hv1,g2,b2,c2,y2,d1,d2,d3,d4⟩:=hF.slots u _ f1
   rw [e2]at d2
   obtain ⟨rfl,rfl⟩:b=b2∧c=c2:=by simpa using d2
   rw [f2,hg]at d1
   obtain rfl:g=g2:=by simpa using d1
   have hok:=(hH.pvs k _ (f2.trans hg)).1
   rw [GV.getT_of g p r e3]at hfit hK
   refine fin r (GV.get_at g p r hok e3).1 hfit hK b (g.offs p) e4 fun w' hS=> ?_
   obtain ⟨b',e,s1,s2⟩:=hS.box u hu k g huk hg
   rw [←ha u hu,hv1,d4]at s1
   have hbb:b=b':=by
    have:=Option.some.inj s1
    injection this with this
    have:=Option.some.inj this
    injection this
   subst hbb
   exact ⟨_,e,_,s2,fun j v hj=>by simpa using GV.get_cells hok e3 j v hj⟩
  ·exact h.elim
 ·rename_i b q hv
  obtain ⟨g,hs,hfit,hK⟩:=h
  obtain ⟨hok,cs,e,fz,hm,hat⟩:=hs
  refine fin g hok hfit hK b q (hF.ev rfl hv).s fun w' hS=>⟨cs,e,fz, ?_,hat⟩
  rcases hm with hm|⟨u,hu,hm⟩|hm
  ·exact hS.m b _ hm
  ·exact hS.ph u hu b _ hm
  ·exact hS.u0 b _ hm
 ·exact h.elim
theorem zyD {i:Nat} {o:Oper} (hi:ops[i]? =some o) (hd:zcY C.N o=true) (hk:zbB ops o=true) (hp:isLd (cOp C.P o)=true) (hh:zbg σ0 σ ts) (hts:∀o∈ops,∀t∈ts,o.dst≠some t)
  (ha:∀t∈ts,a.tmps[t]? =a0.tmps[t]?) (hR:Rel C σ a w) (h:zsM C σ0 ts (zjl C.P ops i) K σ):∃v τ,YieldsS C.P ops (Stands C σ0 ts a0) o v a∧K τ∧Rel C τ (a.put o.dst v) w:=by
 have hd':∀t,o.dst=some t→t<C.N:=fun t ht=>by simpa [zcY,ht]using hd
 obtain ⟨ty,d,inf,x,y,ho,hu,hinf,hx,hc⟩:=zAF hp
 have skip:∀σ,Rel C σ a w→Region.wanted o (yielded ops a.tmps)=false→K (σ.put o.dst .no)→∃v τ,YieldsS C.P ops (Stands C σ0 ts a0) o v a∧K τ∧Rel C τ (a.put o.dst v) w:=by
  rintro σ ⟨loc,hF,hH⟩ hw hK
  obtain ⟨q1,q2,q3⟩:=σ.put_pv o.dst .no
  exact ⟨undef,_, .inr ⟨hw,rfl⟩,hK,loc,by rw [q1,q2];exact hF.put hd' rfl (x:= .no) (v:=undef) rfl,by rw [q1,q2,q3];exact hH⟩
 unfold zjl at h
 simp only [hi,zsM,hc]at h
 cases hg:gOf ops o with
 |none=>
  rw [hg]at h
  have hw:Region.wanted o (yielded ops a.tmps)=true:=by
   unfold gOf at hg;unfold Region.wanted
   cases hgg:o.guard with
   |none=>rfl
   |some x=>simp [hgg]at hg
  exact zxR ho hu hinf hx hd' hw hh ha hR h
 |some gt=>
  obtain ⟨t,want⟩:=gt
  rw [hg]at h
  have hwant:Region.wanted o (yielded ops a.tmps)=(match a.tmps[t]? with|some (.bool b)=>b==want|_=>false):=by
   unfold gOf at hg;unfold zbB at hk;unfold Region.wanted
   cases hgg:o.guard with
   |none=>simp [hgg]at hg
   |some x=>
    obtain ⟨j,v⟩:=x
    simp only [hgg,Option.map_some,Option.some.injEq,Prod.mk.injEq]at hg
    simp only [hgg]at hk
    cases hdd:(ops[j]?).bind (·.dst)with
    |none=>simp [hdd]at hk
    |some t'=>
     simp only [hdd,Option.getD_some]at hg hk
     obtain ⟨rfl,rfl⟩:=hg
     simp only [yielded,hdd,Option.bind_some]
     cases a.tmps[t']? with
     |none=>rfl
     |some u=>cases u<;>first|rfl|(rename_i b;cases b<;>cases v<;>rfl)
  simp only [brB]at h
  split at h
  ·rename_i b hl
   have hR':=hR
   obtain ⟨loc,hF,hH⟩:=hR'
   obtain ⟨v,hv,hs⟩:=hF.slots t _ hl
   have hvb:v= .bool b:=hs.2
   subst hvb
   have hre:∀c,c=b→Rel C (σ.put (some t) (.g (.s (.bool c)))) a w:=fun c hc=>⟨loc,⟨hF.defers,hF.size,fun u y hy=>by
    rw [zgw]at hy
    by_cases hu:u=t
    ·simp only [hu,if_true,Option.some.injEq]at hy
     subst hy;subst hu;subst hc
     exact ⟨.bool c,hv,rfl,rfl⟩
    ·simp only [hu,if_false]at hy
     exact hF.slots u y hy⟩,hH⟩
   have hho:∀c,zbg σ0 (σ.put (some t) (.g (.s (.bool c)))) ts:=by
    intro c
    have key:∀{l:List Nat},zbg σ0 σ l→zbg σ0 (σ.put (some t) (.g (.s (.bool c)))) l:=by
     intro l
     induction l with
     |nil=>intro _;trivial
     |cons u l ih=>
      intro hl2
      refine ⟨?_,ih hl2.2⟩
      have h1:=hl2.1
      split at h1
      ·rename_i k hk0
       refine ⟨?_,h1.2⟩
       rw [zgw]
       by_cases hut:u=t
       ·subst hut;rw [h1.1]at hl;cases hl
       ·simp only [hut,if_false];exact h1.1
      ·trivial
    exact key hh
   by_cases hb:b=want
   ·exact zxR ho hu hinf hx hd' (by rw [hwant,hv];simp [hb]) (hho want) ha (hre want hb.symm) (h.1 hb)
   ·have hb':b= !want:=by cases b<;>cases want<;>simp_all
    exact skip _ (hre (!want) hb'.symm) (by rw [hwant,hv];simp [hb']) (h.2 hb')
  ·rename_i hl
   have hR':=hR
   obtain ⟨loc,hF,hH⟩:=hR'
   obtain ⟨v,hv,hs⟩:=hF.slots t _ hl
   have hvu:v=undef:=hs
   exact skip σ hR (by rw [hwant,hv,hvu];rfl) h
  ·exact h.elim
theorem zjL {K:KT}:∀(t:OT) (σ:SS),zcV C K ts σ0 t σ→zbg σ0 σ ts→Rel C σ a w→∃t' τ,erO t'=erO t∧(∀u,t'≠ .gh u)∧zcV C K ts σ0 t' τ∧zbg σ0 τ ts∧Rel C τ a w
 | .gh u,σ,h,hh,hR=>by
  obtain ⟨τ,hR',_,hh',h'⟩:=(show ghC C (fun σ'=>HeldM σ0.m σ0.ph σ'.m σ'.ph∧zbg σ0 σ' ts∧zcV C K ts σ0 u σ') σ from h).h a w hR
  exact zjL u τ h' hh' hR'
 | .done,σ,h,hh,hR=>⟨.done,σ,rfl,by simp,h,hh,hR⟩
 | .bad,σ,h,hh,hR=>⟨.bad,σ,rfl,by simp,h,hh,hR⟩
 | .op s t,σ,h,hh,hR=>⟨.op s t,σ,rfl,by simp,h,hh,hR⟩
 | .first s t,σ,h,hh,hR=>⟨.first s t,σ,rfl,by simp,h,hh,hR⟩
 | .or s t,σ,h,hh,hR=>⟨.or s t,σ,rfl,by simp,h,hh,hR⟩
 | .held s t,σ,h,hh,hR=>⟨.held s t,σ,rfl,by simp,h,hh,hR⟩
 | .heldF s t,σ,h,hh,hR=>⟨.heldF s t,σ,rfl,by simp,h,hh,hR⟩
theorem zus {K:KT} {f:Nat→OT}:∀(l:List Nat) (t:OT) (σ:SS),erO t=orL (l.map f)→zcV C K ts σ0 t σ→zbg σ0 σ ts→Rel C σ a w→∀i∈l,∃u τ,erO u=f i∧zcV C K ts σ0 u τ∧zbg σ0 τ ts∧Rel C τ a w
 |[],_,_,_,_,_,_,i,hi=>by cases hi
 |[x],t,σ,he,h,hh,hR,i,hi=>by
  simp at hi;subst hi;exact ⟨t,σ,he,h,hh,hR⟩
 |x::y::r,t,σ,he,h,hh,hR,i,hi=>by
  obtain ⟨t1,τ,e1,hn,h1,hh1,hR1⟩:=zjL t σ h hh hR
  obtain ⟨p,q,rfl,hp,hq⟩:=zAE (e1.trans he) hn
  have h':zcV C K ts σ0 p τ∧zcV C K ts σ0 q τ:=h1
  rcases List.mem_cons.1 hi with rfl|hi
  ·exact ⟨p,τ,hp,h'.1,hh1,hR1⟩
  ·exact zus (y::r) q τ hq h'.2 hh1 hR1 i hi
theorem zrm (hns:Region.noSelect ops=true) (hd:∀o∈ops,zcY C.N o=true) (hg:∀o∈ops,zbB ops o=true) (hts:∀o∈ops,∀t∈ts,o.dst≠some t):∀(f:Nat) (l:Array Bool) (t:OT) (σ:SS) (a:Act) (w:World),
  zow C.P ops f l=erO t→zcV C K ts σ0 t σ→zbg σ0 σ ts→(∀t∈ts,a.tmps[t]? =a0.tmps[t]?)→Stands C σ0 ts a0 w→Rel C σ a w→zpL C.P ops (Stands C σ0 ts a0) (zbD C K) f l a w:=by
 have hsel:=Region.noSelect_spec hns
 intro f
 induction f with
 |zero=>
  intro l t0 σ1 a w he0 h0 hh1 ha hS hR1
  obtain ⟨t,σ,e1,hn,h,hh,hR⟩:=zjL t0 σ1 h0 hh1 hR1
  have he:=e1.trans he0.symm
  simp only [zow]at he
  cases hr:(Region.ready .any ops l).isEmpty with
  |true=>rw [hr]at he;obtain rfl:=zmn he hn;exact ⟨by simpa using hr,σ,h,hR⟩
  |false=>rw [hr]at he;obtain rfl:=zxK he hn;exact h.elim
 |succ f ih=>
  intro l t0 σ1 a w he0 h0 hh1 ha hS hR1
  obtain ⟨t,σ,e1,hn,h,hh,hR⟩:=zjL t0 σ1 h0 hh1 hR1
  have he:=e1.trans he0.symm
  simp only [zow]at he
  cases hr:(Region.ready .any ops l).isEmpty with
  |true=>
   rw [hr]at he
   obtain rfl:=zmn he hn
   have hnil:Region.ready .any ops l=[]:=by simpa using hr
   exact ⟨fun _=>⟨σ,h,hR⟩,fun i hi=>by rw [hnil]at hi;cases hi⟩
  |false=>
   rw [hr]at he
   simp only [cond_false]at he
   have hne:Region.ready .any ops l≠[]:=fun e=>by rw [e]at hr;cases hr
   split at he
   ·rename_i i hf
    have hi:=List.mem_of_find?_eq_some hf
    have hp:=List.find?_some hf
    simp only [Bool.and_eq_true]at hp
    cases ho:ops[i]? with
    |none=>rw [ho]at hp;cases hp.1
    |some o=>
     rw [ho]at hp
     have hmem:o∈ops:=Array.mem_of_getElem? ho
     obtain ⟨u,rfl,hu⟩:=zsx he hn
     obtain ⟨v,τ,hy,hK,hR'⟩:=ztR ho (hd o hmem) (hg o hmem) hp.1 hR h
     exact zms ho hsel f l a w (Region.free_spec ho hp.2) hi hy.toS hS (ih _ u τ _ _ hu.symm hK.2.2 hK.2.1 (fun t ht=>(zfo (hts o hmem t ht)).trans (ha t ht)) hS hR')
   ·split at he
    ·rename_i i hf
     have hi:=List.mem_of_find?_eq_some hf
     have hp:=List.find?_some hf
     simp only [Bool.and_eq_true]at hp
     cases ho:ops[i]? with
     |none=>rw [ho]at hp;cases hp.1
     |some o=>
      rw [ho]at hp
      have hmem:o∈ops:=Array.mem_of_getElem? ho
      obtain ⟨u,rfl,hu⟩:=zzf he hn
      obtain ⟨v,τ,hy,hK,hR'⟩:=zyD ho (hd o hmem) (hg o hmem) hp.1 hh hts ha hR h
      exact zms ho hsel f l a w (Region.free_spec ho hp.2) hi hy hS (ih _ u τ _ _ hu.symm hK.2 hK.1 (fun t ht=>(zfo (hts o hmem t ht)).trans (ha t ht)) hS hR')
    ·refine ⟨fun e=>absurd e hne,fun i hi=> ?_⟩
     obtain ⟨u0,τ0,hu0,h1,hh2,hR2⟩:=zus _ t σ he h hh hR i hi
     obtain ⟨u1,τ1,e2,hn2,h2,hh3,hR3⟩:=zjL u0 τ0 h1 hh2 hR2
     obtain ⟨u,rfl,hu⟩:=zsx (e2.trans hu0) hn2
     obtain ⟨_,o,ho,_⟩:=mem_ready.1 hi
     have hmem:o∈ops:=Array.mem_of_getElem? ho
     refine zgH (fun a' w' hx=> ?_) (zxe hts (zxu ho (hd o hmem) (hg o hmem) hR3 h2))
     obtain ⟨⟨τ,⟨hM,hh',hK⟩,hR'⟩,ht'⟩:=hx
     have ha':∀t∈ts,a'.tmps[t]? =a0.tmps[t]? :=fun t ht=>(ht' t ht).trans (ha t ht)
     have hS':=zmE hR' hh' hM ha'
     exact ⟨hS',ih _ u τ a' w' hu.symm hK hh' ha' hS' hR'⟩
end
end Go.Proofs.YtmjiojflncffeaaGreat.Vc

set_option linter.unusedVariables false
set_option linter.unusedSimpArgs false
namespace Go.Proofs.YtmjiojflncffeaaGreat.Vc
open Go
theorem zgP (ops:Array Oper):∀l,(grp ops l).flatMap (·.2)=l
 |[]=>rfl
 |o::r=>by
  have ih:=zgP ops r
  simp only [grp]
  split
  ·rename_i h l s e
   rw [e]at ih
   split<;>simpa using ih
  ·rename_i e
   rw [e]at ih
   simpa using ih
theorem zlX (ops:Array Oper):∀l,∀x∈grp ops l,∀o∈x.2,gOf ops o=x.1∧o∈l
 |[],x,h,_,_=>by simp [grp]at h
 |o::r,x,h,q,hq=>by
  have ih:=zlX ops r
  simp only [grp]at h
  split at h
  ·rename_i g l s e
   rw [e]at ih
   split at h
   ·rename_i hg
    simp only [List.mem_cons]at h
    rcases h with rfl|h
    ·simp only [List.mem_cons]at hq
     rcases hq with rfl|hq
     ·exact ⟨rfl,by simp⟩
     ·obtain ⟨h1,h2⟩:=ih (g,l) (by simp) q hq
      exact ⟨by rw [h1];exact hg,by simp [h2]⟩
    ·obtain ⟨h1,h2⟩:=ih x (by simp [h]) q hq
     exact ⟨h1,by simp [h2]⟩
   ·simp only [List.mem_cons]at h
    rcases h with rfl|h
    ·simp at hq;subst hq;exact ⟨rfl,by simp⟩
    ·obtain ⟨h1,h2⟩:=ih x (by simpa using h) q hq
     exact ⟨h1,by simp [h2]⟩
  ·simp at h;subst h
   simp at hq;subst hq;exact ⟨rfl,by simp⟩
section
variable {C:Ctx} {σ:SS} {a:Act} {w:World} {K:KT} {Q:Exit→Act→World→Prop} {ops:Array Oper}
theorem zgs {N:Nat} {o:Oper} (h:zcY N o=true):∀t,o.dst=some t→t<N:=by
 intro t ht
 simpa [zcY,ht]using h
theorem zok {o:Oper} (h:gOf ops o=none) (f:Nat→Option Bool):Region.wanted o f=true:=by
 unfold gOf at h
 unfold Region.wanted
 cases hg:o.guard with
 |none=>rfl
 |some x=>simp [hg]at h
theorem zhf {o:Oper} {t:Nat} {want:Bool} (h:gOf ops o=some (t,want)) (hk:zbB ops o=true) (tmps:Array Value):
  Region.wanted o (yielded ops tmps)=(match tmps[t]? with|some (.bool b)=>b==want|_=>false)∧o.dst≠some t:=by
 unfold gOf at h
 unfold zbB at hk
 unfold Region.wanted
 cases hg:o.guard with
 |none=>simp [hg]at h
 |some x=>
  obtain ⟨j,v⟩:=x
  simp only [hg,Option.map_some,Option.some.injEq,Prod.mk.injEq]at h
  simp only [hg]at hk
  cases hd:(ops[j]?).bind (·.dst)with
  |none=>simp [hd]at hk
  |some t'=>
   simp only [hd,Option.getD_some]at h hk
   obtain ⟨rfl,rfl⟩:=h
   refine ⟨?_,by simpa using hk⟩
   simp only [yielded,hd,Option.bind_some]
   cases tmps[t']? with
   |none=>rfl
   |some u=>cases u<;>first|rfl|(rename_i b;cases b<;>cases v<;>rfl)
theorem Rel.reput (h:Rel C σ a w) {t:Nat} {x:SV} (hx:∀loc,FR loc C.N σ.fr σ.pv σ.ph a→∃v,a.tmps[t]? =some v∧SVr loc σ.pv x v):Rel C (σ.put (some t) x) a w:=by
 obtain ⟨loc,hF,hH⟩:=h
 refine ⟨loc,⟨hF.defers,hF.size,fun u y hy=> ?_⟩,hH⟩
 rw [zgw]at hy
 by_cases hu:u=t
 ·simp only [hu,if_true,Option.some.injEq]at hy
  subst hy;subst hu
  exact hx loc hF
 ·simp only [hu,if_false]at hy
  exact hF.slots u y hy
def zhl (r:List (Option Nat×RO)):List (Option Nat×RO):=r.filter fun x=> !x.2.isGh
theorem zBC {o:RO} (h:o.isGh=true):o= .gh:=by
 cases o<;>first|rfl|(cases h;done)
theorem zkr {g:Option (Nat×Bool)} {rest:List Oper}:∀(r:List (Option Nat×RO)) (lg:List Oper) (σ:SS) (a:Act) (w:World),(lg.map fun o=>(o.dst,cOp C.P o))=zhl r→(∀o∈lg,gOf ops o=g∧zcY C.N o=true∧zbB ops o=true)→
  (∀t b,g=some (t,b)→a.tmps[t]? =some (.bool b))→Rel C σ a w→zcw C r K σ→
  (∀σ a w,K σ→Rel C σ a w→wpList C.P ops Q rest a w)→wpList C.P ops Q (lg++rest) a w
 |[],lg,σ,a,w,he,_,_,hR,h,hr=>by
  have:lg=[]:=by simpa [zhl]using he
  subst this
  exact hr σ a w h hR
 |(d,ro)::r,lg,σ,a,w,he,hg,ht,hR,h,hr=>by
  cases hgh:ro.isGh with
  |true=>
   have:=zBC hgh
   subst this
   obtain ⟨τ,hR',h'⟩:=(show ghC C (zcw C r K) σ from h).h a w hR
   exact zkr r lg τ a w (by simpa [zhl,RO.isGh]using he) hg ht hR' h' hr
  |false=>
   cases lg with
   |nil=>simp [zhl,hgh]at he
   |cons o lg=>
    simp only [zhl,List.filter_cons,hgh,Bool.not_false,if_true,List.map_cons,List.cons.injEq,Prod.mk.injEq]at he
    obtain ⟨⟨rfl,rfl⟩,he⟩:=he
    obtain ⟨hgo,hd,hk⟩:=hg o (by simp)
    have hw:Region.wanted o (yielded ops a.tmps)=true∧∀t b,g=some (t,b)→o.dst≠some t:=by
     cases g with
     |none=>exact ⟨zok hgo _,fun t b e=>by cases e⟩
     |some x=>
      obtain ⟨t,b⟩:=x
      obtain ⟨h1,h2⟩:=zhf hgo hk a.tmps
      refine ⟨by rw [h1,ht t b rfl];simp,fun t' b' e=>by cases e;exact h2⟩
    simp only [List.cons_append,wpList]
    rw [if_pos hw.1]
    left
    simp only [zcw]at h
    have h1:=Oper.wp_put (zqh (Q:=Q) (zgs hd) h hR)
    refine Oper.wp_mono (fun a' w' hq=> ?_) h1
    obtain ⟨⟨σ',hK,hR'⟩,hs⟩:=hq
    exact zkr r lg σ' a' w' he (fun o ho=>hg o (by simp [ho])) (fun t b e=>by rw [hs t (hw.2 t b e)];exact ht t b e) hR' hK hr
theorem zio {t:Nat} {want:Bool} {rest:List Oper}:∀(r:List (Option Nat×RO)) (lg:List Oper) (σ:SS) (a:Act) (w:World),(lg.map fun o=>(o.dst,cOp C.P o))=zhl r→(∀o∈lg,gOf ops o=some (t,want)∧zcY C.N o=true∧zbB ops o=true)→
  (∀b,a.tmps[t]? =some (.bool b)→b= !want)→Rel C σ a w→K (zco r σ)→
  (∀σ a w,K σ→Rel C σ a w→wpList C.P ops Q rest a w)→wpList C.P ops Q (lg++rest) a w
 |[],lg,σ,a,w,he,_,_,hR,h,hr=>by
  have:lg=[]:=by simpa [zhl]using he
  subst this
  exact hr σ a w h hR
 |(d,ro)::r,lg,σ,a,w,he,hg,ht,hR,h,hr=>by
  cases hgh:ro.isGh with
  |true=>
   simp only [zco,hgh,cond_true]at h
   exact zio r lg σ a w (by simpa [zhl,hgh]using he) hg ht hR h hr
  |false=>
   cases lg with
   |nil=>simp [zhl,hgh]at he
   |cons o lg=>
    simp only [zhl,List.filter_cons,hgh,Bool.not_false,if_true,List.map_cons,List.cons.injEq,Prod.mk.injEq]at he
    obtain ⟨⟨rfl,rfl⟩,he⟩:=he
    obtain ⟨hgo,hd,hk⟩:=hg o (by simp)
    obtain ⟨h1,h2⟩:=zhf hgo hk a.tmps
    have hw:Region.wanted o (yielded ops a.tmps)=false:=by
     rw [h1]
     cases hv:a.tmps[t]? with
     |none=>rfl
     |some v=>
      cases v<;>first|rfl|skip
      rename_i b
      rw [ht b hv]
      cases want<;>rfl
    simp only [List.cons_append,wpList]
    rw [hw]
    simp only [Bool.false_eq_true,if_false]
    simp only [zco,hgh,cond_false]at h
    refine zio r lg (σ.put o.dst .no) (a.put o.dst undef) w he (fun o ho=>hg o (by simp [ho])) (fun b hb=>ht b ?_) ?_ h hr
    ·rw [←hb]
     cases hd':o.dst with
     |none=>rfl
     |some d=>simp only [Act.put];rw [Array.getElem?_setIfInBounds_ne (fun e=>h2 (by rw [hd',e]))]
    ·obtain ⟨loc,hF,hH⟩:=hR
     obtain ⟨q1,q2,q3⟩:=σ.put_pv o.dst .no
     exact ⟨loc,by rw [q1,q2];exact hF.put (zgs hd) rfl (x:= .no) (v:=undef) rfl,by rw [q1,q2,q3];exact hH⟩
theorem zda (hQ:∀σ a w,K σ→Rel C σ a w→Q .normal a w):∀(ss:List Seg) (gs:List (Option (Nat×Bool)×List Oper)) (σ:SS) (a:Act) (w:World),gs.map (zAI C.P)=ss.map zrs→(∀x∈gs,∀o∈x.2,gOf ops o=x.1∧zcY C.N o=true∧zbB ops o=true)→
  Rel C σ a w→zbN C ss K σ→wpList C.P ops Q (gs.flatMap (·.2)) a w
 |[],gs,σ,a,w,he,_,hR,h=>by
  have:gs=[]:=by simpa using he
  subst this
  exact hQ σ a w h hR
 |_::_,[],σ,a,w,he,_,hR,h=>by simp at he
 |⟨gd,r⟩::ss,(g,lg)::gs,σ,a,w,he,hg,hR,h=>by
  simp only [List.map_cons,List.cons.injEq,zAI,zrs,Seg.mk.injEq]at he
  obtain ⟨⟨rfl,he1⟩,he2⟩:=he
  have hgs:=fun x (hx:x∈gs)=>hg x (List.mem_cons_of_mem _ hx)
  have hlg:=hg (g,lg) (by simp)
  simp only [List.flatMap_cons]
  cases g with
  |none=>
   exact zkr r lg σ a w he1 hlg (fun t b e=>by cases e) hR h fun σ' a' w' hK hR'=>zda hQ ss gs σ' a' w' he2 hgs hR' hK
  |some tw=>
   obtain ⟨t,want⟩:=tw
   simp only [zbN,brB]at h
   obtain ⟨loc,hF,hH⟩:=hR
   split at h
   ·rename_i b hl
    obtain ⟨v,hv,hs⟩:=hF.slots t _ hl
    have hvb:v= .bool b:=hs.2
    subst hvb
    have hre:∀c,c=b→Rel C (σ.put (some t) (.g (.s (.bool c)))) a w:=fun c hc=>Rel.reput ⟨loc,hF,hH⟩ fun loc' hF'=>by
     subst hc
     exact ⟨.bool c,hv,rfl,rfl⟩
    by_cases hb:b=want
    ·exact zkr r lg _ a w he1 hlg (fun t' b' e=>by cases e;rw [hv,hb]) (hre want hb.symm) (h.1 hb) fun σ' a' w' hK hR'=>zda hQ ss gs σ' a' w' he2 hgs hR' hK
    ·have hb':b= !want:=by cases b<;>cases want<;>simp_all
     exact zio (t:=t) (want:=want) r lg _ a w he1 hlg (fun b' e=>by rw [hv]at e;simp at e;rw [←e];exact hb') (hre (!want) hb'.symm) (h.2 hb') fun σ' a' w' hK hR'=>zda hQ ss gs σ' a' w' he2 hgs hR' hK
   ·rename_i hl
    obtain ⟨v,hv,hs⟩:=hF.slots t _ hl
    have hvu:v=undef:=hs
    exact zio (t:=t) (want:=want) r lg _ a w he1 hlg (fun b' e=>by rw [hv,hvu]at e;simp [undef]at e) ⟨loc,hF,hH⟩ h fun σ' a' w' hK hR'=>zda hQ ss gs σ' a' w' he2 hgs hR' hK
   ·exact h.elim
theorem put_other (a:Act) {o:Oper} {t:Nat} (h:o.dst≠some t) (v:Value):(a.put o.dst v).tmps[t]? =a.tmps[t]? :=by
 cases hd:o.dst with
 |none=>rfl
 |some d=>simp only [Act.put];rw [Array.getElem?_setIfInBounds_ne (fun e=>h (by rw [hd,e]))]
def HeapIs (pv:List (Nat×PV)) (ph:List PH) (m:PH) (σ:SS):Prop:=σ.pv=pv∧σ.ph=ph∧σ.m=m
theorem HeapIs.put {pv:List (Nat×PV)} {ph:List PH} {m:PH} (h:HeapIs pv ph m σ) (d:Option Nat) (x:SV):HeapIs pv ph m (σ.put d x):=by
 obtain ⟨q1,q2,q3⟩:=σ.put_pv d x
 exact ⟨q1.trans h.1,q2.trans h.2.1,q3.trans h.2.2⟩
section
variable {loc:Loc} {pv:List (Nat×PV)} {ph:List PH} {m:PH} {q:Act→Prop}
theorem zcm {P:Program} {N:Nat} {ns:List (Nat×Nat)} {id:Nat} {ops:Array Oper} {draw:Bool} {cd:Cd} (h:zoa P N ns id ops draw=cd) (h1:∀s k,cd≠ .rg s k) (h2:∀s t k,cd≠ .rgq s t k) (h4:∀t k,cd≠ .rga t k) (h3:∀c,cd≠ .raw c):False:=by
 rcases zdx P N ns id ops draw with ⟨_,_,_,e⟩|⟨n,_,_,_,_,_,e⟩|⟨_,_,_,_,_,e⟩|⟨_,_,_,_,_,_,e⟩|e
 ·exact h1 _ _ (h.symm.trans e)
 ·exact h2 _ _ _ (h.symm.trans e)
 ·exact h4 _ _ (h.symm.trans e)
 ·exact h4 _ _ (h.symm.trans e)
 ·exact h3 _ (h.symm.trans e)
theorem zpk (hW:∃w,HR C loc pv ph m w) {g:Option (Nat×Bool)} {rest:List Oper}:∀(lg:List Oper) (σ:SS) (a:Act),HeapIs pv ph m σ→(∀o∈lg,gOf ops o=g∧zcY C.N o=true∧zbB ops o=true)→
  (∀t b,g=some (t,b)→a.tmps[t]? =some (.bool b))→FR loc C.N σ.fr pv ph a→zdl C (lg.map fun o=>(o.dst,cOp C.P o)) K σ→
  (∀σ a,HeapIs pv ph m σ→FR loc C.N σ.fr pv ph a→K σ→wpQuiet C.P ops (fun w=>HR C loc pv ph m w) q rest a)→wpQuiet C.P ops (fun w=>HR C loc pv ph m w) q (lg++rest) a:=by
 intro lg
 induction lg with
 |nil=>exact fun σ a hs _ _ hF h hr=>hr σ a hs hF h
 |cons o lg ih=>
  intro σ a hs hg ht hF h hr
  obtain ⟨hgo,hd,hk⟩:=hg o (by simp)
  have hw:Region.wanted o (yielded ops a.tmps)=true∧∀t b,g=some (t,b)→o.dst≠some t:=by
   cases g with
   |none=>exact ⟨zok hgo _,fun t b e=>by cases e⟩
   |some x=>
    obtain ⟨t,b⟩:=x
    obtain ⟨h1,h2⟩:=zhf hgo hk a.tmps
    refine ⟨by rw [h1,ht t b rfl];simp,fun t' b' e=>by cases e;exact h2⟩
  simp only [List.cons_append,wpQuiet]
  rw [if_pos hw.1]
  simp only [List.map_cons,zdl]at h
  obtain ⟨e1,e2,e3⟩:=hs
  subst e1;subst e2;subst e3
  refine ztE (zgs hd) h hF hW fun x v hx hK=> ?_
  refine ih (σ.put o.dst x) (a.put o.dst v) (HeapIs.put ⟨rfl,rfl,rfl⟩ _ _) (fun o ho=>hg o (by simp [ho])) (fun t b e=>by rw [put_other a (hw.2 t b e)];exact ht t b e) ?_ hK hr
  exact hF.put (zgs hd) rfl hx
theorem zjM {t:Nat} {want:Bool} {rest:List Oper}:∀(lg:List Oper) (σ:SS) (a:Act),HeapIs pv ph m σ→(∀o∈lg,gOf ops o=some (t,want)∧zcY C.N o=true∧zbB ops o=true)→
  (∀b,a.tmps[t]? =some (.bool b)→b= !want)→FR loc C.N σ.fr pv ph a→K (zco (lg.map fun o=>(o.dst,cOp C.P o)) σ)→
  (∀σ a,HeapIs pv ph m σ→FR loc C.N σ.fr pv ph a→K σ→wpQuiet C.P ops (fun w=>HR C loc pv ph m w) q rest a)→wpQuiet C.P ops (fun w=>HR C loc pv ph m w) q (lg++rest) a
 |[],σ,a,hs,_,_,hF,h,hr=>hr σ a hs hF h
 |o::lg,σ,a,hs,hg,ht,hF,h,hr=>by
  obtain ⟨hgo,hd,hk⟩:=hg o (by simp)
  obtain ⟨h1,h2⟩:=zhf hgo hk a.tmps
  have hw:Region.wanted o (yielded ops a.tmps)=false:=by
   rw [h1]
   cases hv:a.tmps[t]? with
   |none=>rfl
   |some v=>
    cases v<;>first|rfl|skip
    rename_i b
    rw [ht b hv]
    cases want<;>rfl
  simp only [List.cons_append,wpQuiet]
  rw [hw]
  simp only [Bool.false_eq_true,if_false]
  simp only [List.map_cons,zco,zqx,cond_false]at h
  exact zjM lg (σ.put o.dst .no) (a.put o.dst undef) (hs.put _ _) (fun o ho=>hg o (by simp [ho])) (fun b hb=>ht b (by rw [←hb,put_other a h2])) (hF.put (zgs hd) rfl (x:= .no) (v:=undef) rfl) h hr
theorem zfq (hW:∃w,HR C loc pv ph m w) (hQ:∀σ a,HeapIs pv ph m σ→FR loc C.N σ.fr pv ph a→K σ→q a):∀(gs:List (Option (Nat×Bool)×List Oper)) (σ:SS) (a:Act),HeapIs pv ph m σ→
  (∀x∈gs,∀o∈x.2,gOf ops o=x.1∧zcY C.N o=true∧zbB ops o=true)→
  FR loc C.N σ.fr pv ph a→zdd C (gs.map (zAI C.P)) K σ→wpQuiet C.P ops (fun w=>HR C loc pv ph m w) q (gs.flatMap (·.2)) a
 |[],σ,a,hs,_,hF,h=>hQ σ a hs hF h
 |(none,lg)::gs,σ,a,hs,hg,hF,h=>by
  simp only [List.flatMap_cons]
  exact zpk hW lg σ a hs (hg (none,lg) (by simp)) (fun t b e=>by cases e) hF h fun σ' a' hs' hF' hK=>zfq hW hQ gs σ' a' hs' (fun x hx=>hg x (by simp [hx])) hF' hK
 |(some (t,want),lg)::gs,σ,a,hs,hg,hF,h=>by
  have hgs:=fun x (hx:x∈gs)=>hg x (List.mem_cons_of_mem _ hx)
  have hlg:=hg (some (t,want),lg) (by simp)
  simp only [List.flatMap_cons]
  simp only [List.map_cons,zAI,zdd,brB]at h
  split at h
  ·rename_i b hl
   obtain ⟨v,hv,hsv⟩:=hF.slots t _ hl
   have hvb:v= .bool b:=hsv.2
   subst hvb
   have hre:∀c,c=b→FR loc C.N (σ.put (some t) (.g (.s (.bool c)))).fr pv ph a:=fun c hc=>⟨hF.defers,hF.size,fun u y hy=>by
    rw [zgw]at hy
    by_cases hu:u=t
    ·simp only [hu,if_true,Option.some.injEq]at hy
     subst hy;subst hu;subst hc
     exact ⟨.bool c,hv,rfl,rfl⟩
    ·simp only [hu,if_false]at hy
     exact hF.slots u y hy⟩
   by_cases hb:b=want
   ·exact zpk hW lg _ a (hs.put _ _) hlg (fun t' b' e=>by cases e;rw [hv,hb]) (hre want hb.symm) (h.1 hb) fun σ' a' hs' hF' hK=>zfq hW hQ gs σ' a' hs' hgs hF' hK
   ·have hb':b= !want:=by cases b<;>cases want<;>simp_all
    exact zjM (t:=t) (want:=want) lg _ a (hs.put _ _) hlg (fun b' e=>by rw [hv]at e;simp at e;rw [←e];exact hb') (hre (!want) hb'.symm) (h.2 hb') fun σ' a' hs' hF' hK=>zfq hW hQ gs σ' a' hs' hgs hF' hK
  ·rename_i hl
   obtain ⟨v,hv,hsv⟩:=hF.slots t _ hl
   have hvu:v=undef:=hsv
   exact zjM (t:=t) (want:=want) lg _ a hs hlg (fun b' e=>by rw [hv,hvu]at e;simp [undef]at e) hF h fun σ' a' hs' hF' hK=>zfq hW hQ gs σ' a' hs' hgs hF' hK
  ·exact h.elim
end
theorem HR.drew {loc:Loc} {pv:List (Nat×PV)} {ph:List PH} {m:PH} (h:HR C loc pv ph m w):HR C loc pv ph m {w with drawn:=w.drawn+1}:=
 ⟨h.kept,h.pvs,h.apart,h.priv,h.mle,h.mmine,h.phs⟩
theorem Ge.rel {τ:SS} (hg:Ge σ τ) (h:Rel C σ a w):Rel C τ a w:=by
 obtain ⟨loc,hF,hH⟩:=h
 refine ⟨loc,⟨hF.defers.up hg.same,hF.size,fun t x hx=> ?_⟩,⟨hH.kept,fun k y hk=> ?_, ?_, ?_,hg.m▸hH.mle,fun b hb=>hH.mmine b (by rw [←hg.m];exact hb),fun u hu=> ?_⟩⟩
 ·obtain ⟨v,hv,hr⟩:=hF.slots t x (hg.fr t x hx)
  refine ⟨v,hv,hr.weaken fun k hk=>⟨rfl, ?_⟩⟩
  obtain ⟨y,hy⟩:=Option.isSome_iff_exists.mp (hg.wf t x hx k hk)
  rw [hy,hg.pv k y hy]
 ·have hp:=hH.pvs k y (hg.pv k y hk)
  cases y with
  |box g=>exact hp
  |row e z df xs=>exact hp
  |ro z df xs=>
   refine ⟨hp.1, ?_⟩
   have hp2:=hp.2
   cases hl:loc k with
   |none=>rw [hl]at hp2;exact hp2
   |some l=>
    obtain ⟨b,o,c⟩:=l
    rw [hl]at hp2
    obtain ⟨h1,hp3⟩:=hp2
    refine ⟨h1,fun hc0=> ?_⟩
    obtain ⟨u,cs,e,fz,hu,h2⟩:=hp3 hc0
    exact ⟨u,cs,e,fz,hu.imp id (hg.ros k z df xs hk u),h2⟩
 ·intro k k' y y' b o c o' c' h1 h2 h3 h4
  exact hH.apart k k' y y' b o c o' c' (hg.pv _ _ h1) h2 h3 (hg.pv _ _ h4)
 ·intro k y b o c h1 h2 h3
  obtain ⟨e1,e2,e3⟩:=hH.priv k y b o c (hg.pv _ _ h1) h2 h3
  exact ⟨e1,by rw [hg.m];exact e2,fun u hu=>e3 u (hg.ph u hu)⟩
 ·rw [hg.m];exact hH.phs u (hg.ph u hu)
theorem zkZ {fr:List (Nat×SV)}:∀(l:List Nat) (t:Nat) (x:SV),look (zk fr l) t=some x→look fr t=some x
 |[],t,x,h=>by simp [zk,look]at h
 |k::l,t,x,h=>by
  simp only [zk]at h
  split at h
  ·rename_i y hy
   simp only [look]at h
   split at h
   ·rename_i e
    subst e
    rw [hy];exact h
   ·exact zkZ l t x h
  ·exact zkZ l t x h
theorem Rel.keep (h:Rel C σ a w) (l:List Nat):Rel C (σ.keep l) a w:=by
 obtain ⟨loc,hF,hH⟩:=h
 exact ⟨loc,⟨hF.defers,hF.size,fun t x hx=>hF.slots t x (zkZ l t x hx)⟩,hH⟩
theorem zzq (ns:List (Nat×Nat)):∀(cd:Cd) (code:Code) (Q:QT) (σ:SS) (a:Act) (w:World),comp C.P C.N ns code=er cd→vc C cd Q σ→Rel C σ a w→code.wp C.P (zlQ C Q) a w:=by
 intro cd
 induction cd with
 |skip=>
  intro code Q σ a w hc h hR
  cases code<;>simp only [comp,er]at hc<;>(try split at hc)<;>first|(cases hc;done)|(exact (zcm hc (by intros;simp) (by intros;simp) (by intros;simp) (by intros;simp)).elim)|skip
  ·exact wp_skip ⟨σ,h,hR⟩
  ·exact wp_label ⟨σ,h,hR⟩
 |ret=>
  intro code Q σ a w hc h hR
  cases code<;>simp only [comp,er]at hc<;>(try split at hc)<;>first|(cases hc;done)|(exact (zcm hc (by intros;simp) (by intros;simp) (by intros;simp) (by intros;simp)).elim)|skip
  exact wp_ret ⟨σ,h,hR⟩
 |exit id=>
  intro code Q σ a w hc h hR
  cases code<;>simp only [comp,er]at hc<;>(try split at hc)<;>first|(cases hc;done)|(exact (zcm hc (by intros;simp) (by intros;simp) (by intros;simp) (by intros;simp)).elim)|skip
  cases hc
  exact wp_exit ⟨σ,h,hR⟩
 |seq x y ihx ihy=>
  intro code Q σ a w hc h hR
  cases code<;>simp only [comp,er]at hc<;>(try split at hc)<;>first|(cases hc;done)|(exact (zcm hc (by intros;simp) (by intros;simp) (by intros;simp) (by intros;simp)).elim)|skip
  rename_i x' y'
  simp only [Cd.seq.injEq]at hc
  refine wp_seq (wp_mono (ihx x' _ σ a w hc.1 h hR) fun e a' w' hq=> ?_)
  obtain ⟨σ',hq,hR'⟩:=hq
  cases e with
  |normal=>exact ihy y' Q σ' a' w' hc.2 hq hR'
  |_=>exact ⟨σ',hq,hR'⟩
 |ite c x y ihx ihy=>
  intro code Q σ a w hc h hR
  cases code<;>simp only [comp,er]at hc<;>(try split at hc)<;>first|(cases hc;done)|(exact (zcm hc (by intros;simp) (by intros;simp) (by intros;simp) (by intros;simp)).elim)|skip
  rename_i c' x' y' _ c2 hc2
  simp only [Cd.ite.injEq]at hc
  obtain ⟨rfl,h1,h2⟩:=hc
  simp only [vc,brB]at h
  split at h
  ·rename_i t ht
   have hF:=hR.choose_spec.1
   have hv:=(hF.ev rfl ht).s
   refine wp_cond_split (t:=t) (by rw [zs hc2 a];exact hv) (fun e=>ihx x' Q σ a w h1 (h.1 e) hR) (fun e=>ihy y' Q σ a w h2 (h.2 e) hR)
  ·exact h.elim
 |block id x ih=>
  intro code Q σ a w hc h hR
  cases code<;>simp only [comp,er]at hc<;>(try split at hc)<;>first|(cases hc;done)|(exact (zcm hc (by intros;simp) (by intros;simp) (by intros;simp) (by intros;simp)).elim)|skip
  rename_i id' x'
  simp only [Cd.block.injEq]at hc
  obtain ⟨rfl,h1⟩:=hc
  refine wp_block (wp_mono (ih x' _ σ a w h1 h hR) fun e a' w' hq=> ?_)
  obtain ⟨σ',hq,hR'⟩:=hq
  cases e with
  |exit j=>
   simp only [blockQ]at hq
   simp only [Exit.inBlock]
   split
   ·rename_i e;rw [if_pos e]at hq;exact ⟨σ',hq,hR'⟩
   ·rename_i e;rw [if_neg e]at hq;exact ⟨σ',hq,hR'⟩
  |_=>exact ⟨σ',hq,hR'⟩
 |loop x ih=>
  intro code Q σ a w hc h hR
  cases code<;>simp only [comp,er]at hc<;>(try split at hc)<;>first|(cases hc;done)|(exact (zcm hc (by intros;simp) (by intros;simp) (by intros;simp) (by intros;simp)).elim)|skip
  rename_i x'
  simp only [Cd.loop.injEq]at hc
  obtain ⟨ι,st,inv,ms,i0,hi0,hge,hstep⟩:=h
  refine wp_loop_ghost (fun n a w=>∃i,inv i∧ms i=n∧Rel C (st i) a w) (ms i0) ⟨i0,hi0,rfl,hge.rel hR⟩ fun n a w hI=> ?_
  obtain ⟨i,hi,rfl,hRi⟩:=hI
  refine wp_mono (ih x' _ (st i) a w hc (hstep i hi) hRi) fun e a' w' hq=> ?_
  obtain ⟨σ',hq,hR'⟩:=hq
  cases e with
  |normal=>
   obtain ⟨j,hj,hlt,hge'⟩:=hq
   exact ⟨ms j,hlt,j,hj,rfl,hge'.rel hR'⟩
  |_=>exact ⟨σ',hq,hR'⟩
 |scope x ih=>
  intro code Q σ a w hc h hR
  cases code<;>simp only [comp,er]at hc<;>(try split at hc)<;>first|(cases hc;done)|(exact (zcm hc (by intros;simp) (by intros;simp) (by intros;simp) (by intros;simp)).elim)|skip
  rename_i x'
  simp only [Cd.scope.injEq]at hc
  refine wp_scope_straight (wp_mono (ih x' _ σ a w hc h hR) fun e a' w' hq=> ?_)
  obtain ⟨σ',hq,hR'⟩:=hq
  cases e with
  |goto l=>exact hq.elim
  |_=>exact ⟨σ',hq,hR'⟩
 |rg segs keep=>
  intro code Q σ a w hc h hR
  cases code<;>simp only [comp,er]at hc<;>(try split at hc)<;>first|(cases hc;done)|skip
  rename_i id ops draw
  rcases zdx C.P C.N ns id ops draw with ⟨rfl,hd,hg,e⟩|⟨n,_,_,_,_,_,e⟩|⟨_,_,_,_,_,e⟩|⟨_,_,_,_,_,_,e⟩|e
  rotate_left
  ·rw [e]at hc;cases hc
  ·rw [e]at hc;cases hc
  ·rw [e]at hc;cases hc
  ·rw [e]at hc;cases hc
  rw [e]at hc
  simp only [Cd.rg.injEq,and_true]at hc
  simp only [Array.all_eq_true_iff_forall_mem]at hd hg
  refine wp_region_list ?_
  have:=zda (C:=C) (ops:=ops) (K:=zgE keep Q) (Q:=zlQ C Q) (fun σ' a' w' hK hR'=>⟨σ'.keep keep,hK,hR'.keep keep⟩) segs (grp ops ops.toList) σ a w hc (fun x hx o ho=>by
   obtain ⟨h1,h2⟩:=zlX ops ops.toList x hx o ho
   exact ⟨h1,hd o (by simpa using h2),hg o (by simpa using h2)⟩) hR h
  rwa [zgP]at this
 |rgq hd' tl keep=>
  intro code Q σ a w hc h hR
  cases code<;>simp only [comp,er]at hc<;>(try split at hc)<;>first|(cases hc;done)|skip
  rename_i id ops draw
  rcases zdx C.P C.N ns id ops draw with ⟨_,_,_,e⟩|⟨n,rfl,hd,hg,hmix,hB,e⟩|⟨_,_,_,_,_,e⟩|⟨_,_,_,_,_,_,e⟩|e
  ·rw [e]at hc;cases hc
  rotate_left
  ·rw [e]at hc;cases hc
  ·rw [e]at hc;cases hc
  ·rw [e]at hc;cases hc
  rw [e]at hc
  simp only [Cd.rgq.injEq,and_true]at hc
  simp only [Array.all_eq_true_iff_forall_mem]at hd hg
  obtain ⟨e1,e2⟩:=hc
  subst e1
  obtain ⟨loc,hF,hH⟩:=hR
  have hmem:∀(l:List Oper),(∀o∈l,o∈ops.toList)→∀x∈grp ops l,∀o∈x.2,gOf ops o=x.1∧zcY C.N o=true∧zbB ops o=true:=fun l hl x hx o ho=>by
   obtain ⟨h1,h2⟩:=zlX ops l x hx o ho
   have:=hl o h2
   exact ⟨h1,hd o (by simpa using this),hg o (by simpa using this)⟩
  have hquiet:wpQuiet C.P ops (fun w=>HR C loc σ.pv σ.ph σ.m w) (fun a'=>∀w',HR C loc σ.pv σ.ph σ.m w'→wpList C.P ops (zlQ C Q) (ops.toList.drop n) a' w') (ops.toList.take n) a:=by
   have:=zfq (C:=C) (ops:=ops) (K:=zbN C tl (zgE keep Q)) (q:=fun a'=>∀w',HR C loc σ.pv σ.ph σ.m w'→wpList C.P ops (zlQ C Q) (ops.toList.drop n) a' w') ⟨w,hH⟩
    (fun σ' a' hs' hF' hK w' hw'=>by
     obtain ⟨q1,q2,q3⟩:=hs'
     have:=zda (C:=C) (ops:=ops) (K:=zgE keep Q) (Q:=zlQ C Q) (fun σ' a' w' hK hR'=>⟨σ'.keep keep,hK,hR'.keep keep⟩) tl (grp ops (ops.toList.drop n)) σ' a' w' e2 (hmem _ fun o ho=>List.mem_of_mem_drop ho)
      ⟨loc,by rw [q1,q2];exact hF',by rw [q1,q2,q3];exact hw'⟩ hK
     rwa [zgP]at this) (grp ops (ops.toList.take n)) σ a ⟨rfl,rfl,rfl⟩ (hmem _ fun o ho=>List.mem_of_mem_take ho) hF h
   rwa [zgP]at this
  rcases hB with ⟨hsz,hB⟩|⟨hsz,hB⟩
  ·refine wp_region_quiet (C:=fun w=>HR C loc σ.pv σ.ph σ.m w) hmix hB hH.drew ?_
   rw [List.take_of_length_le (by simp [hsz])]at hquiet
   rw [List.drop_of_length_le (by simp [hsz])]at hquiet
   exact hquiet
  ·exact zsS (C:=fun w=>HR C loc σ.pv σ.ph σ.m w) n hmix hB hH.drew hquiet
 |rga t keep=>
  intro code Q σ a w hc h hR
  cases code<;>simp only [comp,er]at hc<;>(try split at hc)<;>first|(cases hc;done)|skip
  rename_i id ops draw
  rcases zdx C.P C.N ns id ops draw with ⟨_,_,_,e⟩|⟨n,_,_,_,_,_,e⟩|⟨rfl,hd,hg,hmix,hns,e⟩|⟨rfl,hd,hg,hmix,hns,hts,e⟩|e
  ·rw [e]at hc;cases hc
  ·rw [e]at hc;cases hc
  ·rw [e]at hc
   simp only [Cd.rga.injEq,and_true]at hc
   simp only [Array.all_eq_true_iff_forall_mem]at hd hg
   obtain ⟨loc,hF,hH⟩:=hR
   exact wp_region_any hmix (zek (D:=zbD C (zgE keep Q)) (fun a' w' ⟨τ,hK,hR'⟩=>⟨τ.keep keep,hK,hR'.keep keep⟩) _ _ _ _ (ztQ hns hd hg _ _ t σ a _ hc h ⟨loc,hF,hH.drew⟩))
  ·rw [e]at hc
   simp only [Cd.rga.injEq,and_true]at hc
   simp only [Array.all_eq_true_iff_forall_mem]at hd hg hts
   obtain ⟨t1,σ1,e1,hn,h,hR⟩:=zgB t σ h hR
   obtain ⟨u,σ0,hu,hh,h,hM⟩:=zpD (e1.trans hc.symm) hn h
   obtain ⟨loc,hF,hH⟩:=hR
   have hR':Rel C σ1 a {w with drawn:=w.drawn+1}:=⟨loc,hF,hH.drew⟩
   have hts':∀o∈ops,∀t∈zld C.P ops,o.dst≠some t:=fun o ho t ht=>by
    have h1:=hts o ho
    simp only [List.all_eq_true,bne_iff_ne,ne_eq]at h1
    exact h1 t ht
   exact wp_region_any hmix (zek (D:=zbD C (zgE keep Q)) (fun a' w' ⟨τ,hK,hR'⟩=>⟨τ.keep keep,hK,hR'.keep keep⟩) _ _ _ _ (zje _ _ _ _
    (zrm hns hd hg hts' _ _ u σ1 a _ hu.symm h hh (fun _ _=>rfl) (zmE hR' hh hM fun _ _=>rfl) hR')))
  ·rw [e]at hc;cases hc
 |gh x ih=>
  intro code Q σ a w hc h hR
  obtain ⟨τ,hR',h'⟩:=h a w hR
  exact ih code Q τ a w hc h' hR'
 |raw c=>
  intro code Q σ a w hc h hR
  have:code=c:=by
   cases code<;>simp only [comp,er]at hc<;>(try split at hc)<;>first|(cases hc;done)|(cases hc;rfl)|skip
   rename_i id ops draw
   rcases zdx C.P C.N ns id ops draw with ⟨_,_,_,e⟩|⟨n,_,_,_,_,_,e⟩|⟨_,_,_,_,_,e⟩|⟨_,_,_,_,_,_,e⟩|e<;>rw [e]at hc<;>cases hc
   rfl
  subst this
  exact h a w hR
end
end Go.Proofs.YtmjiojflncffeaaGreat.Vc

set_option linter.unusedVariables false
set_option linter.unusedSimpArgs false
namespace Go.Proofs.YtmjiojflncffeaaGreat.Vc
open Go
def zxk:List GV→Value
 |[x]=>x.val
 |xs=> .tuple (xs.map GV.val).toArray
def zK:List GV→SV
 |[x]=> .g x
 |xs=> .tup xs
def Spec (P:Program) (f:Nat) (args:List Value) (m:PH) (w:World) (Q:List GV→PH→Prop):Prop:=
 m.le w→Calls P f args.toArray w fun e w'=>∃rs m',e= .returned (zxk rs)∧(∀r∈rs,r.ok)∧Q rs m'∧m'.le w'∧(∀b,m' b≠none→m b≠none∨w.heap.size≤b)∧Kept m w w'
theorem Spec.mono {P:Program} {f:Nat} {args:List Value} {m:PH} {w:World} {Q Q':List GV→PH→Prop} (h:Spec P f args m w Q) (hq:∀rs m',Q rs m'→Q' rs m'):Spec P f args m w Q':=
 fun hm=>(h hm).mono fun e w' ⟨rs,m',h1,h2,h3,h4⟩=>⟨rs,m',h1,h2,hq rs m' h3,h4⟩
theorem Kept.refl (m:PH) (w:World):Kept m w w:=⟨rfl,rfl,rfl,Nat.le_refl _,fun _ _ _=>rfl⟩
inductive AV where
 |g (x:GV)
 |ro (v:Value) (z:Nat) (df:GV) (xs:List GV)
def AV.val:AV→Value
 | .g x=>x.val
 | .ro v _ _ _=>v
def AV.ok (u:PH):AV→Prop
 | .g x=>x.ok
 | .ro v z _ xs=>SlR u v z xs
def zak:Nat→List AV→List (Nat×SV)
 |_,[]=>[]
 |i, .g x::r=>(i, .g x)::zak (i+1) r
 |i, .ro _ _ _ xs::r=>(i, .row i 0 xs.length)::zak (i+1) r
def zaK:Nat→List AV→List (Nat×PV)
 |_,[]=>[]
 |i, .g _::r=>zaK (i+1) r
 |i, .ro _ z df xs::r=>(i, .ro z df xs)::zaK (i+1) r
def locOf:Value→Option (Nat×Nat×Nat)
 | .slice (some ⟨b,o,_⟩) _ c=>some (b,o,c)
 |_=>none
theorem zij (l:List AV):∀(i k:Nat),look (zaK i l) k=if k<i then none else (l[k - i]?).bind fun x=>match x with| .g _=>none| .ro _ z df xs=>some (.ro z df xs):=by
 induction l with
 |nil=>intro i k;simp [zaK,look]
 |cons x l ih=>
  intro i k
  have key:∀y,(if k=i then y else if k<i+1 then none else ((l[k - (i+1)]?).bind fun x=>match x with| .g _=>none| .ro _ z df xs=>some (PV.ro z df xs)))=
    if k<i then none else if k=i then y else ((l[k - (i+1)]?).bind fun x=>match x with| .g _=>none| .ro _ z df xs=>some (PV.ro z df xs)):=by
   intro y
   by_cases h1:k=i
   ·subst h1;simp
   ·by_cases h2:k<i
    ·simp [h1,h2,show k<i+1 by omega]
    ·simp [h1,h2,show ¬k<i+1 by omega]
  cases x with
  |g x=>
   simp only [zaK,ih]
   by_cases h1:k=i
   ·subst h1;simp
   ·by_cases h2:k<i
    ·simp [h2,show k<i+1 by omega]
    ·rw [if_neg (by omega),if_neg h2,show k - i=(k - (i+1))+1 by omega];rfl
  |ro v z df xs=>
   simp only [zaK,look,ih]
   by_cases h1:k=i
   ·subst h1;simp
   ·by_cases h2:k<i
    ·simp [h1,h2,show k<i+1 by omega]
    ·rw [if_neg h1,if_neg (by omega),if_neg h2,show k - i=(k - (i+1))+1 by omega];rfl
theorem zwI (l:List AV):∀(i k:Nat),look (zak i l) k=if k<i then none else (l[k - i]?).map fun x=>match x with| .g x=>SV.g x| .ro _ _ _ xs=> .row k 0 xs.length:=by
 induction l with
 |nil=>intro i k;simp [zak,look]
 |cons x l ih=>
  intro i k
  cases x with
  |g x=>
   simp only [zak,look,ih]
   by_cases h1:k=i
   ·subst h1;simp
   ·by_cases h2:k<i
    ·simp [h1,h2,show k<i+1 by omega]
    ·rw [if_neg h1,if_neg (by omega),if_neg h2,show k - i=(k - (i+1))+1 by omega];rfl
  |ro v z df xs=>
   simp only [zak,look,ih]
   by_cases h1:k=i
   ·subst h1;simp
   ·by_cases h2:k<i
    ·simp [h1,h2,show k<i+1 by omega]
    ·rw [if_neg h1,if_neg (by omega),if_neg h2,show k - i=(k - (i+1))+1 by omega];rfl
inductive RV where
 |tmp (t:Nat)
 |cell (t z:Nat) (ag:Bool)
def zjj (P:Program):List ResultVar→Option (List RV)
 |[]=>some []
 | .tmp t::r=>(zjj P r).map (.tmp t:: ·)
 | .cell a ty::r=>match P.underlying ty,P.info? ty,zjj P r with
  |some d,some i,some l=>some (.cell a i.size (agD d)::l)
  |_,_,_=>none
def zC (σ:SS):RV→Option GV
 | .tmp t=>match look σ.fr t with
  |some (.g x)=>some x
  |_=>none
 | .cell t z ag=>match look σ.fr t with
  |some (.ref k p)=>match look σ.pv k with
   |some (.box g)=>(g.get p).bind fun y=>if y.fits z ag then some y else none
   |_=>none
  |_=>none
def zal (σ:SS):List RV→Option (List GV)
 |[]=>some []
 |r::l=>match zC σ r,zal σ l with
  |some x,some y=>some (x::y)
  |_,_=>none
structure Fin (C:Ctx) (rv:List RV) (Qf:List GV→PH→Prop) (σ:SS):Prop where
 h:∀a w,Rel C σ a w→∃τ rs m',Rel C τ a w∧zal τ rv=some rs∧Qf rs m'∧PH.sub m' τ.m
def znm (C:Ctx) (rv:List RV) (Qf:List GV→PH→Prop):QT
 | .ret,σ=>Fin C rv Qf σ
 | .normal,σ=>Fin C rv Qf σ
 |_,_=>False
theorem zbq {C:Ctx} {rv:List RV} {Qf:List GV→PH→Prop} {σ:SS} {rs:List GV} (m':PH) (h:zal σ rv=some rs) (hs:PH.sub m' σ.m) (hq:Qf rs m'):Fin C rv Qf σ:=
 ⟨fun a w hR=>⟨σ,rs,m',hR,h,hq,hs⟩⟩
theorem zcB {C:Ctx} {rv:List RV} {Qf:List GV→PH→Prop} {σ:SS} {rs:List GV} (h:zal σ rv=some rs) (hq:Qf rs PH.no):Fin C rv Qf σ:=
 zbq PH.no h (fun _ _ h=>by cases h) hq
def zsf (a:Act):ResultVar→Sem Value
 | .tmp t=>pure (a.tmps.getD t undef)
 | .cell b t=>do loadVar t (←asAddr (a.tmps.getD b undef))
theorem zwE {C:Ctx} {σ:SS} {a:Act} {w:World} {loc:Loc} (hF:FR loc C.N σ.fr σ.pv σ.ph a) (hH:HR C loc σ.pv σ.ph σ.m w) {x:ResultVar} {r:RV} {g:GV} (hc:zjj C.P [x]=some [r]) (hg:zC σ r=some g):
  g.ok∧(zsf a x).run C.P w= .ok g.val w:=by
 cases x with
 |tmp t=>
  simp [zjj]at hc
  subst hc
  simp only [zC]at hg
  split at hg
  ·rename_i x hl
   simp at hg;subst hg
   obtain ⟨v,hv,h1,h2⟩:=hF.slots t _ hl
   exact ⟨h1,by simp [zsf,hv,h2]⟩
  ·cases hg
 |cell b t=>
  simp only [zjj]at hc
  split at hc
  ·rename_i d i l hu hi hl
   simp at hl;subst hl
   simp at hc;subst hc
   simp only [zC]at hg
   split at hg
   ·rename_i k p hl
    split at hg
    ·rename_i g' hb
     obtain ⟨y,hy,hf⟩:=Option.bind_eq_some_iff.mp hg
     split at hf
     ·rename_i hfit
      simp at hf;subst hf
      obtain ⟨v,hv,g2,b2,c2,y2,h1,h2,h3,h4⟩:=hF.slots b _ hl
      rw [hb]at h1
      obtain rfl:g'=g2:=by simpa using h1
      obtain ⟨hok,b3,c3,e,hl3,hb3⟩:=hH.pvs k _ hb
      rw [h2]at hl3
      obtain ⟨rfl,rfl⟩:b2=b3∧c2=c3:=by simpa using hl3
      have hyok:=(GV.get_at g' p y hok hy).1
      refine ⟨hyok, ?_⟩
      have:=zev (P:=C.P) hu hi hyok hfit b2 (g'.offs p) w (fun j v hj=>by rw [zfN hb3];simpa using GV.get_cells hok hy j v hj)
      simp [zsf,hv,h4,asAddr,Sem.run_bind,this]
     ·cases hf
    ·cases hg
   ·cases hg
  ·cases hc
theorem zvB {C:Ctx} {σ:SS} {a:Act} {w:World} {loc:Loc} (hF:FR loc C.N σ.fr σ.pv σ.ph a) (hH:HR C loc σ.pv σ.ph σ.m w):∀{xs:List ResultVar} {rv:List RV} {rs:List GV},zjj C.P xs=some rv→zal σ rv=some rs→
  (∀r∈rs,r.ok)∧(xs.mapM (zsf a)).run C.P w= .ok (rs.map GV.val) w
 |[],rv,rs,hc,hr=>by
  simp [zjj]at hc;subst hc
  simp [zal]at hr;subst hr
  exact ⟨by simp,by simp⟩
 |x::xs,rv,rs,hc,hr=>by
  have hsplit:∃r l,zjj C.P [x]=some [r]∧zjj C.P xs=some l∧rv=r::l:=by
   cases x with
   |tmp t=>
    simp only [zjj,Option.map_eq_some_iff]at hc
    obtain ⟨l,hl,rfl⟩:=hc
    exact ⟨.tmp t,l,by simp [zjj],hl,rfl⟩
   |cell b t=>
    simp only [zjj]at hc
    split at hc
    ·rename_i d i l hu hi hl
     simp at hc;subst hc
     exact ⟨.cell b i.size (agD d),l,by simp [zjj,hu,hi],hl,rfl⟩
    ·cases hc
  obtain ⟨r,l,h1,h2,rfl⟩:=hsplit
  simp only [zal]at hr
  split at hr
  ·rename_i g gs hg hgs
   simp at hr;subst hr
   obtain ⟨e1,e2⟩:=zwE hF hH h1 hg
   obtain ⟨e3,e4⟩:=zvB hF hH h2 hgs
   refine ⟨by simpa using ⟨e1,e3⟩, ?_⟩
   rw [List.mapM_cons,Sem.run_bind,e2]
   simp only [Result.andThen_ok,Sem.run_bind,e4,Sem.run_pure,List.map_cons]
  ·cases hr
theorem znP {C:Ctx} {fn:Func} {σ:SS} {a:Act} {w:World} {rv:List RV} {rs:List GV} (hR:Rel C σ a w) (hc:zjj C.P fn.results.toList=some rv) (hr:zal σ rv=some rs):
  (∀r∈rs,r.ok)∧(results fn a.tmps).run C.P w= .ok (zxk rs) w:=by
 obtain ⟨loc,hF,hH⟩:=hR
 obtain ⟨h1,h2⟩:=zvB hF hH hc hr
 refine ⟨h1, ?_⟩
 have hres:results fn a.tmps=(do
   let vs←fn.results.mapM (zsf a)
   pure (if h:vs.size=1 then vs[0]else .tuple vs)):=by
  unfold results
  congr 1
 rw [hres,Sem.run_bind]
 have:(fn.results.mapM (zsf a)).run C.P w= .ok (rs.map GV.val).toArray w:=by
  rw [Array.mapM_eq_mapM_toList,Sem.run_map,h2]
  rfl
 rw [this]
 simp only [Result.andThen_ok]
 cases rs with
 |nil=>rfl
 |cons x l=>
  cases l with
  |nil=>simp [zxk]
  |cons y l=>simp [zxk]
def ztr (D:Nat) (u:PH):PH:=fun b=>if b=D then none else u b
theorem Rel.shut {C:Ctx} {σ:SS} {a:Act} {w:World} {d:Deferred} {ds:List Deferred} (h:Rel C σ a w) (hd:a.defers=d::ds):
  ∃D,d.target= .collected D∧(Instr.takeDeferred D).run C.P w= .ok [] (w.putObj D (.deferred none))∧Rel C {σ with ph:=σ.ph.map (ztr D)} {a with defers:=ds} (w.putObj D (.deferred none)):=by
 obtain ⟨loc,hF,hH⟩:=h
 have hm:=hF.defers
 rw [hd]at hm
 obtain ⟨hp,hall⟩:=hm
 rw [List.pairwise_cons]at hp
 obtain ⟨D,u,ht,hu,huD⟩:=hall d (by simp)
 have hw:w.heap[D]? =some (.deferred (some [])):=(hH.phs u hu).1 D _ huD
 obtain ⟨hmine,hmD⟩:=(hH.phs u hu).2 D (by rw [huD];simp)
 have other:∀{b:Nat} {o:Obj},w.heap[b]? =some o→o≠ .deferred (some [])→(w.putObj D (.deferred none)).heap[b]? =some o:=fun {b o} hb ho=>by
  rw [World.putObj_heap_other (fun e=>by rw [e,hw]at hb;exact ho (Option.some.inj hb).symm)];exact hb
 refine ⟨D,ht,run_takeDeferred hw,loc,⟨⟨hp.2,fun d' hd'=> ?_⟩,hF.size,hF.slots⟩,⟨?_,fun k y hk=> ?_,hH.apart,fun k y b o c h1 h2 h3=> ?_,fun b o hb=> ?_,hH.mmine,fun u' hu'=> ?_⟩⟩
 ·obtain ⟨D',u',h1,h2,h3⟩:=hall d' (List.mem_cons_of_mem _ hd')
  refine ⟨D',ztr D u',h1,List.mem_map_of_mem h2, ?_⟩
  rw [ztr,if_neg (fun e=>hp.1 d' hd' (by rw [ht,h1,e]))]
  exact h3
 ·obtain ⟨k1,k2,k3,k4,k5⟩:=hH.kept
  refine ⟨k1,k2,k3,by rw [World.putObj_size];exact k4,fun k hk hk2=> ?_⟩
  rw [World.putObj_heap_other (fun e=> ?_)]
  ·exact k5 k hk hk2
  ·subst e
   rcases hmine with h|h
   ·omega
   ·exact h hk2
 ·have hp:=hH.pvs k y hk
  cases y with
  |box g=>
   obtain ⟨g1,b,c,e,g2,g3⟩:=hp
   exact ⟨g1,b,c,e,g2,other g3 (by simp)⟩
  |row e z df xs=>
   refine ⟨hp.1, ?_⟩
   have h2:=hp.2
   cases hl:loc k with
   |none=>rw [hl]at h2;exact h2
   |some q=>
    obtain ⟨b,o,c⟩:=q
    rw [hl]at h2
    obtain ⟨cs,g1,g2⟩:=h2
    exact ⟨cs,other g1 (by simp),g2⟩
  |ro z df xs=>
   refine ⟨hp.1, ?_⟩
   have h2:=hp.2
   cases hl:loc k with
   |none=>rw [hl]at h2;exact h2
   |some q=>
    obtain ⟨b,o,c⟩:=q
    rw [hl]at h2
    refine ⟨h2.1,fun hc=> ?_⟩
    obtain ⟨u1,cs,e,fz,g1,g2,g3⟩:=h2.2 hc
    rcases g1 with g1|g1
    ·exact ⟨u1,cs,e,fz, .inl g1,g2,g3⟩
    ·refine ⟨ztr D u1,cs,e,fz, .inr (List.mem_map_of_mem g1), ?_,g3⟩
     rw [ztr,if_neg (fun e=>by rw [e]at g2;have:=(hH.phs u1 g1).1 D _ g2;rw [hw]at this;cases this)]
     exact g2
 ·obtain ⟨g1,g2,g3⟩:=hH.priv k y b o c h1 h2 h3
  refine ⟨g1,g2,fun u' hu'=> ?_⟩
  obtain ⟨u1,h4,rfl⟩:=List.mem_map.1 hu'
  rw [ztr,g3 u1 h4]
  split<;>rfl
 ·rw [World.putObj_heap_other (fun e=>by rw [e,hmD]at hb;cases hb)]
  exact hH.mle b o hb
 ·obtain ⟨u1,h4,rfl⟩:=List.mem_map.1 hu'
  obtain ⟨q1,q2⟩:=hH.phs u1 h4
  refine ⟨fun b o hb=> ?_,fun b hb=>q2 b fun e=>hb (by rw [ztr,e];split<;>rfl)⟩
  rw [ztr]at hb
  split at hb
  ·cases hb
  ·rename_i hne
   rw [World.putObj_heap_other hne]
   exact q1 b o hb
theorem zrJ {C:Ctx} {fn:Func} {R:Ending→World→Prop}:∀(ds:List Deferred) (σ:SS) (a:Act) (w:World),Rel C σ a w→a.defers=ds→
  (∀w' ph',Rel C {σ with ph:=ph'} {a with defers:=[]} w'→LeavesIn Fence.wide 0 C.P fn a.tmps R [] .returning w')→LeavesInM Fence.wide 0 C.P fn a.tmps R ds .returning w
 |[],σ,a,w,hR,hd,h=>h w σ.ph (by obtain ⟨t,d⟩:=a;simp only at hd;subst hd;exact hR)
 |d::ds,σ,a,w,hR,hd,h=>by
  obtain ⟨D,ht,hrun,hR'⟩:=hR.shut hd
  exact ⟨by simp, .inl ⟨D,_,ht,hrun,zrJ ds {σ with ph:=σ.ph.map (ztr D)} {a with defers:=ds} _ hR' rfl fun w' ph' hR2=>h w' ph' hR2⟩⟩
theorem zxt (σ:SS) (ph:List PH):∀rv:List RV,zal {σ with ph:=ph} rv=zal σ rv
 |[]=>rfl
 |r::l=>by
  have h1:zC {σ with ph:=ph} r=zC σ r:=by cases r<;>rfl
  rw [zal,zal,h1,zxt σ ph l]
theorem zqy (ns:List (Nat×Nat)) {P:Program} {f:Nat} {fn:Func} {code:Code} {cd:Cd} {rv:List RV} {Qf:List GV→PH→Prop} {w:World} {m:PH} (avs:List AV)
  (hf:P.funcs[f]? =some fn) (hb:fn.body=some code) (hc:comp P fn.ntmps ns code=er cd) (hr:zjj P fn.results.toList=some rv) (hn:avs.length≤fn.ntmps)
  (hok:∀x:AV,x∈avs→x.ok (Ctx.u0 ⟨P,fn.ntmps,w,m⟩))
  {Q:QT} (hQ:∀e σ,Q e σ→znm ⟨P,fn.ntmps,w,m⟩ rv Qf e σ) (h:vc ⟨P,fn.ntmps,w,m⟩ cd Q ⟨zak 0 avs,zaK 0 avs,[],m⟩):Spec P f (avs.map AV.val) m w Qf:=by
 intro hm
 refine (callsIn_wide (n:=0)).1 (callsIn_of_wp_marks hf hb trivial (wpIn_wide.2 ?_) rfl)
 have hR:Rel ⟨P,fn.ntmps,w,m⟩ ⟨zak 0 avs,zaK 0 avs,[],m⟩ {tmps:=(avs.map AV.val).toArray++Array.replicate (fn.ntmps - (avs.map AV.val).toArray.size) undef,defers:=[]} w:=by
  have hslot:∀(k:Nat) (x:AV),avs[k]? =some x→x.ok (Ctx.u0 ⟨P,fn.ntmps,w,m⟩):=fun k x hx=>hok x (List.mem_of_getElem? hx)
  refine ⟨fun k=>(avs[k]?).bind fun x=>locOf x.val,⟨Marks.nil _,by simp;omega,fun t x hx=> ?_⟩,⟨Kept.refl _ _,fun k y hk=> ?_, ?_, ?_,hm,fun b hb=> .inr hb,fun u hu=>by cases hu⟩⟩
  ·rw [zwI]at hx
   simp only [Nat.not_lt_zero,if_false,Nat.sub_zero,Option.map_eq_some_iff]at hx
   obtain ⟨y,hy,rfl⟩:=hx
   have hlt:t<avs.length:=(List.getElem?_eq_some_iff.1 hy).1
   refine ⟨y.val,by rw [Array.getElem?_append_left (by simpa using hlt)];simp [hy], ?_⟩
   have ho:=hslot t y hy
   cases y with
   |g x=>exact ⟨ho,rfl⟩
   |ro v z df xs=>
    refine ⟨z,xs,by unfold zaF;rw [zij];simp [hy],by simp, ?_⟩
    simp only [hy,Option.bind_some,AV.val]
    rcases ho.2 with ⟨rfl,rfl⟩|⟨ad,c,rfl,h2,h3⟩
    ·exact ⟨none,rfl⟩
    ·refine ⟨ad,by simp,fun hc=> ?_⟩
     obtain ⟨cs,e,fz,g1,_⟩:=h3 hc
     obtain ⟨b,o,s⟩:=ad
     simp only at g1
     subst g1
     simp
  ·rw [zij]at hk
   simp only [Nat.not_lt_zero,if_false,Nat.sub_zero,Option.bind_eq_some_iff]at hk
   obtain ⟨x,hx,hxy⟩:=hk
   cases x with
   |g x=>cases hxy
   |ro v z df xs=>
    simp only [Option.some.injEq]at hxy
    subst hxy
    have ho:=hslot k _ hx
    refine ⟨ho.1, ?_⟩
    simp only [hx,Option.bind_some,AV.val]
    rcases ho.2 with ⟨rfl,rfl⟩|⟨ad,c,rfl,h2,h3⟩
    ·rfl
    ·refine ⟨h2,fun hc=> ?_⟩
     obtain ⟨cs,e,fz,g1,g2,g3⟩:=h3 hc
     exact ⟨_,cs,e,fz, .inl rfl,g2,g3⟩
  ·intro k k' y y' b o c o' c' h1 h2
   rw [zij]at h1
   simp only [Nat.not_lt_zero,if_false,Nat.sub_zero,Option.bind_eq_some_iff]at h1
   obtain ⟨x,hx,hxy⟩:=h1
   cases x with
   |g x=>cases hxy
   |ro v z df xs=>simp only [Option.some.injEq]at hxy;subst hxy;cases h2
  ·intro k y b o c h1 h2
   rw [zij]at h1
   simp only [Nat.not_lt_zero,if_false,Nat.sub_zero,Option.bind_eq_some_iff]at h1
   obtain ⟨x,hx,hxy⟩:=h1
   cases x with
   |g x=>cases hxy
   |ro v z df xs=>simp only [Option.some.injEq]at hxy;subst hxy;cases h2
 refine wp_mono (zzq ns cd code _ _ _ _ hc h hR) fun e a' w' hq=> ?_
 obtain ⟨σ',hq,hR'⟩:=hq
 replace hq:=hQ e σ' hq
 have fin:Fin ⟨P,fn.ntmps,w,m⟩ rv Qf σ'→LeavesInM Fence.wide 0 P fn a'.tmps (fun e w'=>∃rs m',e=Ending.returned (zxk rs)∧(∀r∈rs,r.ok)∧Qf rs m'∧m'.le w'∧(∀b,m' b≠none→m b≠none∨w.heap.size≤b)∧Kept m w w') a'.defers .returning w':=by
  intro hfin
  obtain ⟨τ,rs,m',hRτ,hrs,hqf,hsub⟩:=hfin.h a' w' hR'
  refine zrJ (C:=⟨P,fn.ntmps,w,m⟩) a'.defers τ a' w' hRτ rfl fun w2 ph2 hR2=> ?_
  obtain ⟨h1,h2⟩:=znP (fn:=fn) hR2 hr (by rw [zxt];exact hrs)
  obtain ⟨loc,hF,hH⟩:=hR2
  refine ⟨_,h2,rs,m',rfl,h1,hqf,fun k o hk=>hH.mle k o (hsub k o hk),fun b hb=> ?_,hH.kept⟩
  have:τ.m b≠none:=fun e=>by
   cases hmb:m' b with
   |none=>exact hb hmb
   |some o=>rw [hsub b o hmb]at e;cases e
  exact (hH.mmine b this).symm
 cases e with
 |ret=>exact fin hq
 |normal=>exact fin hq
 |exit id=>exact hq.elim
 |goto l=>exact hq.elim
 |panic c=>exact hq.elim
 |outgrown=>exact hq.elim
end Go.Proofs.YtmjiojflncffeaaGreat.Vc

set_option linter.unusedVariables false
set_option linter.unusedSimpArgs false
namespace Go.Proofs.YtmjiojflncffeaaGreat.Vc
open Go
section
variable {C:Ctx} {loc:Loc} {pv:List (Nat×PV)} {ph:List PH} {m m1 mr m':PH} {w w':World}
theorem HR.after (hH:HR C loc pv ph m w) (hm:m=uni m1 mr) (hd:dis m1 mr) (hle:m'.le w') (hdom:∀b,m' b≠none→m1 b≠none∨w.heap.size≤b) (hk:Kept m1 w w'):
  HR C loc pv ph (uni m' mr) w'∧HR C loc pv (m'::ph) mr w'∧HR C loc pv ph mr w'∧dis m' mr:=by
 have hm1:∀b,m b=none→m1 b=none:=fun b hb=>by
  rw [hm]at hb
  simp only [uni]at hb
  cases h1:m1 b with
  |none=>rfl
  |some o=>simp [h1]at hb
 have hmr:∀b,m b=none→mr b=none:=fun b hb=>by
  rw [hm]at hb
  simp only [uni]at hb
  cases h1:mr b with
  |none=>rfl
  |some o=>simp [h1]at hb
 have hsame:∀b,b<w.heap.size→m b=none→w'.heap[b]? =w.heap[b]? :=fun b hb hn=>hk.2.2.2.2 b hb (hm1 b hn)
 have hm'no:∀b,b<w.heap.size→m b=none→m' b=none:=fun b hb hn=>by
  cases h:m' b with
  |none=>rfl
  |some o=>
   rcases hdom b (by simp [h])with h1|h1
   ·exact absurd (hm1 b hn) h1
   ·omega
 have hmle:∀b o,mr b=some o→b<w.heap.size∧w'.heap[b]? =some o:=fun b o hb=>by
  have hn:m1 b=none:=(hd b).resolve_right (by simp [hb])
  have h1:w.heap[b]? =some o:=hH.mle b o (by rw [hm];simp [uni,hn,hb])
  have hlt:b<w.heap.size:=(Array.getElem?_eq_some_iff.1 h1).1
  exact ⟨hlt,by rw [hk.2.2.2.2 b hlt hn];exact h1⟩
 have hrmine:∀b,mr b≠none→C.mine b:=fun b hb=>hH.mmine b (fun e=>hb (hmr b e))
 have h'mine:∀b,m' b≠none→C.mine b:=fun b hb=>by
  rcases hdom b hb with h1|h1
  ·exact hH.mmine b (fun e=>h1 (hm1 b e))
  ·exact .inl (Nat.le_trans hH.kept.2.2.2.1 h1)
 have hphlt:∀u∈ph,∀b,u b≠none→b<w.heap.size∧m b=none:=fun u hu b hb=>by
  cases h:u b with
  |none=>exact absurd h hb
  |some o=>exact ⟨(Array.getElem?_eq_some_iff.1 ((hH.phs u hu).1 b o h)).1,(hH.phs u hu).2 b hb|>.2⟩
 have kept:Kept C.m0 C.w0 w':=by
  obtain ⟨h1,h2,h3,h4,h5⟩:=hH.kept
  obtain ⟨k1,k2,k3,k4,k5⟩:=hk
  refine ⟨k1.trans h1,k2.trans h2,k3.trans h3,Nat.le_trans h4 k4,fun b hb hn=> ?_⟩
  have hmb:m b=none:=by
   cases h:m b with
   |none=>rfl
   |some o=>
    rcases hH.mmine b (by simp [h])with h6|h6
    ·omega
    ·exact absurd hn h6
  rw [hsame b (by omega) hmb]
  exact h5 b hb hn
 have pvs:∀ph',(∀u,u∈ph→u∈ph')→∀k y,look pv k=some y→PVr C loc ph' w' k y:=fun ph' hph k y hy=>by
  have hp:=hH.pvs k y hy
  cases y with
  |box g=>
   obtain ⟨h0,b,c,e,hl,hb⟩:=hp
   exact ⟨h0,b,c,e,hl,by rw [hsame b (hH.own_lt hy rfl hl) (hH.priv k _ b 0 c hy rfl hl).2.1];exact hb⟩
  |row e z df xs=>
   refine ⟨hp.1, ?_⟩
   have hp2:=hp.2
   cases hl:loc k with
   |none=>rw [hl]at hp2;exact hp2
   |some l=>
    obtain ⟨b,o,c⟩:=l
    rw [hl]at hp2
    obtain ⟨cs,hb,hr⟩:=hp2
    exact ⟨cs,by rw [hsame b (hH.own_lt hy rfl hl) (hH.priv k _ b o c hy rfl hl).2.1];exact hb,hr⟩
  |ro z df xs=>
   refine ⟨hp.1, ?_⟩
   have hp2:=hp.2
   cases hl:loc k with
   |none=>rw [hl]at hp2;exact hp2
   |some l=>
    obtain ⟨b,o,c⟩:=l
    rw [hl]at hp2
    obtain ⟨h1,hp3⟩:=hp2
    refine ⟨h1,fun hc=> ?_⟩
    obtain ⟨u,cs,e,fz,hu,hr⟩:=hp3 hc
    exact ⟨u,cs,e,fz,hu.imp id (hph u),hr⟩
 have hphs:∀u∈ph,u.le w':=fun u hu b o hb=>by
  obtain ⟨h1,h2⟩:=hphlt u hu b (by simp [hb])
  rw [hsame b h1 h2]
  exact (hH.phs u hu).1 b o hb
 have huni:∀b,uni m' mr b≠none→m' b≠none∨mr b≠none:=fun b hb=>by
  cases h:m' b with
  |some o=>exact .inl (by simp)
  |none=>exact .inr (fun e=>hb (by simp [uni,h,e]))
 have disj:∀b,m' b≠none→mr b=none:=fun b hb=>by
  cases h:mr b with
  |none=>rfl
  |some o=>
   rcases hdom b hb with h1|h1
   ·exact absurd ((hd b).resolve_left h1) (by simp [h])
   ·have:=(hmle b o h).1;omega
 refine ⟨⟨kept,pvs ph fun _ h=>h,hH.apart,fun k y b o c h1 h2 h3=> ?_,fun b o hb=> ?_,fun b hb=> ?_,fun u hu=>⟨hphs u hu,fun b hb=> ?_⟩⟩,
  ⟨kept,pvs _ fun _ h=>List.mem_cons_of_mem _ h,hH.apart,fun k y b o c h1 h2 h3=> ?_,fun b o hb=>(hmle b o hb).2,hrmine,fun u hu=> ?_⟩,
  ⟨kept,pvs ph fun _ h=>h,hH.apart,fun k y b o c h1 h2 h3=> ?_,fun b o hb=>(hmle b o hb).2,hrmine,fun u hu=>⟨hphs u hu,fun b hb=> ?_⟩⟩,fun b=>(Classical.em (m' b=none)).imp id (disj b)⟩
 ·obtain ⟨e1,e2,e3⟩:=hH.priv k y b o c h1 h2 h3
  have hlt:=hH.own_lt h1 h2 h3
  exact ⟨e1,by simp [uni,hm'no b hlt e2,hmr b e2],e3⟩
 ·simp only [uni]at hb
  cases h:m' b with
  |some o'=>
   simp [h]at hb
   subst hb
   exact hle b _ h
  |none=>
   simp [h]at hb
   exact (hmle b o hb).2
 ·exact (huni b hb).elim (h'mine b) (hrmine b)
 ·obtain ⟨h1,h2⟩:=hphlt u hu b hb
  exact ⟨((hH.phs u hu).2 b hb).1,by simp [uni,hm'no b h1 h2,hmr b h2]⟩
 ·obtain ⟨e1,e2,e3⟩:=hH.priv k y b o c h1 h2 h3
  have hlt:=hH.own_lt h1 h2 h3
  refine ⟨e1,hmr b e2,fun u hu=> ?_⟩
  rcases List.mem_cons.1 hu with rfl|hu
  ·exact hm'no b hlt e2
  ·exact e3 u hu
 ·rcases List.mem_cons.1 hu with rfl|hu
  ·exact ⟨hle,fun b hb=>⟨h'mine b hb,disj b hb⟩⟩
  ·refine ⟨hphs u hu,fun b hb=> ?_⟩
   obtain ⟨h1,h2⟩:=hphlt u hu b hb
   exact ⟨((hH.phs u hu).2 b hb).1,hmr b h2⟩
 ·obtain ⟨e1,e2,e3⟩:=hH.priv k y b o c h1 h2 h3
  exact ⟨e1,hmr b e2,e3⟩
 ·obtain ⟨h1,h2⟩:=hphlt u hu b hb
  exact ⟨((hH.phs u hu).2 b hb).1,hmr b h2⟩
end
def ArgV (C:Ctx) (σ:SS) (w:World):SV→Value→Prop
 | .g x,v=>x.ok∧v=x.val
 | .row k o n,v=>∃z xs,zaF σ.pv k=some (z,xs)∧o+n≤xs.length∧SlR w.ph v z ((xs.drop o).take n)
 |_,_=>True
def zeo (C:Ctx) (σ:SS) (w:World):List SV→List Value→Prop
 |[],[]=>True
 |x::xs,v::vs=>ArgV C σ w x v∧zeo C σ w xs vs
 |_,_=>False
section
variable {C:Ctx} {σ:SS} {a:Act} {w:World} {loc:Loc}
theorem HR.slr (hH:HR C loc σ.pv σ.ph σ.m w) {k z s n:Nat} {xs:List GV} {v:Value} (hr:zaF σ.pv k=some (z,xs)) (hn:s+n≤xs.length) (hv:zlR (loc k) z s n v):SlR w.ph v z ((xs.drop s).take n):=by
 have hrow:=hH.row hr
 have hlen:((xs.drop s).take n).length=n:=by simp;omega
 refine ⟨hrow.1.part s n, ?_⟩
 have hblk:∀b f c,loc k=some (b,f,c)→xs.length≤c∧(0<c→∃cs e fz,w.heap[b]? =some (.cells cs e fz)∧RowAt cs f (zaa xs)):=by
  intro b f c hc
  unfold zaF at hr
  cases hl:look σ.pv k with
  |none=>simp [hl]at hr
  |some y=>
   have hp:=hH.pvs k y hl
   cases y with
   |box g=>simp [hl]at hr
   |row e z' df xs'=>
    simp [hl]at hr
    obtain ⟨rfl,rfl⟩:=hr
    have hp2:=hp.2
    rw [hc]at hp2
    obtain ⟨cs,hb,h1,h2,h3⟩:=hp2
    exact ⟨h1,fun _=>⟨cs,e,(0,0),hb,h3⟩⟩
   |ro z' df xs'=>
    simp [hl]at hr
    obtain ⟨rfl,rfl⟩:=hr
    have hp2:=hp.2
    rw [hc]at hp2
    obtain ⟨h1,hp3⟩:=hp2
    refine ⟨h1,fun hc0=> ?_⟩
    obtain ⟨u,cs,e,fz,hu,hb,h3⟩:=hp3 hc0
    have hle:u.le w:=by
     rcases hu with rfl|hu
     ·exact hH.u0le
     ·exact (hH.phs u hu).1
    exact ⟨cs,e,fz,hle b _ hb,h3⟩
 cases hc:loc k with
 |none=>
  rw [hc]at hv hrow
  have h2:=hrow.2
  simp only at h2
  subst h2
  obtain ⟨base,hv⟩:=hv
  have hn0:n=0:=by simp at hn;omega
  subst hn0
  cases base with
  |none=>exact .inl ⟨hv,by simp⟩
  |some ad=>exact .inr ⟨ad,0,by rw [hv];simp,by simp,fun h=>absurd h (by omega)⟩
 |some L=>
  obtain ⟨b,f,c⟩:=L
  rw [hc]at hv
  obtain ⟨ad,rfl,had⟩:=hv
  obtain ⟨h1,hb0⟩:=hblk b f c hc
  refine .inr ⟨ad,c - s,by rw [hlen],by rw [hlen];omega,fun hcs=> ?_⟩
  obtain ⟨cs,e,fz,hb,hat⟩:=hb0 (by omega)
  rw [had (by omega)]
  refine ⟨cs,e,fz,rfl,hb,fun j v hj=> ?_⟩
  rw [Nat.add_assoc]
  exact hat _ _ (zeV hrow.1 hn j v hj)
theorem zqB (hF:FR loc C.N σ.fr σ.pv σ.ph a) (hH:HR C loc σ.pv σ.ph σ.m w):∀{args:List Opd} {svs:List SV},evL σ args=some svs→zeo C σ w svs (args.map (evO a))
 |[],svs,h=>by simp [evL]at h;subst h;trivial
 |x::l,svs,h=>by
  simp only [evL]at h
  split at h
  ·rename_i y r hy hr
   simp at h;subst h
   refine ⟨?_,zqB hF hH hr⟩
   have hs:=hF.ev rfl hy
   cases y with
   |g x=>exact hs
   |row k s n=>
    obtain ⟨z,xs,h1,h2,h3⟩:=hs
    exact ⟨z,xs,h1,h2,hH.slr h1 h2 h3⟩
   |_=>trivial
  ·cases h
theorem zpg {rs:List GV} (h:∀r∈rs,r.ok) {pv:List (Nat×PV)}:SVr loc pv (zK rs) (zxk rs):=by
 unfold zK zxk
 split
 ·rename_i x
  exact ⟨h x (by simp),rfl⟩
 ·exact ⟨h,rfl⟩
theorem zkq {f:Nat} {args:List Opd} {d:Option Nat} {K:KT} {svs:List SV} {m1 mr:PH} {Q:List GV→PH→Prop} (hd:∀t,d=some t→t<C.N) (ha:evL σ args=some svs) (hm:σ.m=uni m1 mr) (hdis:dis m1 mr)
  (hs:∀w vs,zeo C σ w svs vs→C.u0.le w→(∀u∈σ.ph,u.le w)→σ.m.le w→Spec C.P f vs m1 w Q)
  (hK:∀rs m',(∀r∈rs,r.ok)→Q rs m'→dis m' mr→K ({σ with m:=uni m' mr}.put d (zK rs))∨K ({σ with ph:=m'::σ.ph,m:=mr}.put d (zK rs))∨K ({σ with m:=mr}.put d (zK rs))):vcCall C f args d K σ:=by
 constructor
 rintro a w ⟨loc,hF,hH⟩
 have hle1:m1.le w:=fun b o hb=>hH.mle b o (by rw [hm];simp [uni,hb])
 refine (hs w _ (zqB hF hH ha) hH.u0le (fun u hu=>(hH.phs u hu).1) hH.mle hle1).mono fun e w' he=> ?_
 obtain ⟨rs,m',rfl,hrs,hq,hle,hdom,hk⟩:=he
 refine ⟨_,rfl, ?_⟩
 obtain ⟨h1,h2,h3,hdd⟩:=hH.after hm hdis hle hdom hk
 rcases hK rs m' hrs hq hdd with hK|hK|hK
 ·obtain ⟨q1,q2,q3⟩:=({σ with m:=uni m' mr}:SS).put_pv d (zK rs)
  exact ⟨_,hK,loc,by rw [q1,q2];exact hF.put (σ:={σ with m:=uni m' mr}) hd rfl (zpg hrs),by rw [q1,q2,q3];exact h1⟩
 ·obtain ⟨q1,q2,q3⟩:=({σ with ph:=m'::σ.ph,m:=mr}:SS).put_pv d (zK rs)
  exact ⟨_,hK,loc,by rw [q1,q2];exact (hF.up fun u hu=>List.mem_cons_of_mem _ hu).put (σ:={σ with ph:=m'::σ.ph,m:=mr}) hd rfl (zpg hrs),by rw [q1,q2,q3];exact h2⟩
 ·obtain ⟨q1,q2,q3⟩:=({σ with m:=mr}:SS).put_pv d (zK rs)
  exact ⟨_,hK,loc,by rw [q1,q2];exact hF.put (σ:={σ with m:=mr}) hd rfl (zpg hrs),by rw [q1,q2,q3];exact h3⟩
theorem zvb {f:Nat} {args:List Opd} {d:Option Nat} {K:KT} {svs:List SV} {m1 mr:PH} {Q:List GV→PH→Prop} (hd:∀t,d=some t→t<C.N) (ha:evL σ args=some svs) (hm:σ.m=uni m1 mr) (hdis:dis m1 mr)
  (hs:∀w vs,zeo C σ w svs vs→C.u0.le w→(∀u∈σ.ph,u.le w)→Spec C.P f vs m1 w Q)
  (hK:∀rs m',(∀r∈rs,r.ok)→Q rs m'→dis m' mr→K ({σ with m:=uni m' mr}.put d (zK rs))∨K ({σ with ph:=m'::σ.ph,m:=mr}.put d (zK rs))∨K ({σ with m:=mr}.put d (zK rs))):vcCall C f args d K σ:=
 zkq hd ha hm hdis (fun w vs h1 h2 h3 _=>hs w vs h1 h2 h3) hK
theorem zvg {f:Nat} {args:List Opd} {d:Option Nat} {K:KT} {svs:List SV} {Q:List GV→PH→Prop} (hd:∀t,d=some t→t<C.N) (ha:evL σ args=some svs)
  (hs:∀w vs,zeo C σ w svs vs→C.u0.le w→(∀u∈σ.ph,u.le w)→Spec C.P f vs PH.no w Q)
  (hK:∀rs m',(∀r∈rs,r.ok)→Q rs m'→K (σ.put d (zK rs))):vcCall C f args d K σ:=
 zvb hd ha (zeX σ.m).symm (zgC _) hs fun rs m' h1 h2 _=> .inr (.inr (hK rs m' h1 h2))
theorem zdz {f:Nat} {args:List Opd} {d:Option Nat} {K:KT} {svs:List SV} {Q:List GV→PH→Prop} (m1 mr:PH) (hd:∀t,d=some t→t<C.N) (ha:evL σ args=some svs) (hm:σ.m=uni m1 mr) (hdis:dis m1 mr)
  (hs:∀w vs,zeo C σ w svs vs→C.u0.le w→(∀u∈σ.ph,u.le w)→Spec C.P f vs m1 w Q)
  (hK:∀rs m',(∀r∈rs,r.ok)→Q rs m'→dis m' mr→K ({σ with m:=uni m' mr}.put d (zK rs))):vcCall C f args d K σ:=
 zvb hd ha hm hdis hs fun rs m' h1 h2 h3=> .inl (hK rs m' h1 h2 h3)
end
end Go.Proofs.YtmjiojflncffeaaGreat.Vc

set_option linter.unusedVariables false
set_option linter.unusedSimpArgs false
namespace Go.Proofs.YtmjiojflncffeaaGreat.Vc
open Go
section
variable {C:Ctx} {Q:QT} {σ:SS}
theorem zu:vc C .skip Q σ=Q .normal σ:=rfl
theorem zx:vc C .ret Q σ=Q .ret σ:=rfl
theorem zau {id:Nat}:vc C (.exit id) Q σ=Q (.exit id) σ:=rfl
theorem zi {a b:Cd}:vc C (.seq a b) Q σ=vc C a (thenQ (vc C b Q) Q) σ:=rfl
theorem zB {id:Nat} {a:Cd}:vc C (.block id a) Q σ=vc C a (blockQ id Q) σ:=rfl
theorem zm {s:List Seg} {l:List Nat}:vc C (.rg s l) Q σ=zbN C s (zgE l Q) σ:=rfl
theorem zbh {h t:List Seg} {l:List Nat}:vc C (.rgq h t l) Q σ=zdd C h (zbN C t (zgE l Q)) σ:=rfl
theorem zeS {t:OT} {l:List Nat}:vc C (.rga t l) Q σ=zgT C (zgE l Q) t σ:=rfl
theorem zq {c:Opd} {a b:Cd}:vc C (.ite c a b) Q σ=match ev σ c with
  |some (.g (.s (.bool t)))=>brB t true (vc C a Q σ) (vc C b Q σ)
  |_=>False:=rfl
theorem zf {K:KT}:thenQ K Q .normal σ=K σ:=rfl
theorem zp {K:KT}:thenQ K Q .ret σ=Q .ret σ:=rfl
theorem zay {K:KT} {id:Nat}:thenQ K Q (.exit id) σ=Q (.exit id) σ:=rfl
theorem zT {id:Nat}:blockQ id Q .normal σ=Q .normal σ:=rfl
theorem zy {id:Nat}:blockQ id Q .ret σ=Q .ret σ:=rfl
theorem zat {id j:Nat}:blockQ id Q (.exit j) σ=if j=id then Q .normal σ else Q (.exit j) σ:=rfl
theorem zc {l:List Nat}:zgE l Q σ=Q .normal (σ.keep l):=rfl
theorem zah {ι:Type} {st:ι→SS} {inv:ι→Prop} {ms:ι→Nat} {i:ι}:loopQ st inv ms i Q .ret σ=Q .ret σ:=rfl
theorem zaQ {ι:Type} {st:ι→SS} {inv:ι→Prop} {ms:ι→Nat} {i:ι} {id:Nat}:loopQ st inv ms i Q (.exit id) σ=Q (.exit id) σ:=rfl
theorem zaB {ι:Type} {st:ι→SS} {inv:ι→Prop} {ms:ι→Nat} {i:ι}:loopQ st inv ms i Q .normal σ=∃j,inv j∧ms j<ms i∧Ge σ (st j):=rfl
theorem zL {x y:Prop}:brB true true x y=x:=by simp [brB]
theorem zbi {x y:Prop}:brB false false x y=x:=by simp [brB]
theorem zbW {x y:Prop}:brB true false x y=y:=by simp [brB]
theorem zN {x y:Prop}:brB false true x y=y:=by simp [brB]
theorem zax {b:Bool} {x y:Prop}:brB b true x y=((b=true→x)∧(b=false→y)):=rfl
theorem zdE {b:Bool} {x y:Prop}:brB b false x y=((b=false→x)∧(b=true→y)):=rfl
theorem zb {K:KT}:zbN C [] K σ=K σ:=rfl
theorem zh {K:KT} {ops:List (Option Nat×RO)} {r:List Seg}:zbN C (⟨none,ops⟩::r) K σ=zcw C ops (zbN C r K) σ:=rfl
theorem zH {K:KT} {t:Nat} {want:Bool} {ops:List (Option Nat×RO)} {r:List Seg}:zbN C (⟨some (t,want),ops⟩::r) K σ=match look σ.fr t with
  |some (.g (.s (.bool b)))=>
   brB b want (zcw C ops (zbN C r K) (σ.put (some t) (.g (.s (.bool want))))) (zbN C r K (zco ops (σ.put (some t) (.g (.s (.bool !want))))))
  |some .no=>zbN C r K (zco ops σ)
  |_=>False:=rfl
theorem ze {K:KT}:zcw C [] K σ=K σ:=rfl
theorem za {K:KT} {d:Option Nat} {o:RO} {r:List (Option Nat×RO)}:zcw C ((d,o)::r) K σ=zj C d (zcw C r K) σ o:=rfl
theorem zM {K:KT}:zdd C [] K σ=K σ:=rfl
theorem zaq {K:KT} {ops:List (Option Nat×RO)} {r:List Seg}:zdd C (⟨none,ops⟩::r) K σ=zdl C ops (zdd C r K) σ:=rfl
theorem zcA {K:KT} {t:Nat} {want:Bool} {ops:List (Option Nat×RO)} {r:List Seg}:zdd C (⟨some (t,want),ops⟩::r) K σ=match look σ.fr t with
  |some (.g (.s (.bool b)))=>
   brB b want (zdl C ops (zdd C r K) (σ.put (some t) (.g (.s (.bool want))))) (zdd C r K (zco ops (σ.put (some t) (.g (.s (.bool !want))))))
  |some .no=>zdd C r K (zco ops σ)
  |_=>False:=rfl
theorem zU {K:KT}:zdl C [] K σ=K σ:=rfl
theorem zw {K:KT} {d:Option Nat} {o:RO} {r:List (Option Nat×RO)}:zdl C ((d,o)::r) K σ=zX C d (zdl C r K) σ o:=rfl
theorem zdn {K:KT}:zgT C K .done σ=K σ:=rfl
theorem zbI {K:KT} {s:Seg} {t:OT}:zgT C K (.op s t) σ=zbN C [s] (zgT C K t) σ:=rfl
theorem zeG {K:KT} {s t:OT}:zgT C K (.or s t) σ=(zgT C K s σ∧zgT C K t σ):=rfl
theorem zsF {K:KT} {ts:List Nat} {t:OT}:zgT C K (.held ts t) σ=(zbg σ σ ts∧zcV C K ts σ t σ):=rfl
def zCh (ts:List Nat) (σ0:SS) (K:KT):KT:=fun σ'=>HeldM σ0.m σ0.ph σ'.m σ'.ph∧zbg σ0 σ' ts∧K σ'
def heldF (ts:List Nat) (σ0:SS) (K:KT):KT:=fun σ'=>zbg σ0 σ' ts∧K σ'
section
variable {K:KT} {ts:List Nat} {σ0:SS}
theorem zcJ:zCh ts σ0 K σ=(HeldM σ0.m σ0.ph σ.m σ.ph∧zbg σ0 σ ts∧K σ):=rfl
theorem zhV:heldF ts σ0 K σ=(zbg σ0 σ ts∧K σ):=rfl
theorem zpf:zcV C K ts σ0 .done σ=K σ:=rfl
theorem zhh {s:Seg} {t:OT}:zcV C K ts σ0 (.op s t) σ=zbN C [s] (zCh ts σ0 (zcV C K ts σ0 t)) σ:=rfl
theorem zuD {d:Option Nat} {x:Opd} {z:Nat} {ag:Bool} {t:OT}:zcV C K ts σ0 (.first ⟨none,[(d, .ld x z ag)]⟩ t) σ=ldH C σ0 ts x z ag d (heldF ts σ0 (zcV C K ts σ0 t)) σ:=rfl
theorem zhR {u:Nat} {want:Bool} {d:Option Nat} {x:Opd} {z:Nat} {ag:Bool} {t:OT}:zcV C K ts σ0 (.first ⟨some (u,want),[(d, .ld x z ag)]⟩ t) σ=(match look σ.fr u with
   |some (.g (.s (.bool b)))=>brB b want (ldH C σ0 ts x z ag d (heldF ts σ0 (zcV C K ts σ0 t)) (σ.put (some u) (.g (.s (.bool want))))) (heldF ts σ0 (zcV C K ts σ0 t) ((σ.put (some u) (.g (.s (.bool !want)))).put d .no))
   |some .no=>heldF ts σ0 (zcV C K ts σ0 t) (σ.put d .no)
   |_=>False):=rfl
end
def zar:List (Option Nat×RO)→List (Nat×SV)→List (Nat×SV)
 |[],fr=>fr
 |(d,o)::r,fr=>bif o.isGh then zar r fr else match d with
  |some t=>zar r ((t, .no)::fr)
  |none=>zar r fr
theorem zI:∀(r:List (Option Nat×RO)) (fr:List (Nat×SV)) (pv:List (Nat×PV)) (ph:List PH) (m:PH),zco r ⟨fr,pv,ph,m⟩=⟨zar r fr,pv,ph,m⟩
 |[],_,_,_,_=>rfl
 |(d,o)::r,fr,pv,ph,m=>by
  simp only [zco,zar]
  cases o.isGh
  ·cases d with
   |none=>exact zI r fr pv ph m
   |some t=>exact zI r _ pv ph m
  ·exact zI r fr pv ph m
theorem zd {fr:List (Nat×SV)} {pv:List (Nat×PV)} {ph:List PH} {m:PH} {t:Nat} {x:SV}:SS.put ⟨fr,pv,ph,m⟩ (some t) x=⟨(t,x)::fr,pv,ph,m⟩:=rfl
theorem zS {fr:List (Nat×SV)} {pv:List (Nat×PV)} {ph:List PH} {m:PH} {x:SV}:SS.put ⟨fr,pv,ph,m⟩ none x=⟨fr,pv,ph,m⟩:=rfl
theorem zg {fr:List (Nat×SV)} {pv:List (Nat×PV)} {ph:List PH} {m:PH} {l:List Nat}:SS.keep ⟨fr,pv,ph,m⟩ l=⟨zk fr l,pv,ph,m⟩:=rfl
theorem zaP {a:Cd} {ι:Type} (st:ι→SS) (inv:ι→Prop) (ms:ι→Nat) (i:ι) (h0:inv i) (h1:Ge σ (st i)) (h2:∀i,inv i→vc C a (loopQ st inv ms i Q) (st i)):vc C (.loop a) Q σ:=⟨ι,st,inv,ms,i,h0,h1,h2⟩
def zAi (rv:List RV) (Qf:List GV→Prop):QT
 | .ret,σ| .normal,σ=>match zal σ rv with
  |some rs=>Qf rs
  |none=>False
 |_,_=>False
theorem zD {rv:List RV} {Qf:List GV→Prop}:zAi rv Qf .ret σ=match zal σ rv with
  |some rs=>Qf rs
  |none=>False:=rfl
theorem zyQ {rv:List RV} {Qf:List GV→Prop} {Qg:List GV→PH→Prop} (h:∀rs,Qf rs→Qg rs PH.no) (e:Exit) (σ:SS) (hq:zAi rv Qf e σ):znm C rv Qg e σ:=by
 cases e<;>first|exact hq.elim|skip
 all_goals
  simp only [zAi]at hq
  split at hq
  ·rename_i rs hr;exact zcB hr (h rs hq)
  ·exact hq.elim
theorem zab {rv:List RV} {Qf:List GV→PH→Prop}:znm C rv Qf .ret σ=Fin C rv Qf σ:=rfl
theorem zni {rv:List RV} {Qf:List GV→PH→Prop}:znm C rv Qf .normal σ=Fin C rv Qf σ:=rfl
end
def zaf (fr:List (Nat×SV)):List (Nat×SV)→Prop
 |[]=>True
 |(t,x)::r=>look fr t=some x∧zaf fr r
def zam (pv:List (Nat×PV)):List (Nat×PV)→Prop
 |[]=>True
 |(t,x)::r=>look pv t=some x∧zam pv r
def SV.key:SV→Option Nat
 | .ref k _=>some k
 | .row k _ _=>some k
 | .rref k _ _=>some k
 |_=>none
def wfIn (pv:List (Nat×PV)):List (Nat×SV)→Bool
 |[]=>true
 |(_,x)::r=>(match x.key with|some k=>(look pv k).isSome|none=>true)&&wfIn pv r
theorem zsa {fr:List (Nat×SV)}:∀{l:List (Nat×SV)},zaf fr l→∀t x,look l t=some x→look fr t=some x
 |[],_,t,x,h=>by cases h
 |(k,y)::r,h,t,x,hx=>by
  simp only [look]at hx
  split at hx
  ·rename_i e;subst e;rw [←hx];exact h.1
  ·exact zsa h.2 t x hx
theorem zrq {pv:List (Nat×PV)}:∀{l:List (Nat×PV)},zam pv l→∀t x,look l t=some x→look pv t=some x
 |[],_,t,x,h=>by cases h
 |(k,y)::r,h,t,x,hx=>by
  simp only [look]at hx
  split at hx
  ·rename_i e;subst e;rw [←hx];exact h.1
  ·exact zrq h.2 t x hx
theorem SV.key_of {x:SV} {k:Nat} (h:x.mentions k=true):x.key=some k:=by
 cases x<;>simp [SV.mentions]at h<;>simp [SV.key,h]
theorem zrn {pv:List (Nat×PV)}:∀{l:List (Nat×SV)},wfIn pv l=true→∀t x,look l t=some x→∀k,x.mentions k=true→(look pv k).isSome=true
 |[],_,t,x,h,_,_=>by cases h
 |(j,y)::r,h,t,x,hx,k,hk=>by
  simp only [wfIn,Bool.and_eq_true]at h
  simp only [look]at hx
  split at hx
  ·simp at hx;subst hx
   have:=h.1
   rw [SV.key_of hk]at this
   exact this
  ·exact zrn h.2 t x hx k hk
theorem zR {σ τ:SS} (h1:zaf σ.fr τ.fr) (h2:zam σ.pv τ.pv) (h3:wfIn τ.pv τ.fr=true) (h4:τ.ph=σ.ph) (h5:τ.m=σ.m):Ge σ τ:=
 ⟨zsa h1,zrq h2,zrn h3,fun u hu=>h4▸hu,fun _ _ _ _ _ u hu=>h4▸hu,h5,fun u hu=>h4▸hu⟩
structure Ok (P:Program) (f:Nat) (cd:Cd) (N:Nat) (ns:List (Nat×Nat)) (rv:List RV):Prop where
 h:∃fn code,P.funcs[f]? =some fn∧fn.body=some code∧fn.ntmps=N∧comp P fn.ntmps ns code=er cd∧zjj P fn.results.toList=some rv
theorem Ok.mk' {P:Program} {f:Nat} {cd:Cd} {N:Nat} {ns:List (Nat×Nat)} {rv:List RV} {fn:Func} (hf:P.funcs[f]? =some fn) (hN:fn.ntmps=N) (hc:fn.body.map (comp P N ns)=some (er cd)) (hr:zjj P fn.results.toList=some rv):Ok P f cd N ns rv:=by
 cases hb:fn.body with
 |none=>rw [hb]at hc;cases hc
 |some code=>
  rw [hb]at hc
  simp at hc
  exact ⟨fn,code,hf,hb,hN,by rw [hN];exact hc,hr⟩
theorem zbb {P:Program} {f:Nat} {cd:Cd} {N:Nat} {ns:List (Nat×Nat)} {rv:List RV} (hk:Ok P f cd N ns rv) {Qf:List GV→PH→Prop} {w:World} {m:PH} (avs:List AV) (hn:avs.length≤N)
  (hok:∀x:AV,x∈avs→x.ok (Ctx.u0 ⟨P,N,w,m⟩))
  (h:vc ⟨P,N,w,m⟩ cd (znm ⟨P,N,w,m⟩ rv Qf) ⟨zak 0 avs,zaK 0 avs,[],m⟩):Spec P f (avs.map AV.val) m w Qf:=by
 obtain ⟨fn,code,hf,hb,hN,hc,hr⟩:=hk.h
 subst hN
 exact zqy ns avs hf hb hc hr hn hok (fun _ _ h=>h) h
theorem zbE {P:Program} {f:Nat} {cd:Cd} {N:Nat} {ns:List (Nat×Nat)} {rv:List RV} (hk:Ok P f cd N ns rv) {Qf:List GV→Prop} {w:World} {m:PH} (avs:List AV) (hn:avs.length≤N)
  (hok:∀x:AV,x∈avs→x.ok (Ctx.u0 ⟨P,N,w,m⟩))
  (h:vc ⟨P,N,w,m⟩ cd (zAi rv Qf) ⟨zak 0 avs,zaK 0 avs,[],m⟩):Spec P f (avs.map AV.val) m w fun rs _=>Qf rs:=by
 obtain ⟨fn,code,hf,hb,hN,hc,hr⟩:=hk.h
 subst hN
 exact zqy ns avs hf hb hc hr hn hok (fun e σ hq=>zyQ (fun _ h=>h) e σ hq) h
theorem zbr {P:Program} {N:Nat} {w:World}:Ctx.u0 ⟨P,N,w,PH.no⟩=w.ph:=rfl
def FnV (P:Program) (f:Nat) (args rs:List GV):Prop:=∀w,Spec P f (args.map GV.val) PH.no w fun rs' _=>rs'=rs
theorem zpq {C:Ctx} {σ:SS} {w:World}:∀{svs:List SV} {gs:List GV} {vs:List Value},gvL svs=some gs→zeo C σ w svs vs→vs=gs.map GV.val
 |[],gs,vs,h,ha=>by
  simp [gvL]at h;subst h
  cases vs with
  |nil=>rfl
  |cons v vs=>exact ha.elim
 |x::l,gs,vs,h,ha=>by
  cases vs with
  |nil=>exact ha.elim
  |cons v vs=>
   unfold gvL at h
   split at h
   ·rename_i e;cases e
   ·rename_i y l' e
    simp only [List.cons.injEq]at e
    obtain ⟨rfl,rfl⟩:=e
    simp only [Option.map_eq_some_iff]at h
    obtain ⟨gs',h,rfl⟩:=h
    simp [zpq h ha.2,ha.1.2]
   ·cases h
def dOk (d:Option Nat) (N:Nat):Bool:=match d with
 |some t=>decide (t<N)
 |none=>true
theorem zcz {d:Option Nat} {N:Nat} (h:dOk d N=true):∀t,d=some t→t<N:=by
 intro t ht
 subst ht
 simpa [dOk]using h
section
variable {C:Ctx} {σ:SS} {f:Nat} {args:List Opd} {d:Option Nat} {K:KT}
theorem zac {svs:List SV} {gs rs:List GV} (hf:FnV C.P f gs rs) (hd:dOk d C.N=true) (ha:evL σ args=some svs) (hg:gvL svs=some gs) (hK:(∀r∈rs,r.ok)→K (σ.put d (zK rs))):vcCall C f args d K σ:=
 zvg (Q:=fun rs' _=>rs'=rs) (zcz hd) ha (fun w vs hv _ _=>by rw [zpq hg hv];exact hf w) fun rs' m' h1 h2=>by subst h2;exact hK h1
theorem zuq {y:GV} {svs:List SV} (hy:y.ok) (ha:evL σ args=some svs) (hs:∀w vs,zeo C σ w svs vs→C.u0.le w→(∀u∈σ.ph,u.le w)→Spec C.P f vs PH.no w fun rs' _=>rs'=[y]) (hK:K (σ.put d (.g y))):zpe C f args d K σ:=by
 refine ⟨y,hy,fun loc a w hF hH=> ?_,hK⟩
 refine (hs w _ (zqB hF hH ha) hH.u0le (fun u hu=>(hH.phs u hu).1) (fun _ _ h=>by cases h)).mono fun e w' he=> ?_
 obtain ⟨rs,m',rfl,hrs,rfl,hle,hdom,hk⟩:=he
 exact ⟨rfl,(hH.after (zeX σ.m).symm (zgC _) hle hdom hk).2.2.1⟩
theorem zr {w:World} {vs:List Value} (h:zeo C σ w [] vs):vs=[]:=by
 cases vs with
 |nil=>rfl
 |cons _ _=>exact h.elim
theorem zt {w:World} {x:GV} {svs:List SV} {vs:List Value} (h:zeo C σ w (.g x::svs) vs):∃vs',vs=x.val::vs'∧x.ok∧zeo C σ w svs vs':=by
 cases vs with
 |nil=>exact h.elim
 |cons v vs=>exact ⟨vs,by rw [h.1.2],h.1.1,h.2⟩
theorem zhI {w:World} {k n z:Nat} {xs:List GV} {svs:List SV} {vs:List Value} (hr:zaF σ.pv k=some (z,xs)) (hn:n=xs.length) (h:zeo C σ w (.row k 0 n::svs) vs):∃v vs',vs=v::vs'∧SlR w.ph v z xs∧zeo C σ w svs vs':=by
 cases vs with
 |nil=>exact h.elim
 |cons v vs=>
  obtain ⟨⟨z',xs',e1,e2,e3⟩,h⟩:=h
  rw [hr]at e1
  obtain ⟨rfl,rfl⟩:z=z'∧xs=xs':=by simpa using e1
  rw [List.drop_zero,List.take_of_length_le (by omega)]at e3
  exact ⟨v,vs,rfl,e3,h⟩
theorem zdc (svs:List SV) (rs:List GV) (hd:dOk d C.N=true) (ha:evL σ args=some svs) (hs:∀w vs,zeo C σ w svs vs→C.u0.le w→(∀u∈σ.ph,u.le w)→Spec C.P f vs PH.no w fun rs' _=>rs'=rs) (hK:K (σ.put d (zK rs))):vcCall C f args d K σ:=
 zvg (Q:=fun rs' _=>rs'=rs) (zcz hd) ha hs fun rs' m' h1 h2=>by subst h2;exact hK
theorem zhw {svs:List SV} {gs:List GV} {y:GV} (hf:FnV C.P f gs [y]) (hy:y.ok) (ha:evL σ args=some svs) (hg:gvL svs=some gs) (hK:K (σ.put d (.g y))):zpe C f args d K σ:=
 zuq hy ha (fun w vs hv _ _=>by rw [zpq hg hv];exact hf w) hK
end
theorem zbx {P:Program} {f:Nat} {cd:Cd} {N:Nat} {ns:List (Nat×Nat)} {rv:List RV} (hk:Ok P f cd N ns rv) {args rs:List GV} (hn:args.length≤N) (hok:∀x∈args,x.ok)
  (h:∀w,vc ⟨P,N,w,PH.no⟩ cd (zAi rv fun rs'=>rs'=rs) ⟨zak 0 (args.map AV.g),[],[],PH.no⟩):FnV P f args rs:=by
 intro w
 have hp:∀(i:Nat) (l:List GV),zaK i (l.map AV.g)=[]:=fun i l=>by
  induction l generalizing i with
  |nil=>rfl
  |cons x l ih=>simpa [zaK]using ih (i+1)
 have:=zbE hk (Qf:=fun rs'=>rs'=rs) (w:=w) (m:=PH.no) (args.map AV.g) (by simpa using hn) (fun x hx=>by
  simp only [List.mem_map]at hx
  obtain ⟨g,hg,rfl⟩:=hx
  exact hok g hg) (by rw [hp];exact h w)
 simpa [AV.val,Function.comp_def]using this
section
variable {C:Ctx} {σ:SS} {a:Act} {w:World}
theorem Rel.ro (h:Rel C σ a w) {t:Nat} (k:Nat) {v:Value} {z:Nat} (df:GV) {xs:List GV} {u:PH} (ht:look σ.fr t=some (.g (.s v))) (hk:look σ.pv k=none) (hs:SlR u v z xs) (hu:u=C.u0∨u∈σ.ph):
  Rel C ⟨(t, .row k 0 xs.length)::σ.fr,(k, .ro z df xs)::σ.pv,σ.ph,σ.m⟩ a w:=by
 obtain ⟨loc,hF,hH⟩:=h
 obtain ⟨v',hv,hvs⟩:=hF.slots t _ ht
 have hvv:v'=v:=hvs.2
 subst hvv
 obtain ⟨hels,hs⟩:=hs
 have key:∀(L:Option (Nat×Nat×Nat)),zlR L z 0 xs.length v'→(match L with
   |none=>xs=[]
   |some (b,o,c)=>xs.length≤c∧(0<c→∃u cs e fz,(u=C.u0∨u∈σ.ph)∧u b=some (.cells cs e fz)∧RowAt cs o (zaa xs)))→
   Rel C ⟨(t, .row k 0 xs.length)::σ.fr,(k, .ro z df xs)::σ.pv,σ.ph,σ.m⟩ a w:=by
  intro L h1 h2
  refine ⟨fun j=>if j=k then L else loc j,⟨hF.defers,hF.size,fun s x hx=> ?_⟩,⟨hH.kept,fun j y hj=> ?_,fun j j' y y' b o c o' c' g1 g2 g3 g4 g5 g6=> ?_,fun j y b o c g1 g2 g3=> ?_,hH.mle,hH.mmine,hH.phs⟩⟩
  ·simp only [look]at hx
   split at hx
   ·rename_i e;subst e
    simp at hx;subst hx
    exact ⟨v',hv,z,xs,by simp [zaF,look],by simp,by simpa using h1⟩
   ·obtain ⟨v2,hv2,hr2⟩:=hF.slots s x hx
    refine ⟨v2,hv2,hr2.weaken fun j hj=> ?_⟩
    have hjk:j≠k:=fun e=>hr2.there j hj (e▸hk)
    exact ⟨by simp [hjk],by simp [look,hjk]⟩
  ·simp only [look]at hj
   split at hj
   ·rename_i e;subst e
    simp at hj;subst hj
    refine ⟨hels, ?_⟩
    simp only [if_true]
    cases L with
    |none=>exact h2
    |some l=>exact h2
   ·rename_i hjk
    have hp:=hH.pvs j y hj
    cases y with
    |box g=>simpa [PVr,hjk]using hp
    |row e' z' df' xs'=>simpa [PVr,hjk]using hp
    |ro z' df' xs'=>simpa [PVr,hjk]using hp
  ·simp only [look]at g1 g4
   by_cases hj:j=k
   ·simp only [hj,if_true,Option.some.injEq]at g1;subst g1;cases g2
   ·by_cases hj':j'=k
    ·simp only [hj',if_true,Option.some.injEq]at g4;subst g4;cases g5
    ·simp only [hj,if_false]at g1 g3
     simp only [hj',if_false]at g4 g6
     exact hH.apart j j' y y' b o c o' c' g1 g2 g3 g4 g5 g6
  ·simp only [look]at g1
   by_cases hj:j=k
   ·simp only [hj,if_true,Option.some.injEq]at g1;subst g1;cases g2
   ·simp only [hj,if_false]at g1 g3
    exact hH.priv j y b o c g1 g2 g3
 rcases hs with ⟨rfl,rfl⟩|⟨ad,c,rfl,h1,h2⟩
 ·exact key none ⟨none,rfl⟩ rfl
 ·rcases Nat.eq_zero_or_pos c with hc0|hc0
  ·subst hc0
   have:xs=[]:=List.length_eq_zero_iff.mp (by omega)
   subst this
   exact key none ⟨some ad,rfl⟩ rfl
  ·obtain ⟨cs,e,fz,g1,g2,g3⟩:=h2 hc0
   obtain ⟨b,o,sp⟩:=ad
   simp only at g1 g2 g3
   subst g1
   exact key (some (b,o,c)) ⟨⟨b,o,none⟩,by simp,fun _=>by simp⟩ ⟨h1,fun _=>⟨u,cs,e,fz,hu,g2,g3⟩⟩
theorem Rel.frz (h:Rel C σ a w) {u m':PH} (hm:σ.m=uni u m') (hd:dis u m'):Rel C {σ with ph:=u::σ.ph,m:=m'} a w:=by
 obtain ⟨loc,hF,hH⟩:=h
 have hmle:∀j,σ.m j=none→u j=none∧m' j=none:=fun j hj=>by
  rw [hm]at hj
  cases h1:u j with
  |some o=>simp [uni,h1]at hj
  |none=>exact ⟨rfl,by simpa [uni,h1]using hj⟩
 have hule:∀j o,u j=some o→σ.m j=some o:=fun j o hj=>by rw [hm];exact zV _ _ j o hj
 have hm'le:∀j o,m' j=some o→σ.m j=some o:=fun j o hj=>by rw [hm];exact zao hd j o hj
 refine ⟨loc,hF.up fun u hu=>List.mem_cons_of_mem _ hu,⟨hH.kept,fun k y hk=> ?_,hH.apart,fun k y b o c h1 h2 h3=> ?_,fun j o hj=>hH.mle j o (hm'le j o hj),fun j hj=>hH.mmine j (fun e=>hj (hmle j e).2),fun u' hu=> ?_⟩⟩
 ·have hp:=hH.pvs k y hk
  cases y with
  |box g=>exact hp
  |row e z df xs=>exact hp
  |ro z df xs=>
   refine ⟨hp.1, ?_⟩
   have hp2:=hp.2
   cases hl:loc k with
   |none=>rw [hl]at hp2;exact hp2
   |some l=>
    obtain ⟨b,o,c⟩:=l
    rw [hl]at hp2
    obtain ⟨h1,hp3⟩:=hp2
    refine ⟨h1,fun hc=> ?_⟩
    obtain ⟨u',cs,e,fz,hu,h2⟩:=hp3 hc
    exact ⟨u',cs,e,fz,hu.imp id (List.mem_cons_of_mem _),h2⟩
 ·obtain ⟨e1,e2,e3⟩:=hH.priv k y b o c h1 h2 h3
  refine ⟨e1,(hmle b e2).2,fun u' hu=> ?_⟩
  rcases List.mem_cons.1 hu with rfl|hu
  ·exact (hmle b e2).1
  ·exact e3 u' hu
 ·rcases List.mem_cons.1 hu with rfl|hu
  ·refine ⟨fun j o hj=>hH.mle j o (hule j o hj),fun j hj=>⟨hH.mmine j (fun e=>hj (hmle j e).1),(hd j).resolve_left hj⟩⟩
  ·exact ⟨(hH.phs u' hu).1,fun j hj=>⟨((hH.phs u' hu).2 j hj).1,(hmle j ((hH.phs u' hu).2 j hj).2).2⟩⟩
theorem Rel.fr (h:Rel C σ a w) {fr:List (Nat×SV)} (hf:∀t x,look fr t=some x→look σ.fr t=some x):Rel C {σ with fr:=fr} a w:=by
 obtain ⟨loc,hF,hH⟩:=h
 exact ⟨loc,⟨hF.defers,hF.size,fun t x hx=>hF.slots t x (hf t x hx)⟩,hH⟩
end
section
variable {C:Ctx} {σ:SS} {K:KT}
theorem ztb (t k:Nat) (e:TypeId) (z:Nat) (df:GV) (ht:look σ.fr t=some (.g (.s (.slice none 0 0)))) (hk:look σ.pv k=none) (hK:K ⟨(t, .row k 0 0)::σ.fr,(k, .row e z df [])::σ.pv,σ.ph,σ.m⟩):ghC C K σ:=by
 constructor
 intro a w hR
 refine ⟨_, ?_,hK⟩
 exact hR.own (e:=e) (z:=z) (u:=PH.no) (m':=σ.m) (xs:=[]) k df ht hk ⟨(fun x hx=>absurd hx (by simp)), .inl ⟨rfl,rfl⟩⟩ (zeX _).symm (zgC _)
theorem zfB (t k n:Nat) {e:TypeId} {z:Nat} {df:GV} {xs:List GV} (ht:look σ.fr t=some (.row k 0 n)) (hk:look σ.pv k=some (.row e z df xs)) (hn:n=xs.length)
  (hK:∀v u,v.oneCell'=true→SlO u v e z xs→dis u σ.m→K ⟨(t, .g (.s v))::zbA k σ.fr,dropK k σ.pv,σ.ph,uni u σ.m⟩):ghC C K σ:=by
 constructor
 intro a w hR
 obtain ⟨v,u,h1,h2,h3,h4⟩:=hR.pub ht hk hn
 exact ⟨_,h4,hK v u h1 h2 h3⟩
theorem zCS (t k:Nat) {v:Value} {e:TypeId} {z:Nat} (df:GV) {xs:List GV} {u m':PH} (ht:look σ.fr t=some (.g (.s v))) (hk:look σ.pv k=none) (hs:SlO u v e z xs) (hm:σ.m=uni u m') (hd:dis u m')
  (hK:K ⟨(t, .row k 0 xs.length)::σ.fr,(k, .row e z df xs)::σ.pv,σ.ph,m'⟩):ghC C K σ:=
 ⟨fun a w hR=>⟨_,hR.own k df ht hk hs hm hd,hK⟩⟩
theorem zCd (t k:Nat) {v:Value} {z:Nat} (df:GV) {xs:List GV} {u:PH} (ht:look σ.fr t=some (.g (.s v))) (hk:look σ.pv k=none) (hs:SlR u v z xs) (hu:u=C.u0∨u∈σ.ph)
  (hK:K ⟨(t, .row k 0 xs.length)::σ.fr,(k, .ro z df xs)::σ.pv,σ.ph,σ.m⟩):ghC C K σ:=
 ⟨fun a w hR=>⟨_,hR.ro k df ht hk hs hu,hK⟩⟩
theorem zhp {u m':PH} (hm:σ.m=uni u m') (hd:dis u m') (hK:K {σ with ph:=u::σ.ph,m:=m'}):ghC C K σ:=
 ⟨fun a w hR=>⟨_,hR.frz hm hd,hK⟩⟩
end
def znN:Code→List Code
 | .seq a b=>znN a++znN b
 | .cond _ a b=>znN a++znN b
 | .block _ a=>znN a
 | .loop a=>znN a
 | .scope a=>znN a
 | .rangeFunc g ps a b=>[.rangeFunc g ps a b]
 |_=>[]
def zwL:Code→Array Tmp
 | .rangeFunc _ ps _ _=>ps
 |_=> #[]
def zvG:Code→Code
 | .rangeFunc _ _ a _=>a
 |_=> .skip
def zxi:Code→Code
 | .rangeFunc _ _ _ b=>b
 |_=> .skip
end Go.Proofs.YtmjiojflncffeaaGreat.Vc

set_option maxRecDepth 100000
namespace Go.Proofs.YtmjiojflncffeaaGreat.Vc
open Go Go.Proofs Go.Lib
theorem zBb (n:Int) (w:World):Calls Tryz.prog 118 #[.int .i64 n] w fun e w'=>e= .returned (.bool false)∧w'=w:=by
 go_enter Tryz.func118,Tryz.ntmps118
 go_wp2
 go_ret
 exact ⟨by simp,rfl⟩
theorem zBD (n:Int) (w:World):Calls Tryz.prog 119 #[.int .i64 n] w fun e w'=>e= .returned (.bool false)∧w'=w:=by
 go_enter Tryz.func119,Tryz.ntmps119
 go_wp2
 go_ret
 exact ⟨by simp,rfl⟩
set_option maxHeartbeats 1000000 in
theorem zse (x y:Int) (w:World):Calls Tryz.prog 78 #[.int .i64 x, .int .i64 y] w fun e w'=>e= .returned (.int .i64 (Lib.compareInt x y))∧w'=w:=by
 go_enter Tryz.func78,Tryz.ntmps78
 go_wp2_with (go_at_call 118;refine (zBb _ _).mono ?_;rintro e w' ⟨rfl,hw⟩;rw [hw])
 all_goals (go_ret;refine ⟨?_,rfl⟩;unfold Lib.compareInt;(repeat' split)<;>first|rfl|(exfalso;omega))
set_option maxHeartbeats 1000000 in
theorem zsh (x y:Int) (w:World):Calls Tryz.prog 79 #[.int .i64 x, .int .i64 y] w fun e w'=>e= .returned (.int .i64 (Lib.compareInt x y))∧w'=w:=by
 go_enter Tryz.func79,Tryz.ntmps79
 go_wp2_with (go_at_call 119;refine (zBD _ _).mono ?_;rintro e w' ⟨rfl,hw⟩;rw [hw])
 all_goals (go_ret;refine ⟨?_,rfl⟩;unfold Lib.compareInt;(repeat' split)<;>first|rfl|(exfalso;omega))
def orV (a b:Int):Int:=if a=0 then b else a
set_option maxHeartbeats 1000000 in
theorem or2 (a b:Int) (blk cap:Nat) (w:World) (h0:w.cell? ⟨blk,0,none⟩=some (.int .i64 a)) (h1:w.cell? ⟨blk,1,none⟩=some (.int .i64 b)):Calls Tryz.prog 77 #[.slice (some ⟨blk,0,none⟩) 2 cap] w fun e w'=>e= .returned (.int .i64 (orV a b))∧w'=w:=by
 go_enter Tryz.func77,Tryz.ntmps77
 go_wp2
 refine wp_loop_rounds 3 ?_
 rw [rounds_succ]
 go_wp2
 ·go_ret
  refine ⟨?_,rfl⟩
  simp_all [orV]
 ·rw [rounds_succ]
  go_wp2
  ·go_ret
   refine ⟨?_,rfl⟩
   simp_all [orV]
  ·rw [rounds_succ]
   go_wp2
   go_ret
   refine ⟨?_,rfl⟩
   simp_all [orV]
open Go.Sort Go.Shelf
def HidE (p:Prop):Prop:=p
theorem zxo (W:World) (o:Obj):(W.alloc o).heap[W.heap.size]? =some o:=Array.getElem?_push_size
theorem zyf (W:World) (a b:Value):(W.alloc (.cells #[a,b] 3)).cell? ⟨W.heap.size,0,none⟩=some a:=by
 rw [World.cell?,zxo];rfl
theorem zyn (W:World) (a b:Value):(W.alloc (.cells #[a,b] 3)).cell? ⟨W.heap.size,1,none⟩=some b:=by
 rw [World.cell?,zxo];rfl
theorem zuo {α:Type} (h:Array α) (a b:α):(h.push a).push b=h++ #[a,b]:=by
 rw [Array.push_eq_append,Array.push_eq_append,Array.append_assoc];rfl
theorem zBo {α:Type} (h:Array α) (a b:α):(h++ #[a,b])[h.size]? =some a:=by
 rw [Array.getElem?_append_right (Nat.le_refl _)];simp
theorem zBw {α:Type} (h:Array α) (a b:α):(h++ #[a,b])[h.size+1]? =some b:=by
 rw [Array.getElem?_append_right (by omega)];simp
def zgq (x y:Int×Int):Int:=orV (Lib.compareInt x.1 y.1) (Lib.compareInt x.2 y.2)
set_option maxHeartbeats 1000000 in
theorem zmH (x y:Int×Int) (W:World):Calls Tryz.prog 40 #[.agg #[.int .i64 x.1, .int .i64 x.2], .agg #[.int .i64 y.1, .int .i64 y.2]] W fun e w'=>e= .returned (.int .i64 (zgq x y))∧∃q os',w'=grow (W.drewN q) os':=by
 go_enter Tryz.func40,Tryz.ntmps40
 go_wp2_with (first|(go_at_call 78;refine (zse _ _ _).mono ?_;rintro e w' ⟨rfl,rfl⟩)|(go_at_call 79;refine (zsh _ _ _).mono ?_;rintro e w' ⟨rfl,rfl⟩))
 refine wp_region_still_tail 10 (show Tryz.prog.follows .mixedOrders=true by kernel_rfl) (by kernel_rfl) ?_
 simp only [List.take_succ_cons,List.take_zero,List.drop_succ_cons,List.drop_zero]
 generalize hW1:World.mk _ _ _ _ _=W1
 have e1:W1=grow (W.drewN 1) #[.cells #[Value.int .i64 x.1,Value.int IntKind.i64 x.2] 24, .cells #[Value.int .i64 y.1,Value.int IntKind.i64 y.2] 24]:=by
  rw [←hW1]
  show World.mk ((W.heap.push _).push _) _ _ _ _=World.mk (W.heap++ #[_,_]) _ _ _ _
  rw [zuo]
  rfl
 have b0:W1.heap[W.heap.size]? =some (.cells #[Value.int .i64 x.1,Value.int IntKind.i64 x.2] 24):=by rw [e1];exact zBo _ _ _
 have b1:W1.heap[W.heap.size+1]? =some (.cells #[Value.int .i64 y.1,Value.int IntKind.i64 y.2] 24):=by rw [e1];exact zBw _ _ _
 clear hW1
 replace e1:HidE _:=e1
 have c0:W1.cell? ⟨W.heap.size,0,none⟩=some (.int .i64 x.1):=by simp [World.cell?,b0]
 have c1:W1.cell? ⟨W.heap.size,1,none⟩=some (.int .i64 x.2):=by simp [World.cell?,b0]
 have c2:W1.cell? ⟨W.heap.size+1,0,none⟩=some (.int .i64 y.1):=by simp [World.cell?,b1]
 have c3:W1.cell? ⟨W.heap.size+1,1,none⟩=some (.int .i64 y.2):=by simp [World.cell?,b1]
 clear b0 b1
 repeat still_step
 still_call (zse x.1 y.1 W1)
 repeat still_step
 still_call (zsh x.2 y.2 W1)
 repeat still_step
 refine wpStill_nil ?_
 go_wp2_with (go_at_call 77;refine (or2 (Lib.compareInt x.1 y.1) (Lib.compareInt x.2 y.2) W1.heap.size _ _ (zyf _ _ _) (zyn _ _ _)).mono ?_;rintro e w' ⟨rfl,rfl⟩)
 go_ret
 refine ⟨rfl, ?_⟩
 have e2:W1=_:=e1
 rw [alloc_eq_grow,e2,grow_grow]
 exact ⟨1,_,rfl⟩
end Go.Proofs.YtmjiojflncffeaaGreat.Vc

set_option maxRecDepth 100000
namespace Go.Proofs.YtmjiojflncffeaaGreat.Vc
open Go Go.Proofs Go.Lib Go.Sort Go.Shelf
theorem ztO (W:World) (o1 o2:Obj) (q:Nat) (os':Array Obj):grow (((W.alloc o1).alloc o2).drewN q) os'=grow (W.drewN q) (#[o1,o2]++os'):=by
 show World.mk (((W.heap.push o1).push o2)++os') _ _ _ _=World.mk (W.heap++(#[o1,o2]++os')) _ _ _ _
 rw [zuo,Array.append_assoc]
 rfl
set_option maxHeartbeats 1000000 in
theorem zzE (t s k n p t' s' k' n' p':Int) (a b c a' b' c':ByteArray) (W:World):Calls Tryz.prog 39 #[.agg #[.int .i64 t, .int .i64 s, .int .i64 k, .int .i64 n, .int .i64 p, .string a, .string b, .string c], .agg #[.int .i64 t', .int .i64 s', .int .i64 k', .int .i64 n', .int .i64 p', .string a', .string b', .string c']] W fun e w'=>e= .returned (.int .i64 (zgq (t,s) (t',s')))∧∃q os',w'=grow (W.drewN q) os':=by
 go_enter Tryz.func39,Tryz.ntmps39
 go_wp2_with (go_at_call 40;refine (zmH (t,s) (t',s') _).mono ?_;rintro e w' ⟨rfl,q,os',hw⟩)
 go_ret
 refine ⟨rfl, ?_⟩
 rw [ztO]
 exact ⟨q,_,rfl⟩
set_option maxHeartbeats 2000000 in
theorem zAl (t s k n p t' s' k' n' p':Int) (a b c a' b' c':ByteArray) (tk tk':Bool) (of of':Value) (ix ix':Int) (ut us uk un up ut' us' uk' un' up':Int) (ua ub uc ua' ub' uc':ByteArray) (wp wp':Int) (wn wn' at' at2:ByteArray) (W:World):
  Calls Tryz.prog 46 #[.agg #[.int .i64 t, .int .i64 s, .int .i64 k, .int .i64 n, .int .i64 p, .string a, .string b, .string c, .bool tk,of, .int .i64 ix, .int .i64 ut, .int .i64 us, .int .i64 uk, .int .i64 un, .int .i64 up, .string ua, .string ub, .string uc, .int .i64 wp, .string wn, .string at'],
   .agg #[.int .i64 t', .int .i64 s', .int .i64 k', .int .i64 n', .int .i64 p', .string a', .string b', .string c', .bool tk',of', .int .i64 ix', .int .i64 ut', .int .i64 us', .int .i64 uk', .int .i64 un', .int .i64 up', .string ua', .string ub', .string uc', .int .i64 wp', .string wn', .string at2]] W
   fun e w'=>e= .returned (.int .i64 (zgq (t,s) (t',s')))∧∃q os',w'=grow (W.drewN q) os':=by
 go_enter Tryz.func46,Tryz.ntmps46
 go_wp2_with (go_at_call 40;refine (zmH (t,s) (t',s') _).mono ?_;rintro e w' ⟨rfl,q,os',hw⟩)
 go_ret
 refine ⟨rfl, ?_⟩
 rw [ztO]
 exact ⟨q,_,rfl⟩
end Go.Proofs.YtmjiojflncffeaaGreat.Vc

namespace Go.Proofs
open Go.Shelf
def Tryz.sortO_ren:Go.Shelf.Ren:=⟨fun|6=>38|15=>76|14=>75|28=>116|29=>117|20=>108|21=>109|22=>110|23=>111|24=>112|25=>113|26=>114|27=>115|46=>138|47=>139|48=>140|49=>141|50=>142|57=>159|n=>n,fun|22=>22|24=>26|25=>93|3=>3|39=>142|0=>0|53=>178|55=>180|4=>4|46=>172|45=>171|50=>94|5=>5|9=>9|66=>191|70=>195|76=>207|77=>208|n=>n,fun|n=>n⟩
theorem Tryz.sortO:Go.Proofs.SlLaysF0.n6 Tryz.prog Tryz.sortO_ren:={
 mixed:=by kernel_rfl
 f6:=⟨Tryz.f38.name,by decide,Tryz.func38.trans (congrArg some (by kernel_rfl))⟩
 f14:=⟨Tryz.f75.name,by decide,Tryz.func75.trans (congrArg some (by kernel_rfl))⟩
 f15:=Tryz.func76.trans (congrArg some (by kernel_rfl))
 f20:=⟨Tryz.f108.name,by decide,Tryz.func108.trans (congrArg some (by kernel_rfl))⟩
 f21:=⟨Tryz.f109.name,by decide,Tryz.func109.trans (congrArg some (by kernel_rfl))⟩
 f22:=⟨Tryz.f110.name,by decide,Tryz.func110.trans (congrArg some (by kernel_rfl))⟩
 f23:=⟨Tryz.f111.name,by decide,Tryz.func111.trans (congrArg some (by kernel_rfl))⟩
 f24:=⟨Tryz.f112.name,by decide,Tryz.func112.trans (congrArg some (by kernel_rfl))⟩
 f25:=⟨Tryz.f113.name,by decide,Tryz.func113.trans (congrArg some (by kernel_rfl))⟩
 f26:=⟨Tryz.f114.name,by decide,Tryz.func114.trans (congrArg some (by kernel_rfl))⟩
 f27:=⟨Tryz.f115.name,by decide,Tryz.func115.trans (congrArg some (by kernel_rfl))⟩
 f28:=Tryz.func116.trans (congrArg some (by kernel_rfl))
 f29:=Tryz.func117.trans (congrArg some (by kernel_rfl))
 f46:=⟨Tryz.f138.name,by decide,Tryz.func138.trans (congrArg some (by kernel_rfl))⟩
 f47:=Tryz.func139.trans (congrArg some (by kernel_rfl))
 f48:=Tryz.func140.trans (congrArg some (by kernel_rfl))
 f49:=⟨Tryz.f141.name,by decide,Tryz.func141.trans (congrArg some (by kernel_rfl))⟩
 f50:=⟨Tryz.f142.name,by decide,Tryz.func142.trans (congrArg some (by kernel_rfl))⟩
 f57:=⟨Tryz.f159.name,by decide,Tryz.func159.trans (congrArg some (by kernel_rfl))⟩
 t0:=Tryz.underlying0
 a0:=Tryz.isAgg0
 z0:=Tryz.sizeOf0
 v0:=Tryz.zeroValue0
 t3:=Tryz.underlying3
 a3:=Tryz.isAgg3
 z3:=Tryz.sizeOf3
 v3:=Tryz.zeroValue3
 t4:=Tryz.underlying4
 a4:=Tryz.isAgg4
 z4:=Tryz.sizeOf4
 v4:=Tryz.zeroValue4
 t5:=Tryz.underlying5
 a5:=Tryz.isAgg5
 z5:=Tryz.sizeOf5
 v5:=Tryz.zeroValue5
 t9:=Tryz.underlying9
 a9:=Tryz.isAgg9
 z9:=Tryz.sizeOf9
 v9:=Tryz.zeroValue9
 t22:=Tryz.underlying22
 a22:=Tryz.isAgg22
 z22:=Tryz.sizeOf22
 v22:=Tryz.zeroValue22
 t25:=Tryz.underlying93
 a25:=Tryz.isAgg93
 z25:=Tryz.sizeOf93
 v25:=Tryz.zeroValue93
 t39:=Tryz.underlying142
 a39:=Tryz.isAgg142
 z39:=Tryz.sizeOf142
 v39:=Tryz.zeroValue142
 t45:=Tryz.underlying171
 a45:=Tryz.isAgg171
 z45:=Tryz.sizeOf171
 v45:=Tryz.zeroValue171
 t46:=Tryz.underlying172
 a46:=Tryz.isAgg172
 z46:=Tryz.sizeOf172
 v46:=Tryz.zeroValue172
 t50:=Tryz.underlying94
 a50:=Tryz.isAgg94
 z50:=Tryz.sizeOf94
 v50:=Tryz.zeroValue94
 t53:=Tryz.underlying178
 a53:=Tryz.isAgg178
 z53:=Tryz.sizeOf178
 v53:=Tryz.zeroValue178
 t55:=Tryz.underlying180
 a55:=Tryz.isAgg180
 z55:=Tryz.sizeOf180
 v55:=Tryz.zeroValue180
 t66:=Tryz.underlying191
 a66:=Tryz.isAgg191
 z66:=Tryz.sizeOf191
 v66:=Tryz.zeroValue191
 t70:=Tryz.underlying195
 a70:=Tryz.isAgg195
 z70:=Tryz.sizeOf195
 v70:=Tryz.zeroValue195
 t76:=Tryz.underlying207
 a76:=Tryz.isAgg207
 z76:=Tryz.sizeOf207
 v76:=Tryz.zeroValue207
 t77:=Tryz.underlying208
 a77:=Tryz.isAgg208
 z77:=Tryz.sizeOf208
 v77:=Tryz.zeroValue208}
def Tryz.sortD_ren:Go.Shelf.Ren:=⟨fun|6=>45|15=>76|14=>80|28=>116|29=>117|20=>120|21=>121|22=>122|23=>123|24=>124|25=>125|26=>126|27=>127|46=>143|47=>139|48=>140|49=>144|50=>145|57=>160|n=>n,fun|22=>79|24=>97|25=>103|3=>3|39=>142|0=>0|53=>178|55=>180|4=>4|46=>172|45=>171|50=>94|5=>5|9=>9|66=>191|70=>195|76=>207|77=>208|n=>n,fun|n=>n⟩
theorem Tryz.sortD:Go.Proofs.SlLaysF0.n6 Tryz.prog Tryz.sortD_ren:={
 mixed:=by kernel_rfl
 f6:=⟨Tryz.f45.name,by decide,Tryz.func45.trans (congrArg some (by kernel_rfl))⟩
 f14:=⟨Tryz.f80.name,by decide,Tryz.func80.trans (congrArg some (by kernel_rfl))⟩
 f15:=Tryz.func76.trans (congrArg some (by kernel_rfl))
 f20:=⟨Tryz.f120.name,by decide,Tryz.func120.trans (congrArg some (by kernel_rfl))⟩
 f21:=⟨Tryz.f121.name,by decide,Tryz.func121.trans (congrArg some (by kernel_rfl))⟩
 f22:=⟨Tryz.f122.name,by decide,Tryz.func122.trans (congrArg some (by kernel_rfl))⟩
 f23:=⟨Tryz.f123.name,by decide,Tryz.func123.trans (congrArg some (by kernel_rfl))⟩
 f24:=⟨Tryz.f124.name,by decide,Tryz.func124.trans (congrArg some (by kernel_rfl))⟩
 f25:=⟨Tryz.f125.name,by decide,Tryz.func125.trans (congrArg some (by kernel_rfl))⟩
 f26:=⟨Tryz.f126.name,by decide,Tryz.func126.trans (congrArg some (by kernel_rfl))⟩
 f27:=⟨Tryz.f127.name,by decide,Tryz.func127.trans (congrArg some (by kernel_rfl))⟩
 f28:=Tryz.func116.trans (congrArg some (by kernel_rfl))
 f29:=Tryz.func117.trans (congrArg some (by kernel_rfl))
 f46:=⟨Tryz.f143.name,by decide,Tryz.func143.trans (congrArg some (by kernel_rfl))⟩
 f47:=Tryz.func139.trans (congrArg some (by kernel_rfl))
 f48:=Tryz.func140.trans (congrArg some (by kernel_rfl))
 f49:=⟨Tryz.f144.name,by decide,Tryz.func144.trans (congrArg some (by kernel_rfl))⟩
 f50:=⟨Tryz.f145.name,by decide,Tryz.func145.trans (congrArg some (by kernel_rfl))⟩
 f57:=⟨Tryz.f160.name,by decide,Tryz.func160.trans (congrArg some (by kernel_rfl))⟩
 t0:=Tryz.underlying0
 a0:=Tryz.isAgg0
 z0:=Tryz.sizeOf0
 v0:=Tryz.zeroValue0
 t3:=Tryz.underlying3
 a3:=Tryz.isAgg3
 z3:=Tryz.sizeOf3
 v3:=Tryz.zeroValue3
 t4:=Tryz.underlying4
 a4:=Tryz.isAgg4
 z4:=Tryz.sizeOf4
 v4:=Tryz.zeroValue4
 t5:=Tryz.underlying5
 a5:=Tryz.isAgg5
 z5:=Tryz.sizeOf5
 v5:=Tryz.zeroValue5
 t9:=Tryz.underlying9
 a9:=Tryz.isAgg9
 z9:=Tryz.sizeOf9
 v9:=Tryz.zeroValue9
 t22:=Tryz.underlying79
 a22:=Tryz.isAgg79
 z22:=Tryz.sizeOf79
 v22:=Tryz.zeroValue79
 t25:=Tryz.underlying103
 a25:=Tryz.isAgg103
 z25:=Tryz.sizeOf103
 v25:=Tryz.zeroValue103
 t39:=Tryz.underlying142
 a39:=Tryz.isAgg142
 z39:=Tryz.sizeOf142
 v39:=Tryz.zeroValue142
 t45:=Tryz.underlying171
 a45:=Tryz.isAgg171
 z45:=Tryz.sizeOf171
 v45:=Tryz.zeroValue171
 t46:=Tryz.underlying172
 a46:=Tryz.isAgg172
 z46:=Tryz.sizeOf172
 v46:=Tryz.zeroValue172
 t50:=Tryz.underlying94
 a50:=Tryz.isAgg94
 z50:=Tryz.sizeOf94
 v50:=Tryz.zeroValue94
 t53:=Tryz.underlying178
 a53:=Tryz.isAgg178
 z53:=Tryz.sizeOf178
 v53:=Tryz.zeroValue178
 t55:=Tryz.underlying180
 a55:=Tryz.isAgg180
 z55:=Tryz.sizeOf180
 v55:=Tryz.zeroValue180
 t66:=Tryz.underlying191
 a66:=Tryz.isAgg191
 z66:=Tryz.sizeOf191
 v66:=Tryz.zeroValue191
 t70:=Tryz.underlying195
 a70:=Tryz.isAgg195
 z70:=Tryz.sizeOf195
 v70:=Tryz.zeroValue195
 t76:=Tryz.underlying207
 a76:=Tryz.isAgg207
 z76:=Tryz.sizeOf207
 v76:=Tryz.zeroValue207
 t77:=Tryz.underlying208
 a77:=Tryz.isAgg208
 z77:=Tryz.sizeOf208
 v77:=Tryz.zeroValue208}
end Go.Proofs

set_option linter.unusedVariables false
set_option linter.unusedSimpArgs false
namespace Go.Proofs.YtmjiojflncffeaaGreat.Vc
open Go
section
variable {C:Ctx} {loc:Loc} {pv:List (Nat×PV)} {ph:List PH} {m:PH} {w:World}
theorem HR.release (hH:HR C loc pv ph m w) {k b o c:Nat} {y:PV} {ob:Obj} (hk:look pv k=some y) (ho:y.own=true) (hl:loc k=some (b,o,c)) (hb:w.heap[b]? =some ob):
  HR C loc (dropK k pv) ph (uni (one b ob) m) w∧dis (one b ob) m:=by
 obtain ⟨q1,q2,q3⟩:=hH.priv k _ b o c hk ho hl
 have hdis:dis (one b ob) m:=fun j=>by
  by_cases hj:j=b
  ·subst hj;exact .inr q2
  ·exact .inl (by simp [one,hj])
 have hun:∀j o',uni (one b ob) m j=some o'→(j=b∧o'=ob)∨(j≠b∧m j=some o'):=fun j o' hj=>by
  by_cases hjb:j=b
  ·subst hjb;simp [uni,one]at hj;exact .inl ⟨rfl,hj.symm⟩
  ·simp [uni,one,hjb]at hj;exact .inr ⟨hjb,hj⟩
 have hnb:∀j,j≠b→uni (one b ob) m j=m j:=fun j hj=>by simp [uni,one,hj]
 refine ⟨⟨hH.kept,fun j y hj=> ?_,fun j j' y y' b o c o' c' h1 h2 h3 h4=> ?_,fun j y b' o' c' h1 h2 h3=> ?_,fun j o' hj=> ?_,fun j hj=> ?_,fun u hu=>⟨(hH.phs u hu).1,fun j hj=> ?_⟩⟩,hdis⟩
 ·rw [zbP]at hj;split at hj
  ·cases hj
  ·exact hH.pvs j y hj
 ·rw [zbP]at h1 h4
  split at h1
  ·cases h1
  ·split at h4
   ·cases h4
   ·exact hH.apart j j' y y' b o c o' c' h1 h2 h3 h4
 ·rw [zbP]at h1
  split at h1
  ·cases h1
  ·rename_i hjk
   obtain ⟨e1,e2,e3⟩:=hH.priv j y b' o' c' h1 h2 h3
   have hbb:b'≠b:=fun e=>hjk (hH.apart j k y _ b' o' c' o c h1 h2 h3 hk ho (e▸hl))
   exact ⟨e1,by rw [hnb _ hbb];exact e2,e3⟩
 ·rcases hun j o' hj with ⟨rfl,rfl⟩|⟨_,h5⟩
  ·exact hb
  ·exact hH.mle j o' h5
 ·by_cases hjb:j=b
  ·subst hjb;exact q1
  ·rw [hnb j hjb]at hj
   exact hH.mmine j hj
 ·have hjb:j≠b:=fun e=>by subst e;exact hj (q3 u hu)
  obtain ⟨e1,e2⟩:=(hH.phs u hu).2 j hj
  exact ⟨e1,by rw [hnb _ hjb];exact e2⟩
theorem zkF {k:Nat}:∀(l:List (Nat×SV)) {t:Nat},look l t=none→look (zbA k l) t=none
 |[],_,_=>rfl
 |(j,y)::l,t,hl=>by
  simp only [look]at hl
  split at hl
  ·cases hl
  ·rename_i e
   simp only [zbA]
   cases y.mentions k<;>simp only [cond_true,cond_false,look,if_neg e]<;>exact zkF l hl
theorem FR.dropK {N:Nat} {fr:List (Nat×SV)} {a:Act} (hF:FR loc N fr pv ph a) (k t:Nat) {v:Value} (hv:a.tmps[t]? =some v) (ho:v.oneCell'=true):FR loc N ((t, .g (.s v))::zbA k fr) (dropK k pv) ph a:=by
 refine ⟨hF.defers,hF.size,fun u x hx=> ?_⟩
 simp only [look]at hx
 split at hx
 ·rename_i e;subst e
  simp at hx;subst hx
  exact ⟨v,hv,ho,rfl⟩
 ·rcases zkc _ _ _ hx with rfl|⟨h1,h2⟩
  ·cases hc:look fr u with
   |none=>rw [zkF _ hc]at hx;cases hx
   |some y=>
    obtain ⟨v2,hv2,_⟩:=hF.slots u y hc
    exact ⟨v2,hv2,trivial⟩
  ·obtain ⟨v2,hv2,hr2⟩:=hF.slots u x h1
   exact ⟨v2,hv2,hr2.weaken fun j hj=>⟨rfl,by rw [zbP,if_neg (fun e=>by subst e;rw [hj]at h2;cases h2)]⟩⟩
end
theorem zaz (m:PH):uni m PH.no=m:=by funext k;simp only [uni,PH.no];cases m k<;>rfl
theorem zbU {a b:PH} (h:dis a b):uni a b=uni b a:=by
 funext k
 simp only [uni]
 rcases h k with e|e
 ·rw [e];cases b k<;>rfl
 ·rw [e];cases a k<;>rfl
theorem zG {a b:PH} (h:dis a b):dis b a:=fun k=>(h k).symm
theorem zdW (a:PH):dis a PH.no:=fun k=> .inr rfl
theorem zbs (a b c:PH):uni (uni a b) c=uni a (uni b c):=by
 funext k
 simp only [uni]
 cases a k<;>rfl
theorem zad {a b c:PH} (h1:dis a b) (h2:dis a c):dis a (uni b c):=fun k=>by
 rcases h1 k with e|e
 ·exact .inl e
 ·rcases h2 k with e2|e2
  ·exact .inl e2
  ·exact .inr (by simp [uni,e,e2])
theorem zeW {a b c:PH} (h1:dis a c) (h2:dis b c):dis (uni a b) c:=zG (zad (zG h1) (zG h2))
theorem zA {a b c:PH} (h:dis a (uni b c)):dis a b∧dis a c:=by
 refine ⟨fun k=> ?_,fun k=> ?_⟩
 ·rcases h k with e|e
  ·exact .inl e
  ·simp only [uni]at e
   cases hb:b k with
   |none=>exact .inr rfl
   |some o=>rw [hb]at e;cases e
 ·rcases h k with e|e
  ·exact .inl e
  ·simp only [uni]at e
   cases hb:b k with
   |none=>rw [hb]at e;exact .inr (by simpa using e)
   |some o=>rw [hb]at e;cases e
theorem zvY {C:Ctx} {σ:SS} {w:World} {k n o z:Nat} {xs:List GV} {svs:List SV} {vs:List Value} (hr:zaF σ.pv k=some (z,xs)) (h:zeo C σ w (.row k o n::svs) vs):∃v vs',vs=v::vs'∧SlR w.ph v z ((xs.drop o).take n)∧zeo C σ w svs vs':=by
 cases vs with
 |nil=>exact h.elim
 |cons v vs=>
  obtain ⟨⟨z',xs',e1,e2,e3⟩,h⟩:=h
  rw [hr]at e1
  obtain ⟨rfl,rfl⟩:z=z'∧xs=xs':=by simpa using e1
  exact ⟨v,vs,rfl,e3,h⟩
theorem zaJ {C:Ctx} {σ:SS} {f:Nat} {args:List Opd} {d:Option Nat} {K:KT} {svs:List SV} {Q:List GV→PH→Prop} (hd:dOk d C.N=true) (ha:evL σ args=some svs)
  (hs:∀w vs,zeo C σ w svs vs→C.u0.le w→(∀u∈σ.ph,u.le w)→σ.m.le w→Spec C.P f vs PH.no w Q)
  (hK:∀rs m',(∀r∈rs,r.ok)→Q rs m'→dis m' σ.m→K ({σ with m:=uni m' σ.m}.put d (zK rs))):vcCall C f args d K σ:=
 zkq (zcz hd) ha (zeX σ.m).symm (zgC _) hs fun rs m' h1 h2 h3=> .inl (hK rs m' h1 h2 h3)
theorem zbV {C:Ctx} {σ:SS} {f:Nat} {args:List Opd} {d:Option Nat} {K:KT} {svs:List SV} {Q:List GV→PH→Prop} (hd:dOk d C.N=true) (ha:evL σ args=some svs)
  (hs:∀w vs,zeo C σ w svs vs→C.u0.le w→(∀u∈σ.ph,u.le w)→σ.m.le w→Spec C.P f vs PH.no w Q)
  (hK:∀rs m',(∀r∈rs,r.ok)→Q rs m'→K ({σ with ph:=m'::σ.ph}.put d (zK rs))):vcCall C f args d K σ:=
 zkq (zcz hd) ha (zeX σ.m).symm (zgC _) hs fun rs m' h1 h2 h3=> .inr (.inl (hK rs m' h1 h2))
theorem zaM {C:Ctx} {σ:SS} {f:Nat} {args:List Opd} {d:Option Nat} {K:KT} (svs:List SV) (rs:List GV) (hd:dOk d C.N=true) (ha:evL σ args=some svs)
  (hs:∀w vs,zeo C σ w svs vs→C.u0.le w→(∀u∈σ.ph,u.le w)→σ.m.le w→Spec C.P f vs PH.no w fun rs' _=>rs'=rs) (hK:K (σ.put d (zK rs))):vcCall C f args d K σ:=
 zkq (zcz hd) ha (zeX σ.m).symm (zgC _) hs fun rs' m' _ h2 _=>by subst h2;exact .inr (.inr hK)
theorem zpd {P:Program} {t e:TypeId} (ht:P.underlying t=some (.pointer e)) (ad:Addr):EqG P t (.s (.pointer (some ad))) (.s (.pointer none)) false:=by
 intro x y w
 exact ⟨by simp [eqGuard,binOp,Sem.run_bind,GV.val,zil ht],by simp [eqGuard,binOp,Sem.run_bind,GV.val,zil ht]⟩
theorem zvh {P:Program} {t e:TypeId} (ht:P.underlying t=some (.pointer e)):EqG P t (.s (.pointer none)) (.s (.pointer none)) true:=by
 have h0:∀d w,(Op.equalIn (d+1) t (.pointer none) (.pointer none)).run P w= .ok true w:=fun d w=>by
  simp [Op.equalIn,Sem.run_bind,zo ht]
 have h:∀w,(Op.equal t (.pointer none) (.pointer none)).run P w= .ok true w:=fun w=>h0 9999 w
 intro x y w
 exact ⟨by simp [eqGuard,binOp,Sem.run_bind,GV.val,h],by simp [eqGuard,binOp,Sem.run_bind,GV.val,h]⟩
def PtO (u:PH) (v:Value) (g:GV):Prop:=g.ok∧∃b e,v= .pointer (some ⟨b,0,none⟩)∧u=one b (.cells g.flat.toArray e (0,0))
section
variable {C:Ctx} {σ:SS} {a:Act} {w:World} {K:KT}
theorem Rel.pubBox (h:Rel C σ a w) {t k:Nat} {g:GV} (ht:look σ.fr t=some (.ref k [])) (hk:look σ.pv k=some (.box g)):
  ∃v u,v.oneCell'=true∧PtO u v g∧dis u σ.m∧Rel C ⟨(t, .g (.s v))::zbA k σ.fr,dropK k σ.pv,σ.ph,uni u σ.m⟩ a w:=by
 obtain ⟨loc,hF,hH⟩:=h
 obtain ⟨v,hv,g',b,c,y,e1,e2,e3,e4⟩:=hF.slots t _ ht
 rw [hk]at e1
 obtain rfl:g=g':=by simpa using e1
 obtain ⟨hok,b',c',e,hl,hb⟩:=hH.pvs k _ hk
 rw [e2]at hl
 obtain ⟨rfl,rfl⟩:b=b'∧c=c':=by simpa using hl
 have hoff:g.offs []=0:=by cases g<;>rfl
 rw [hoff]at e4
 obtain ⟨h1,h2⟩:=hH.release hk rfl e2 hb
 subst e4
 exact ⟨_,_,rfl,⟨hok,b,e,rfl,rfl⟩,h2,loc,hF.dropK k t hv rfl,h1⟩
theorem zcu (t k:Nat) {g:GV} (ht:look σ.fr t=some (.ref k [])) (hk:look σ.pv k=some (.box g))
  (hK:∀v u,v.oneCell'=true→PtO u v g→dis u σ.m→K ⟨(t, .g (.s v))::zbA k σ.fr,dropK k σ.pv,σ.ph,uni u σ.m⟩):ghC C K σ:=by
 constructor
 intro a w hR
 obtain ⟨v,u,h1,h2,h3,h4⟩:=hR.pubBox ht hk
 exact ⟨_,h4,hK v u h1 h2 h3⟩
theorem zwe {z:Nat} {xs:List GV} (h:Els z xs) (n:Nat) {j:Nat} {v:Value} (hj:(zaa (xs.take n))[j]? =some v):(zaa xs)[j]? =some v:=by
 have e:zaa xs=zaa (xs.take n)++zaa (xs.drop n):=by rw [←zdF,List.take_append_drop]
 rw [e]
 have hl:j<(zaa (xs.take n)).length:=by
  rcases Nat.lt_or_ge j (zaa (xs.take n)).length with h|h
  ·exact h
  ·rw [List.getElem?_eq_none h]at hj;cases hj
 rw [List.getElem?_append_left hl]
 exact hj
def KN (u0:PH) (L:List PH) (U:PH):Prop:=∀b o,U b=some o→u0 b=some o∨∃u∈L,u b=some o
theorem KN.u0 (u0:PH) (L:List PH):KN u0 L u0:=fun b o h=> .inl h
theorem KN.mem {u0:PH} {L:List PH} {u:PH} (h:u∈L):KN u0 L u:=fun b o hb=> .inr ⟨u,h,hb⟩
theorem KN.cons {u0:PH} {L:List PH} {U u:PH} (h:KN u0 L U):KN u0 (u::L) U:=fun b o hb=>(h b o hb).imp id fun ⟨v,hv,e⟩=>⟨v,List.mem_cons_of_mem _ hv,e⟩
theorem KN.uni {u0:PH} {L:List PH} {U V:PH} (h:KN u0 L U) (h':KN u0 L V):KN u0 L (uni U V):=fun b o hb=>by
 simp only [Vc.uni]at hb
 cases hU:U b with
 |some x=>
  rw [hU]at hb
  simp at hb
  subst hb
  exact h b _ hU
 |none=>
  rw [hU]at hb
  simp at hb
  exact h' b o hb
theorem KN.le {u0:PH} {L:List PH} {U:PH} {w:World} (h:KN u0 L U) (h1:u0.le w) (h2:∀u∈L,u.le w):U.le w:=fun b o hb=>by
 rcases h b o hb with h|⟨u,hu,h⟩
 ·exact h1 b o h
 ·exact h2 u hu b o h
theorem Rel.rk (h:Rel C σ a w) {t:Nat} (k:Nat) {v:Value} {z:Nat} (df:GV) {xs:List GV} {u:PH} (ht:look σ.fr t=some (.g (.s v))) (hk:look σ.pv k=none) (hs:SlR u v z xs) (hu:KN C.u0 σ.ph u):
  Rel C ⟨(t, .row k 0 xs.length)::σ.fr,(k, .ro z df xs)::σ.pv,σ.ph,σ.m⟩ a w:=by
 obtain ⟨hels,hs'⟩:=hs
 rcases hs' with ⟨rfl,rfl⟩|⟨ad,c,rfl,h1,h2⟩
 ·exact h.ro k df ht hk ⟨hels, .inl ⟨rfl,rfl⟩⟩ (.inl rfl)
 ·rcases Nat.eq_zero_or_pos c with hc|hc
  ·exact h.ro k df ht hk ⟨hels, .inr ⟨ad,c,rfl,h1,fun hc'=>absurd hc' (by omega)⟩⟩ (.inl rfl)
  ·obtain ⟨cs,e,fz,g1,g2,g3⟩:=h2 hc
   rcases hu _ _ g2 with h3|⟨u',hu',h3⟩
   ·exact h.ro k df ht hk ⟨hels, .inr ⟨ad,c,rfl,h1,fun _=>⟨cs,e,fz,g1,h3,g3⟩⟩⟩ (.inl rfl)
   ·exact h.ro k df ht hk ⟨hels, .inr ⟨ad,c,rfl,h1,fun _=>⟨cs,e,fz,g1,h3,g3⟩⟩⟩ (.inr hu')
theorem zog (t k:Nat) {v:Value} {z:Nat} (df:GV) {xs:List GV} {u:PH} (ht:look σ.fr t=some (.g (.s v))) (hk:look σ.pv k=none) (hs:SlR u v z xs) (hu:KN C.u0 σ.ph u)
  (hK:K ⟨(t, .row k 0 xs.length)::σ.fr,(k, .ro z df xs)::σ.pv,σ.ph,σ.m⟩):ghC C K σ:=
 ⟨fun a w hR=>⟨_,hR.rk k df ht hk hs hu,hK⟩⟩
theorem zch {u:PH} {v:Value} {z:Nat} {xs:List GV} (h:SlR u v z xs):∃a c,v= .slice a xs.length c:=by
 rcases h.2 with ⟨rfl,rfl⟩|⟨a,c,rfl,_⟩
 ·exact ⟨none,0,rfl⟩
 ·exact ⟨_,_,rfl⟩
end
end Go.Proofs.YtmjiojflncffeaaGreat.Vc

set_option linter.unusedVariables false
set_option linter.unusedSimpArgs false
set_option maxRecDepth 100000
namespace Go.Proofs.YtmjiojflncffeaaGreat.Vc
open Go Go.Proofs Go.Sort Go.Shelf Go.Lib
section
variable {α:Type} [Inhabited α] {P:Program} {ρ:Ren} {e:TypeId} {z:Nat} {g:α→GV} {cf:α→α→Int}
theorem zsq (hok:∀x,(g x).ok) (hsz:∀x,(g x).sz=z) (hz:0<z) (cs:List α) {j:Nat} (hj:j<cs.length*z):(zaa (cs.map g))[j]? =some (flatK (fun x=>(g x).flat) z cs.toArray)[j]! :=by
 have hi:j / z<cs.length:=Nat.div_lt_of_lt_mul (by rw [Nat.mul_comm];exact hj)
 have hx:(cs.map g)[j / z]? =some (g cs[j / z]):=by rw [List.getElem?_map,List.getElem?_eq_getElem hi];rfl
 have hlen:(g cs[j / z]).flat.length=z:=by rw [GV.flat_len _ (hok _),hsz]
 have hm:j % z<(g cs[j / z]).flat.length:=by rw [hlen];exact Nat.mod_lt _ hz
 have els:Els z (cs.map g):=fun x hx=>by
  obtain ⟨c,_,rfl⟩:=List.mem_map.1 hx
  exact ⟨hok c,hsz c⟩
 have h:=zjo els hx (j % z) _ (List.getElem?_eq_getElem hm)
 rw [show j / z*z+j % z=j by rw [Nat.mul_comm];exact Nat.div_add_mod j z]at h
 rw [h,get_flatK (fun x=>(g x).flat) z cs.toArray j (by simpa using hj)]
 have e1:cs.toArray[j / z]! =cs[j / z]:=by
  rw [getElem!_pos cs.toArray (j / z) (by simpa using hi)]
  simp
 rw [e1,getElem!_pos ((g cs[j / z]).flat) (j % z) hm]
theorem zpU (L:SlLaysF0.n6 P ρ) (aE:∀w,(isAgg (ρ.t 24)).run P w= .ok true w) (zE:∀w,(Go.sizeOf (ρ.t 24)).run P w= .ok z w) (hok:∀x,(g x).ok) (hone:∀x,∀v∈(g x).flat,v.oneCell'=true) (hsz:∀x,(g x).sz=z) (hz:0<z) (hO:SWO (ltOf cf)) {gf:Nat}
  (eg:∀args w,(callFunc gf args).run P w= .ok (.enter gf args) w) (hcmp:∀blk off size w,CmpLays P gf #[] (fun x=>(g x).flat) z cf blk off size w)
  (w:World) (v:Value) (cs:List α) (m:PH) (hS:SlO m v e z (cs.map g)) (hl:cs.length≤1099511627776):
  Spec P (ρ.f 6) [v, .func (.func gf) #[] #[]] m w fun rs m'=>rs=[]∧∃cs':List α,cs'.Perm cs∧cs'.Pairwise (fun x y=>ltOf cf y x=false)∧SlO m' v e z (cs'.map g):=by
 intro hm
 have elsG:∀cs:List α,Els z (cs.map g):=fun cs x hx=>by
  obtain ⟨c,_,rfl⟩:=List.mem_map.1 hx
  exact ⟨hok c,hsz c⟩
 by_cases h0:cs=[]
 ·subst h0
  have key:∀p cap,v= .slice p 0 cap→Calls P (ρ.f 6) #[v, .func (.func gf) #[] #[]] w fun e w'=>e= .returned (.tuple #[])∧w'=w:=fun p cap e=>by
   rw [e];exact AnyF.slices_SortFunc_none L p cap _ w
  have hv:∃p cap,v= .slice p 0 cap:=by
   obtain ⟨_,⟨h1,_⟩|⟨a,c,h1,_⟩⟩:=hS
   ·exact ⟨none,0,h1⟩
   ·exact ⟨some a,c,h1⟩
  obtain ⟨p,cap,e⟩:=hv
  refine (key p cap e).mono fun e w' ⟨he,hw⟩=> ?_
  subst hw
  exact ⟨[],m,he,by simp,⟨rfl,[],List.Perm.refl _,List.Pairwise.nil,hS⟩,hm,fun b hb=> .inl hb,Kept.refl m w'⟩
 ·obtain ⟨hels,⟨_,h1⟩|⟨⟨b,o,sp⟩,c,rfl,hc,hs⟩⟩:=hS
  ·exact absurd (by simpa using h1) h0
  have hlen:0<cs.length:=List.length_pos_iff.2 h0
  rw [List.length_map]at hc
  obtain ⟨cl,hsp,hszc,hb,hrow⟩:=hs (by omega)
  simp only at hsp hszc hb hrow
  subst hsp
  rw [List.length_map]
  have hwb:=hm b _ hb
  have hblk:b<w.heap.size:=by
   rw [Array.getElem?_eq_some_iff]at hwb
   exact hwb.1
  have hH:HoldsK (fun x=>(g x).flat) z w b o cs.toArray:=fun j hj=>by
   have hj':j<cs.length*z:=by simpa using hj
   have hcell:=hrow j _ (zsq hok hsz hz cs hj')
   refine ⟨?_, ?_⟩
   ·simp only [World.cell?,hwb]
    simpa using hcell
   ·simp [World.frozen?,hwb]
  have hcon:=AnyQ.slices_SortFunc L z aE zE (fun x=>(g x).flat) (fun x=>by rw [GV.flat_len _ (hok x),hsz]) hone cf hO gf #[] b o c cs.toArray w eg (hcmp b o _ w) hH hblk (by simp;omega)
  rw [List.size_toArray]at hcon
  refine hcon.mono fun e' w' ⟨he,d',n,os,hp,hso,hw⟩=> ?_
  have hsz':d'.size=cs.length:=by have:=hp.1;simpa using this
  have hperm:d'.toList.Perm cs:=by
   have h2:=hp.2.2
   have e1:d'.extract 0 cs.length=d':=by rw [←hsz'];exact Array.extract_size
   have e2:cs.toArray.extract 0 cs.length=cs.toArray:=by
    simp
   rw [e1,e2]at h2
   simpa using h2
  have hpw:d'.toList.Pairwise (fun x y=>ltOf cf y x=false):=by
   rw [List.pairwise_iff_getElem]
   intro i j hi hj hij
   have:=hso i j (Nat.zero_le _) hij (by simpa [hsz']using hj)
   rw [getElem!_pos d' i (by simpa using hi),getElem!_pos d' j (by simpa using hj)]at this
   simpa using this
  generalize hF:flatK (fun x=>(g x).flat) z d'=F at*
  have hFs:F.size=cs.length*z:=by rw [←hF,size_flatK,hsz']
  have hheap:w'.heap=(w.heap.modify b (onCells (putCells id o F)))++os:=by rw [hw,←hF];rfl
  have hwb':w'.heap[b]? =some (.cells (putCells id o F cl) e (0,0)):=by
   rw [hheap,Array.getElem?_append_left (by simpa using hblk),Array.getElem?_modify,if_pos rfl,hwb]
   rfl
  have hdl:d'.toList.length=cs.length:=by simpa using hsz'
  refine ⟨[],one b (.cells (putCells id o F cl) e (0,0)),he,by simp,⟨rfl,d'.toList,hperm,hpw,elsG _, .inr ⟨⟨b,o,none⟩,c,by rw [List.length_map,hdl],by rw [List.length_map,hdl];exact hc,fun _=>⟨putCells id o F cl,rfl,by simp only [putCells,Array.size_mapIdx];exact hszc,by simp [one],fun j v hj=> ?_⟩⟩⟩,fun k x hk=> ?_,fun k hk=> ?_, ?_⟩
  ·have hjl:j<d'.toList.length*z:=by
    have:=List.getElem?_eq_some_iff.1 hj
    have h2:=this.1
    rw [zdD (elsG _),List.length_map]at h2
    exact h2
   rw [zsq hok hsz hz _ hjl]at hj
   rw [hdl]at hjl
   have hj:F[j]! =v:=by
    rw [←hF,show d'=d'.toList.toArray by simp]
    exact Option.some.inj hj
   have hcell:∃x,cl[o+j]? =some x:=⟨_,hrow j _ (zsq hok hsz hz cs hjl)⟩
   obtain ⟨x,hx⟩:=hcell
   simp only [putCells]
   rw [Array.getElem?_mapIdx,hx,Option.map_some,if_pos ⟨by omega,by omega⟩,show o+j - o=j by omega,hj]
   rfl
  ·simp only [one]at hk
   split at hk
   ·rename_i e;subst e;cases hk;exact hwb'
   ·cases hk
  ·simp only [one]at hk
   split at hk
   ·rename_i e;subst e;exact .inl (by rw [hb];simp)
   ·exact absurd rfl hk
  ·refine ⟨by rw [hw];rfl,by rw [hw];rfl,by rw [hw];rfl,by rw [hheap];simp,fun k hk hmk=> ?_⟩
   have hkb:b≠k:=fun e=>by subst e;rw [hb]at hmk;cases hmk
   rw [hheap,Array.getElem?_append_left (by simpa using hk),Array.getElem?_modify,if_neg hkb]
end
end Go.Proofs.YtmjiojflncffeaaGreat.Vc

set_option linter.unusedVariables false
set_option linter.unusedSimpArgs false
namespace Go.Proofs.YtmjiojflncffeaaGreat.Vc
open Go
theorem zeA {x:Int} (h1: -9223372036854775808≤x) (h2:x≤9223372036854775807):IntKind.i64.wrap x=x:=by
 simp only [IntKind.wrap,IntKind.bits,IntKind.signed]
 have:(2:Int) ^ 64=18446744073709551616:=by decide
 have:(2:Int) ^ 63=9223372036854775808:=by decide
 by_cases h:0≤x
 ·have h3:x % 18446744073709551616=x:=Int.emod_eq_of_lt h (by omega)
  simp_all
  try omega
 ·have h3:x % 18446744073709551616=x+18446744073709551616:=by omega
  simp_all
  try omega
theorem zaN {n:Nat} (h:n<9223372036854775807):IntKind.i64.wrap ((n:Int)+1)=((n+1:Nat):Int):=by rw [zeA (by omega) (by omega)];rfl
theorem zF (v:Value) (n:Nat) (b:Bool):GV.fits (.s v) n b= !b:=rfl
def gi (n:Int):GV:= .s (.int .i64 n)
theorem zxD (l:List Int) (i:Nat):(l.map gi).getD i (gi 0)= .s (.int .i64 (l.getD i 0)):=by
 rw [List.getD_eq_getElem?_getD,List.getElem?_map,List.getD_eq_getElem?_getD]
 cases l[i]? <;>rfl
def upd {α:Type} (f:Nat→α) (j:Nat) (x:α):Nat→α:=fun k=>if k=j then x else f k
def zzQ (f:Nat→Int):GV:= .ar 8 1 fun j=> .s (.int .i64 (f j))
theorem zba (f:Nat→Int):(zzQ f).sz=8:=rfl
theorem zn (g:GV):g.getT []=g:=by cases g<;>rfl
theorem zph (g:GV):g.get []=some g:=by cases g<;>rfl
theorem zY (g x:GV):g.setT [] x=x:=by cases g<;>rfl
def zAg (f:Nat→Nat→Int):GV:= .ar 8 8 fun j=>zzQ (f j)
theorem zaI (f:Nat→Nat→Int):(zAg f).sz=64:=rfl
theorem zcT (k k':IntKind) (x y:Int):GV.same (.s (.int k x)) (.s (.int k' y))=True:=eq_true trivial
end Go.Proofs.YtmjiojflncffeaaGreat.Vc

set_option linter.unusedVariables false
set_option linter.unusedSimpArgs false
namespace Go.Proofs.YtmjiojflncffeaaGreat.Vc
open Go
structure Stamp where
 time:Int
 site:Int
def zjU:Stamp:=⟨0,0⟩
def zaA (x:Stamp):GV:= .c (.s (.int .i64 x.time)) (.c (.s (.int .i64 x.site)) .u)
theorem zcC (x:Stamp):(zaA x).ok:=⟨rfl,rfl,trivial⟩
theorem zaj (x:Stamp):(zaA x).sz=2:=by simp [zaA,GV.sz,zba,zaI]
theorem zag (x:Stamp):(zaA x).fits 2 true=true:=by
 show (true&&(zaA x).sz==2)=true
 rw [zaj];rfl
theorem zcX (x y:Stamp):(zaA x).same (zaA y)=True:=eq_true ⟨trivial,trivial,trivial⟩
theorem zdq (x:Stamp):(zaA x).fld 0 0=true:=by simp [zaA,GV.fld,GV.sz,zba,zaI]
theorem zcr (x:Stamp) (p:List Nat):(zaA x).getT (0::p)=GV.getT (.s (.int .i64 x.time)) p:=by simp [zaA,GV.getT]
theorem zjE (x:Stamp) (v:Int):(zaA x).setT [0] (.s (.int .i64 v))=zaA {x with time:=v}:=by simp [zaA,GV.setT,zY]
theorem zfk (x:Stamp):(zaA x).fld 1 1=true:=by simp [zaA,GV.fld,GV.sz,zba,zaI]
theorem zds (x:Stamp) (p:List Nat):(zaA x).getT (1::p)=GV.getT (.s (.int .i64 x.site)) p:=by simp [zaA,GV.getT]
theorem znW (x:Stamp) (v:Int):(zaA x).setT [1] (.s (.int .i64 v))=zaA {x with site:=v}:=by simp [zaA,GV.setT,zY]
theorem zaU:GV.c (.s (.int .i64 0)) (.c (.s (.int .i64 0)) .u)=zaA zjU:=by simp only [zaA,zjU]
structure Op where
 stamp:Stamp
 kind:Int
 node:Int
 parent:Int
 name:ByteArray
 key:ByteArray
 value:ByteArray
def zOp:Op:=⟨zjU,0,0,0,⟨#[]⟩,⟨#[]⟩,⟨#[]⟩⟩
def gOp (x:Op):GV:= .c (zaA x.stamp) (.c (.s (.int .i64 x.kind)) (.c (.s (.int .i64 x.node)) (.c (.s (.int .i64 x.parent)) (.c (.s (.string x.name)) (.c (.s (.string x.key)) (.c (.s (.string x.value)) .u))))))
theorem zcS (x:Op):(gOp x).ok:=⟨zcC _,rfl,rfl,rfl,rfl,rfl,rfl,trivial⟩
theorem zbM (x:Op):(gOp x).sz=8:=by simp [gOp,GV.sz,zba,zaI,zaj]
theorem zbp (x:Op):(gOp x).fits 8 true=true:=by
 show (true&&(gOp x).sz==8)=true
 rw [zbM];rfl
theorem zfs (x y:Op):(gOp x).same (gOp y)=True:=eq_true ⟨(by rw [zcX];trivial),trivial,trivial,trivial,trivial,trivial,trivial,trivial⟩
theorem zcb (x:Op):(gOp x).fld 0 0=true:=by simp [gOp,GV.fld,GV.sz,zba,zaI,zaj]
theorem zbL (x:Op) (p:List Nat):(gOp x).getT (0::p)=GV.getT (zaA x.stamp) p:=by simp [gOp,GV.getT]
theorem zAL (x:Op) (v:Stamp):(gOp x).setT [0] (zaA v)=gOp {x with stamp:=v}:=by simp [gOp,GV.setT,zY]
theorem zbn (x:Op):(gOp x).fld 1 2=true:=by simp [gOp,GV.fld,GV.sz,zba,zaI,zaj]
theorem zbj (x:Op) (p:List Nat):(gOp x).getT (1::p)=GV.getT (.s (.int .i64 x.kind)) p:=by simp [gOp,GV.getT]
theorem zAs (x:Op) (v:Int):(gOp x).setT [1] (.s (.int .i64 v))=gOp {x with kind:=v}:=by simp [gOp,GV.setT,zY]
theorem zbo (x:Op):(gOp x).fld 2 3=true:=by simp [gOp,GV.fld,GV.sz,zba,zaI,zaj]
theorem zaW (x:Op) (p:List Nat):(gOp x).getT (2::p)=GV.getT (.s (.int .i64 x.node)) p:=by simp [gOp,GV.getT]
theorem zzI (x:Op) (v:Int):(gOp x).setT [2] (.s (.int .i64 v))=gOp {x with node:=v}:=by simp [gOp,GV.setT,zY]
theorem zcn (x:Op):(gOp x).fld 3 4=true:=by simp [gOp,GV.fld,GV.sz,zba,zaI,zaj]
theorem zcd (x:Op) (p:List Nat):(gOp x).getT (3::p)=GV.getT (.s (.int .i64 x.parent)) p:=by simp [gOp,GV.getT]
theorem zAx (x:Op) (v:Int):(gOp x).setT [3] (.s (.int .i64 v))=gOp {x with parent:=v}:=by simp [gOp,GV.setT,zY]
theorem zcy (x:Op):(gOp x).fld 4 5=true:=by simp [gOp,GV.fld,GV.sz,zba,zaI,zaj]
theorem zck (x:Op) (p:List Nat):(gOp x).getT (4::p)=GV.getT (.s (.string x.name)) p:=by simp [gOp,GV.getT]
theorem zzn (x:Op) (v:ByteArray):(gOp x).setT [4] (.s (.string v))=gOp {x with name:=v}:=by simp [gOp,GV.setT,zY]
theorem zcI (x:Op):(gOp x).fld 5 6=true:=by simp [gOp,GV.fld,GV.sz,zba,zaI,zaj]
theorem zcD (x:Op) (p:List Nat):(gOp x).getT (5::p)=GV.getT (.s (.string x.key)) p:=by simp [gOp,GV.getT]
theorem zdi (x:Op):(gOp x).fld 6 7=true:=by simp [gOp,GV.fld,GV.sz,zba,zaI,zaj]
theorem zdj (x:Op) (p:List Nat):(gOp x).getT (6::p)=GV.getT (.s (.string x.value)) p:=by simp [gOp,GV.getT]
theorem zcx:GV.c (zaA zjU) (.c (.s (.int .i64 0)) (.c (.s (.int .i64 0)) (.c (.s (.int .i64 0)) (.c (.s (.string ⟨#[]⟩)) (.c (.s (.string ⟨#[]⟩)) (.c (.s (.string ⟨#[]⟩)) .u))))))=gOp zOp:=by simp only [gOp,zOp]
theorem zdY (l:List Op) (i:Nat):(l.map gOp).getD i (gOp zOp)=gOp (l.getD i zOp):=by
 rw [List.getD_eq_getElem?_getD,List.getElem?_map,List.getD_eq_getElem?_getD]
 cases l[i]? <;>rfl
structure Place where
 parent:Int
 name:ByteArray
def zgQ:Place:=⟨0,⟨#[]⟩⟩
def zby (x:Place):GV:= .c (.s (.int .i64 x.parent)) (.c (.s (.string x.name)) .u)
theorem znG (x:Place):(zby x).ok:=⟨rfl,rfl,trivial⟩
theorem zbf (x:Place):(zby x).sz=2:=by simp [zby,GV.sz,zba,zaI,zaj,zbM]
theorem zjG (x:Place):(zby x).fits 2 true=true:=by
 show (true&&(zby x).sz==2)=true
 rw [zbf];rfl
theorem zoe (x y:Place):(zby x).same (zby y)=True:=eq_true ⟨trivial,trivial,trivial⟩
theorem zuN (x:Place):(zby x).fld 0 0=true:=by simp [zby,GV.fld,GV.sz,zba,zaI,zaj,zbM]
theorem zhb (x:Place) (p:List Nat):(zby x).getT (0::p)=GV.getT (.s (.int .i64 x.parent)) p:=by simp [zby,GV.getT]
theorem zjm (x:Place) (v:Int):(zby x).setT [0] (.s (.int .i64 v))=zby {x with parent:=v}:=by simp [zby,GV.setT,zY]
theorem zjF (x:Place) (p:List Nat):(zby x).getT (1::p)=GV.getT (.s (.string x.name)) p:=by simp [zby,GV.getT]
theorem zjK (x:Place) (v:ByteArray):(zby x).setT [1] (.s (.string v))=zby {x with name:=v}:=by simp [zby,GV.setT,zY]
theorem zcL:GV.c (.s (.int .i64 0)) (.c (.s (.string ⟨#[]⟩)) .u)=zby zgQ:=by simp only [zby,zgQ]
structure Undo where
 of:Value
 ix:Int
 op:Op
 was:Place
 attr:ByteArray
def zdJ:Undo:=⟨(.pointer none),0,zOp,zgQ,⟨#[]⟩⟩
def zaH (x:Undo):GV:= .c (.s x.of) (.c (.s (.int .i64 x.ix)) (.c (gOp x.op) (.c (zby x.was) (.c (.s (.string x.attr)) .u))))
theorem zlN (x:Undo) (hof:x.of.oneCell'=true):(zaH x).ok:=⟨(by assumption),rfl,zcS _,znG _,rfl,trivial⟩
theorem zbT (x:Undo):(zaH x).sz=13:=by simp [zaH,GV.sz,zba,zaI,zaj,zbM,zbf]
theorem ziu (x:Undo):(zaH x).fits 13 true=true:=by
 show (true&&(zaH x).sz==13)=true
 rw [zbT];rfl
theorem zgy (x y:Undo):(zaH x).same (zaH y)=True:=eq_true ⟨trivial,trivial,(by rw [zfs];trivial),(by rw [zoe];trivial),trivial,trivial⟩
theorem zwd (x:Undo):(zaH x).fld 0 0=true:=by simp [zaH,GV.fld,GV.sz,zba,zaI,zaj,zbM,zbf]
theorem zpp (x:Undo) (p:List Nat):(zaH x).getT (0::p)=GV.getT (.s x.of) p:=by simp [zaH,GV.getT]
theorem zwO (x:Undo) (v:Value):(zaH x).setT [0] (.s v)=zaH {x with of:=v}:=by simp [zaH,GV.setT,zY]
theorem zpM (x:Undo):(zaH x).fld 1 1=true:=by simp [zaH,GV.fld,GV.sz,zba,zaI,zaj,zbM,zbf]
theorem zit (x:Undo) (p:List Nat):(zaH x).getT (1::p)=GV.getT (.s (.int .i64 x.ix)) p:=by simp [zaH,GV.getT]
theorem zwh (x:Undo) (v:Int):(zaH x).setT [1] (.s (.int .i64 v))=zaH {x with ix:=v}:=by simp [zaH,GV.setT,zY]
theorem zfa (x:Undo):(zaH x).fld 2 2=true:=by simp [zaH,GV.fld,GV.sz,zba,zaI,zaj,zbM,zbf]
theorem zej (x:Undo) (p:List Nat):(zaH x).getT (2::p)=GV.getT (gOp x.op) p:=by simp [zaH,GV.getT]
theorem zwC (x:Undo) (v:Op):(zaH x).setT [2] (gOp v)=zaH {x with op:=v}:=by simp [zaH,GV.setT,zY]
theorem zpn (x:Undo):(zaH x).fld 3 10=true:=by simp [zaH,GV.fld,GV.sz,zba,zaI,zaj,zbM,zbf]
theorem zqi (x:Undo) (p:List Nat):(zaH x).getT (3::p)=GV.getT (zby x.was) p:=by simp [zaH,GV.getT]
theorem zwm (x:Undo) (v:Place):(zaH x).setT [3] (zby v)=zaH {x with was:=v}:=by simp [zaH,GV.setT,zY]
theorem zqv (x:Undo):(zaH x).fld 4 12=true:=by simp [zaH,GV.fld,GV.sz,zba,zaI,zaj,zbM,zbf]
theorem zpv (x:Undo) (p:List Nat):(zaH x).getT (4::p)=GV.getT (.s (.string x.attr)) p:=by simp [zaH,GV.getT]
theorem zwF (x:Undo) (v:ByteArray):(zaH x).setT [4] (.s (.string v))=zaH {x with attr:=v}:=by simp [zaH,GV.setT,zY]
theorem zee:GV.c (.s (.pointer none)) (.c (.s (.int .i64 0)) (.c (gOp zOp) (.c (zby zgQ) (.c (.s (.string ⟨#[]⟩)) .u))))=zaH zdJ:=by simp only [zaH,zdJ]
structure TreeNode where
 node:Int
 parent:Int
 name:ByteArray
 attrs:Value
def zTreeNode:TreeNode:=⟨0,0,⟨#[]⟩,(.slice none 0 0)⟩
def zl (x:TreeNode):GV:= .c (.s (.int .i64 x.node)) (.c (.s (.int .i64 x.parent)) (.c (.s (.string x.name)) (.c (.s x.attrs) .u)))
theorem zfV (x:TreeNode) (hattrs:x.attrs.oneCell'=true):(zl x).ok:=⟨rfl,rfl,rfl,(by assumption),trivial⟩
theorem zai (x:TreeNode):(zl x).sz=4:=by simp [zl,GV.sz,zba,zaI,zaj,zbM,zbf,zbT]
theorem zaY (x:TreeNode):(zl x).fits 4 true=true:=by
 show (true&&(zl x).sz==4)=true
 rw [zai];rfl
theorem zbR (x y:TreeNode):(zl x).same (zl y)=True:=eq_true ⟨trivial,trivial,trivial,trivial,trivial⟩
theorem zbQ (x:TreeNode):(zl x).fld 0 0=true:=by simp [zl,GV.fld,GV.sz,zba,zaI,zaj,zbM,zbf,zbT]
theorem zaZ (x:TreeNode) (p:List Nat):(zl x).getT (0::p)=GV.getT (.s (.int .i64 x.node)) p:=by simp [zl,GV.getT]
theorem zet (x:TreeNode) (v:Int):(zl x).setT [0] (.s (.int .i64 v))=zl {x with node:=v}:=by simp [zl,GV.setT,zY]
theorem zcc (x:TreeNode):(zl x).fld 1 1=true:=by simp [zl,GV.fld,GV.sz,zba,zaI,zaj,zbM,zbf,zbT]
theorem zbC (x:TreeNode) (p:List Nat):(zl x).getT (1::p)=GV.getT (.s (.int .i64 x.parent)) p:=by simp [zl,GV.getT]
theorem zgN (x:TreeNode) (v:Int):(zl x).setT [1] (.s (.int .i64 v))=zl {x with parent:=v}:=by simp [zl,GV.setT,zY]
theorem zbt (x:TreeNode):(zl x).fld 2 2=true:=by simp [zl,GV.fld,GV.sz,zba,zaI,zaj,zbM,zbf,zbT]
theorem zaX (x:TreeNode) (p:List Nat):(zl x).getT (2::p)=GV.getT (.s (.string x.name)) p:=by simp [zl,GV.getT]
theorem zgA (x:TreeNode) (v:ByteArray):(zl x).setT [2] (.s (.string v))=zl {x with name:=v}:=by simp [zl,GV.setT,zY]
theorem zaV (x:TreeNode):(zl x).fld 3 3=true:=by simp [zl,GV.fld,GV.sz,zba,zaI,zaj,zbM,zbf,zbT]
theorem zaG (x:TreeNode) (p:List Nat):(zl x).getT (3::p)=GV.getT (.s x.attrs) p:=by simp [zl,GV.getT]
theorem zgp (x:TreeNode) (v:Value):(zl x).setT [3] (.s v)=zl {x with attrs:=v}:=by simp [zl,GV.setT,zY]
theorem zbG:GV.c (.s (.int .i64 0)) (.c (.s (.int .i64 0)) (.c (.s (.string ⟨#[]⟩)) (.c (.s (.slice none 0 0)) .u)))=zl zTreeNode:=by simp only [zl,zTreeNode]
theorem zdt (l:List TreeNode) (i:Nat):(l.map zl).getD i (zl zTreeNode)=zl (l.getD i zTreeNode):=by
 rw [List.getD_eq_getElem?_getD,List.getElem?_map,List.getD_eq_getElem?_getD]
 cases l[i]? <;>rfl
structure Attr where
 key:ByteArray
 value:ByteArray
def zcU:Attr:=⟨⟨#[]⟩,⟨#[]⟩⟩
def zap (x:Attr):GV:= .c (.s (.string x.key)) (.c (.s (.string x.value)) .u)
theorem zuB (x:Attr):(zap x).ok:=⟨rfl,rfl,trivial⟩
theorem zeI (x:Attr):(zap x).sz=2:=by simp [zap,GV.sz,zba,zaI,zaj,zbM,zbf,zbT,zai]
theorem zhY (x:Attr):(zap x).fits 2 true=true:=by
 show (true&&(zap x).sz==2)=true
 rw [zeI];rfl
theorem zxj (x y:Attr):(zap x).same (zap y)=True:=eq_true ⟨trivial,trivial,trivial⟩
theorem zgh (x:Attr):(zap x).fld 0 0=true:=by simp [zap,GV.fld,GV.sz,zba,zaI,zaj,zbM,zbf,zbT,zai]
theorem zeU (x:Attr) (p:List Nat):(zap x).getT (0::p)=GV.getT (.s (.string x.key)) p:=by simp [zap,GV.getT]
theorem zwp (x:Attr) (v:ByteArray):(zap x).setT [0] (.s (.string v))=zap {x with key:=v}:=by simp [zap,GV.setT,zY]
theorem zlq (x:Attr):(zap x).fld 1 1=true:=by simp [zap,GV.fld,GV.sz,zba,zaI,zaj,zbM,zbf,zbT,zai]
theorem zim (x:Attr) (p:List Nat):(zap x).getT (1::p)=GV.getT (.s (.string x.value)) p:=by simp [zap,GV.getT]
theorem zxm (x:Attr) (v:ByteArray):(zap x).setT [1] (.s (.string v))=zap {x with value:=v}:=by simp [zap,GV.setT,zY]
theorem zpC:GV.c (.s (.string ⟨#[]⟩)) (.c (.s (.string ⟨#[]⟩)) .u)=zap zcU:=by simp only [zap,zcU]
theorem zlf (l:List Attr) (i:Nat):(l.map zap).getD i (zap zcU)=zap (l.getD i zcU):=by
 rw [List.getD_eq_getElem?_getD,List.getElem?_map,List.getD_eq_getElem?_getD]
 cases l[i]? <;>rfl
structure Child where
 name:ByteArray
 node:Int
def zAd (x:Child):GV:= .c (.s (.string x.name)) (.c (.s (.int .i64 x.node)) .u)
theorem zkf (x:Child):(zAd x).sz=2:=by simp [zAd,GV.sz,zba,zaI,zaj,zbM,zbf,zbT,zai,zeI]
end Go.Proofs.YtmjiojflncffeaaGreat.Vc

set_option linter.unusedVariables false
set_option linter.unusedSimpArgs false
namespace Go.Proofs.YtmjiojflncffeaaGreat.Vc
open Go
structure Done where
 op:Op
 taken:Bool
 undo:Undo
def zbe:Done:=⟨zOp,false,zdJ⟩
def zan (x:Done):GV:= .c (gOp x.op) (.c (.s (.bool x.taken)) (.c (zaH x.undo) .u))
theorem zqg (x:Done) (hof:x.undo.of.oneCell'=true):(zan x).ok:=⟨zcS _,rfl,zlN _ hof,trivial⟩
theorem zgl (x:Done):(zan x).sz=22:=by simp [zan,GV.sz,zba,zaI,zaj,zbM,zbf,zbT,zai,zeI,zkf]
theorem zgJ (x:Done):(zan x).fits 22 true=true:=by
 show (true&&(zan x).sz==22)=true
 rw [zgl];rfl
theorem zpO (x y:Done):(zan x).same (zan y)=True:=eq_true ⟨(by rw [zfs];trivial),trivial,(by rw [zgy];trivial),trivial⟩
theorem zia (x:Done):(zan x).fld 0 0=true:=by simp [zan,GV.fld,GV.sz,zba,zaI,zaj,zbM,zbf,zbT,zai,zeI,zkf]
theorem zeN (x:Done) (p:List Nat):(zan x).getT (0::p)=GV.getT (gOp x.op) p:=by simp [zan,GV.getT]
theorem zvW (x:Done) (v:Op):(zan x).setT [0] (gOp v)=zan {x with op:=v}:=by simp [zan,GV.setT,zY]
theorem zir (x:Done):(zan x).fld 1 8=true:=by simp [zan,GV.fld,GV.sz,zba,zaI,zaj,zbM,zbf,zbT,zai,zeI,zkf]
theorem zhZ (x:Done) (p:List Nat):(zan x).getT (1::p)=GV.getT (.s (.bool x.taken)) p:=by simp [zan,GV.getT]
theorem zwn (x:Done) (v:Bool):(zan x).setT [1] (.s (.bool v))=zan {x with taken:=v}:=by simp [zan,GV.setT,zY]
theorem zpi (x:Done):(zan x).fld 2 9=true:=by simp [zan,GV.fld,GV.sz,zba,zaI,zaj,zbM,zbf,zbT,zai,zeI,zkf]
theorem zqo (x:Done) (p:List Nat):(zan x).getT (2::p)=GV.getT (zaH x.undo) p:=by simp [zan,GV.getT]
theorem zwa (x:Done) (v:Undo):(zan x).setT [2] (zaH v)=zan {x with undo:=v}:=by simp [zan,GV.setT,zY]
theorem ziy:GV.c (gOp zOp) (.c (.s (.bool false)) (.c (zaH zdJ) .u))=zan zbe:=by simp only [zan,zbe]
theorem ziA (l:List Done) (i:Nat):(l.map zan).getD i (zan zbe)=zan (l.getD i zbe):=by
 rw [List.getD_eq_getElem?_getD,List.getElem?_map,List.getD_eq_getElem?_getD]
 cases l[i]? <;>rfl
end Go.Proofs.YtmjiojflncffeaaGreat.Vc

set_option linter.unusedVariables false
set_option linter.unusedSimpArgs false
set_option maxRecDepth 100000
namespace Go.Proofs.YtmjiojflncffeaaGreat.Vc
open Go Go.Proofs Go.Sort Go.Shelf Go.Lib
def ltK (a b:Int×Int):Prop:=a.1<b.1∨(a.1=b.1∧a.2<b.2)
instance (a b:Int×Int):Decidable (ltK a b):=inferInstanceAs (Decidable (_∨_))
theorem zxp (a b:Int):Lib.compareInt a b<0↔a<b:=by
 unfold Lib.compareInt
 (repeat' split)<;>simp_all<;>omega
theorem zsy (a b:Int):Lib.compareInt a b=0↔a=b:=by
 unfold Lib.compareInt
 (repeat' split)<;>simp_all<;>omega
theorem zqJ (a b:Int×Int):zgq a b<0↔ltK a b:=by
 unfold zgq orV ltK
 have h1:=zxp a.1 b.1
 have h2:=zsy a.1 b.1
 have h3:=zxp a.2 b.2
 split<;>omega
theorem zAU (a b:Int×Int):zgq a b=0↔a=b:=by
 obtain ⟨a1,a2⟩:=a
 obtain ⟨b1,b2⟩:=b
 unfold zgq orV
 have h2:=zsy a1 b1
 have h3:=zsy a2 b2
 simp only [Prod.mk.injEq]
 split<;>omega
theorem zeR (a:Int×Int):¬ltK a a:=by unfold ltK;omega
theorem zfW {a b c:Int×Int} (h1:ltK a b) (h2:ltK b c):ltK a c:=by unfold ltK at*;omega
theorem ztd (a b:Int×Int):ltK a b∨a=b∨ltK b a:=by
 obtain ⟨a1,a2⟩:=a
 obtain ⟨b1,b2⟩:=b
 unfold ltK
 simp only [Prod.mk.injEq]
 omega
theorem swoK {α:Type} (f:α→Int×Int):SWO (ltOf fun x y=>zgq (f x) (f y)):=by
 have e:∀x y,ltOf (fun x y=>zgq (f x) (f y)) x y=decide (ltK (f x) (f y)):=fun x y=>by
  unfold ltOf
  rw [decide_eq_decide]
  exact zqJ _ _
 refine ⟨fun x=> ?_,fun x y z h1 h2=> ?_,fun x y z h1 h2=> ?_⟩
 ·rw [e];exact decide_eq_false (zeR _)
 ·rw [e,decide_eq_true_iff]at*;exact zfW h1 h2
 ·rw [e,decide_eq_false_iff_not]at*
  intro h
  rcases ztd (f y) (f z)with h3|h3|h3
  ·exact h2 h3
  ·rw [←h3]at h;exact h1 h
  ·exact h1 (zfW h h3)
def Stamp.k (s:Stamp):Int×Int:=(s.time,s.site)
def Op.k (x:Op):Int×Int:=x.stamp.k
def Done.k (x:Done):Int×Int:=x.op.k
def Rising (l:List (Int×Int)):Prop:=l.Pairwise ltK
theorem Rising.uniq {α:Type} {f:α→Int×Int} {a b:List α} (h:a.Perm b) (ha:Rising (a.map f)) (hb:Rising (b.map f)):a=b:=by
 refine List.Perm.eq_of_pairwise (le:=fun x y=>ltK (f x) (f y)) (fun x y _ _ h1 h2=>absurd (zfW h1 h2) (zeR _)) ?_ ?_ h
 ·exact List.pairwise_map.1 ha
 ·exact List.pairwise_map.1 hb
theorem zrR {α:Type} (f:α→Int×Int) {cs cs':List α} (hp:cs'.Perm cs) (hw:cs'.Pairwise (fun x y=>ltOf (fun x y=>zgq (f x) (f y)) y x=false)) (hn:(cs.map f).Nodup):Rising (cs'.map f):=by
 have hn':(cs'.map f).Nodup:=(hp.map f).nodup_iff.2 hn
 rw [Rising,List.pairwise_map]
 rw [List.Nodup,List.pairwise_map]at hn'
 refine (hw.and hn').imp fun {x y} ⟨h1,h2⟩=> ?_
 rw [ltOf,decide_eq_false_iff_not,zqJ]at h1
 rcases ztd (f x) (f y)with h|h|h
 ·exact h
 ·exact absurd h h2
 ·exact absurd h h1
instance:Inhabited Op:=⟨zOp⟩
theorem zwu (w:World) (v:Value) (cs:List Op) (m:PH) (hS:SlO m v 26 8 (cs.map gOp)) (hl:cs.length≤1099511627776) (hn:(cs.map Op.k).Nodup):
  Spec Tryz.prog 38 [v, .func (.func 39) #[] #[]] m w fun rs m'=>rs=[]∧∃cs':List Op,cs'.Perm cs∧Rising (cs'.map Op.k)∧SlO m' v 26 8 (cs'.map gOp):=
 (zpU (cf:=fun x y=>zgq (Op.k x) (Op.k y)) Tryz.sortO Tryz.isAgg26 Tryz.sizeOf26 zcS (fun x=>GV.flat_one _ (zcS x)) zbM (by omega) (swoK _) (gf:=39)
  (enters_of Tryz.func39 (by kernel_rfl) rfl) (fun _ _ _ _ _ _ _ _ x y=>zzE x.stamp.time x.stamp.site x.kind x.node x.parent y.stamp.time y.stamp.site y.kind y.node y.parent x.name x.key x.value y.name y.key y.value _) w v cs m hS hl).mono
  fun rs m' ⟨h1,cs',h2,h3,h4⟩=>⟨h1,cs',h2,zrR Op.k h2 h3 hn,h4⟩
abbrev zuY:={x:Done // x.undo.of.oneCell'=true}
instance:Inhabited zuY:=⟨⟨zbe,rfl⟩⟩
theorem zwv (w:World) (v:Value) (ds:List Done) (hof:∀d∈ds,d.undo.of.oneCell'=true) (m:PH) (hS:SlO m v 97 22 (ds.map zan)) (hl:ds.length≤1099511627776) (hn:(ds.map Done.k).Nodup):
  Spec Tryz.prog 45 [v, .func (.func 46) #[] #[]] m w fun rs m'=>rs=[]∧∃ds':List Done,ds'.Perm ds∧Rising (ds'.map Done.k)∧SlO m' v 97 22 (ds'.map zan):=by
 have hv:(ds.attachWith (fun x:Done=>x.undo.of.oneCell'=true) hof).map Subtype.val=ds:=List.attachWith_map_subtype_val _
 have hS':SlO m v 97 22 ((ds.attachWith (fun x:Done=>x.undo.of.oneCell'=true) hof).map fun x=>zan x.1):=by
  rw [show (fun x:zuY=>zan x.1)=zan ∘ Subtype.val from rfl,←List.map_map,hv]
  exact hS
 have hn':((ds.attachWith (fun x:Done=>x.undo.of.oneCell'=true) hof).map fun x=>Done.k x.1).Nodup:=by
  rw [show (fun x:zuY=>Done.k x.1)=Done.k ∘ Subtype.val from rfl,←List.map_map,hv]
  exact hn
 refine (zpU (α:=zuY) (g:=fun x=>zan x.1) (cf:=fun x y=>zgq (Done.k x.1) (Done.k y.1)) Tryz.sortD Tryz.isAgg97 Tryz.sizeOf97 (fun x=>zqg x.1 x.2) (fun x=>GV.flat_one _ (zqg x.1 x.2)) (fun x=>zgl x.1) (by omega) (swoK _) (gf:=46)
  (enters_of Tryz.func46 (by kernel_rfl) rfl) (fun _ _ _ _ _ _ _ _ x y=> ?_) w v _ m hS' (by simpa using hl)).mono ?_
 ·exact zAl x.1.op.stamp.time x.1.op.stamp.site x.1.op.kind x.1.op.node x.1.op.parent y.1.op.stamp.time y.1.op.stamp.site y.1.op.kind y.1.op.node y.1.op.parent x.1.op.name x.1.op.key x.1.op.value y.1.op.name y.1.op.key y.1.op.value x.1.taken y.1.taken x.1.undo.of y.1.undo.of x.1.undo.ix y.1.undo.ix
   x.1.undo.op.stamp.time x.1.undo.op.stamp.site x.1.undo.op.kind x.1.undo.op.node x.1.undo.op.parent y.1.undo.op.stamp.time y.1.undo.op.stamp.site y.1.undo.op.kind y.1.undo.op.node y.1.undo.op.parent x.1.undo.op.name x.1.undo.op.key x.1.undo.op.value y.1.undo.op.name y.1.undo.op.key y.1.undo.op.value x.1.undo.was.parent y.1.undo.was.parent x.1.undo.was.name y.1.undo.was.name x.1.undo.attr y.1.undo.attr _
 ·rintro rs m' ⟨h1,cs',h2,h3,h4⟩
  refine ⟨h1,cs'.map Subtype.val,by rw [←hv];exact h2.map _, ?_, ?_⟩
  ·rw [List.map_map]
   exact zrR (fun x:zuY=>Done.k x.1) h2 h3 hn'
  ·rw [List.map_map];exact h4
end Go.Proofs.YtmjiojflncffeaaGreat.Vc

set_option linter.unusedVariables false
set_option maxRecDepth 100000
namespace Go.Proofs.YtmjiojflncffeaaGreat.Vc
open Go Go.Proofs
abbrev zqK:Nat:=84
def zkJ:Cd:=
 (.seq (.rg [⟨none,[(some 1, .box 24 (.t 0)),(some 2, .mv (.c (.bool false)))]⟩] [1])
 (.seq (.rg [⟨none,[(some 3, .fldA (.t 1) 0 0),(some 4, .ld (.t 3) 1 false),(some 5, .bin .geq (.t 4) (.c (.int .i64 1))),(some 6, .mv (.t 5))]⟩,⟨some (6,true),[(some 7, .fldA (.t 1) 0 0),(some 8, .ld (.t 7) 1 false),(some 9, .bin .leq (.t 8) (.c (.int .i64 1099511627776)))]⟩,⟨none,[(some 10, .pick (.t 6) (.t 9) (.c (.bool false))),(some 11, .mv (.t 10))]⟩,⟨some (11,true),[(some 12, .fldA (.t 1) 1 1),(some 13, .ld (.t 12) 1 false),(some 14, .bin .geq (.t 13) (.c (.int .i64 0)))]⟩,⟨none,[(some 15, .pick (.t 11) (.t 14) (.c (.bool false))),(some 16, .mv (.t 15))]⟩,⟨some (16,true),[(some 17, .fldA (.t 1) 1 1),(some 18, .ld (.t 17) 1 false),(some 19, .bin .lss (.t 18) (.c (.int .i64 8)))]⟩,⟨none,[(some 20, .pick (.t 16) (.t 19) (.c (.bool false))),(some 2, .mv (.t 20))]⟩] [2])
 .ret))
theorem zqR:Ok Tryz.prog 84 zkJ 21 [] [.tmp 2]:=Ok.mk' Tryz.func84 (by kernel_rfl) (by kernel_rfl) (by kernel_rfl)
abbrev zsv:Nat:=85
def zmo:Cd:=
 (.seq (.rg [⟨none,[(some 1, .box 24 (.t 0)),(some 2, .mv (.c (.int .i64 0)))]⟩] [1])
 (.seq (.seq (.rg [⟨none,[(some 3, .ld (.t 1) 2 true),(some 4, .call 84 [(.t 3)]),(some 5, .un .not (.t 4))]⟩] [1,5])
 (.ite (.t 5)
 (.seq (.rg [⟨none,[(some 2, .mv (.c (.int .i64 0)))]⟩] [2])
 .ret)
 .skip))
 (.seq (.rg [⟨none,[(some 6, .fldA (.t 1) 0 0),(some 7, .ld (.t 6) 1 false),(some 8, .bin .mul (.t 7) (.c (.int .i64 8))),(some 9, .bin .add (.c (.int .i64 16)) (.t 8)),(some 10, .fldA (.t 1) 1 1),(some 11, .ld (.t 10) 1 false),(some 12, .bin .add (.t 9) (.t 11)),(some 2, .mv (.t 12))]⟩] [2])
 .ret)))
theorem zta:Ok Tryz.prog 85 zmo 13 [] [.tmp 2]:=Ok.mk' Tryz.func85 (by kernel_rfl) (by kernel_rfl) (by kernel_rfl)
abbrev zwA:Nat:=129
def zpN:Cd:=
 (.seq (.rg [⟨none,[(some 2, .new 24 (.c (.s (.int .i64 0)) (.c (.s (.int .i64 0)) .u))),(some 3, .mv (.c (.bool false)))]⟩] [0,2])
 (.seq (.seq (.rg [⟨none,[(some 6, .mv (.t 0)),(some 7, .bin .lss (.t 6) (.c (.int .i64 16)))]⟩] [0,2,7])
 (.ite (.t 7)
 (.seq (.rg [⟨none,[(some 8, .bld (.c (.s (.int .i64 0)) (.c (.s (.int .i64 0)) .u)) []),(none, .st (.t 2) (.t 8) 2),(some 3, .mv (.c (.bool false)))]⟩] [2,3])
 .ret)
 .skip))
 (.seq (.rg [⟨none,[(some 9, .mv (.t 0)),(some 10, .bin .sub (.t 9) (.c (.int .i64 16))),(some 4, .mv (.t 10))]⟩] [2,4])
 (.seq (.rg [⟨none,[(some 11, .mv (.t 4)),(some 12, .bin .quo (.t 11) (.c (.int .i64 8))),(some 13, .mv (.t 4)),(some 14, .bin .rem (.t 13) (.c (.int .i64 8))),(some 15, .bld (.c (.s (.int .i64 0)) (.c (.s (.int .i64 0)) .u)) [(0,(.t 12)),(1,(.t 14))]),(some 5, .new 24 (.c (.s (.int .i64 0)) (.c (.s (.int .i64 0)) .u))),(none, .st (.t 5) (.t 15) 2)]⟩] [2,5])
 (.seq (.seq (.rg [⟨none,[(some 16, .ld (.t 5) 2 true),(some 17, .call 84 [(.t 16)]),(some 18, .un .not (.t 17))]⟩] [2,5,18])
 (.ite (.t 18)
 (.seq (.rg [⟨none,[(some 19, .bld (.c (.s (.int .i64 0)) (.c (.s (.int .i64 0)) .u)) []),(none, .st (.t 2) (.t 19) 2),(some 3, .mv (.c (.bool false)))]⟩] [2,3])
 .ret)
 .skip))
 (.seq (.rg [⟨none,[(some 20, .ld (.t 5) 2 true),(none, .st (.t 2) (.t 20) 2),(some 3, .mv (.c (.bool true)))]⟩] [2,3])
 .ret))))))
theorem zwi:Ok Tryz.prog 129 zpN 21 [] [.cell 2 2 true, .tmp 3]:=Ok.mk' Tryz.func129 (by kernel_rfl) (by kernel_rfl) (by kernel_rfl)
abbrev ztk:Nat:=87
def zml:Cd:=
 (.seq (.rg [⟨none,[(some 2, .mv (.c (.bool false)))]⟩] [0])
 (.seq (.rg [⟨none,[(some 6, .mv (.t 0)),(some 7, .call 129 [(.t 6)]),(some 5, .mv (.t 7)),(some 8, .ext (.t 5) 0),(some 9, .ext (.t 5) 1),(some 3, .new 24 (.c (.s (.int .i64 0)) (.c (.s (.int .i64 0)) .u))),(none, .st (.t 3) (.t 8) 2),(some 4, .mv (.t 9))]⟩] [4])
 (.seq (.rg [⟨none,[(some 10, .mv (.t 4)),(some 2, .mv (.t 10))]⟩] [2])
 .ret)))
theorem zsO:Ok Tryz.prog 87 zml 11 [] [.tmp 2]:=Ok.mk' Tryz.func87 (by kernel_rfl) (by kernel_rfl) (by kernel_rfl)
abbrev zub:Nat:=88
def zom:Cd:=
 (.seq (.rg [⟨none,[(some 2, .mv (.c (.bool false)))]⟩] [0])
 (.seq (.rg [⟨none,[(some 3, .mv (.t 0)),(some 4, .bin .eql (.t 3) (.c (.int .i64 1))),(some 5, .mv (.t 4))]⟩,⟨some (5,false),[(some 6, .mv (.t 0)),(some 7, .bin .eql (.t 6) (.c (.int .i64 2)))]⟩,⟨none,[(some 8, .pick (.t 5) (.c (.bool true)) (.t 7)),(some 2, .mv (.t 8))]⟩] [2])
 .ret))
theorem zuT:Ok Tryz.prog 88 zom 9 [] [.tmp 2]:=Ok.mk' Tryz.func88 (by kernel_rfl) (by kernel_rfl) (by kernel_rfl)
abbrev zqP:Nat:=86
def zkP:Cd:=
 (.seq (.rg [⟨none,[(some 1, .box 26 (.t 0)),(some 2, .mv (.c (.int .i64 0)))]⟩] [1])
 (.seq (.block 0 (.seq (.rg [⟨none,[(some 4, .fldA (.t 1) 3 4),(some 5, .ld (.t 4) 1 false),(some 6, .call 88 [(.t 5)]),(some 7, .un .not (.t 6)),(some 8, .mv (.t 7))]⟩,⟨some (8,true),[(some 9, .fldA (.t 1) 3 4),(some 10, .ld (.t 9) 1 false),(some 11, .call 87 [(.t 10)]),(some 12, .un .not (.t 11))]⟩,⟨none,[(some 13, .pick (.t 8) (.t 12) (.c (.bool false))),(some 3, .mv (.t 13))]⟩] [1,3])
 (.ite (.t 3)
 (.seq (.rg [⟨none,[(some 2, .mv (.c (.int .i64 1)))]⟩] [2])
 .ret)
 (.seq (.rg [⟨none,[(some 15, .fldA (.t 1) 4 5),(some 16, .ld (.t 15) 1 false),(some 17, .lenS (.t 16)),(some 18, .bin .gtr (.t 17) (.c (.int .i64 255))),(some 14, .mv (.t 18))]⟩] [1,14])
 (.ite (.t 14)
 (.seq (.rg [⟨none,[(some 2, .mv (.c (.int .i64 3)))]⟩] [2])
 .ret)
 (.seq (.rg [⟨none,[(some 20, .fldA (.t 1) 4 5),(some 21, .ld (.t 20) 1 false),(some 22, .bin .eql (.t 21) (.c (.string ⟨#[]⟩))),(some 23, .mv (.t 22))]⟩,⟨some (23,false),[(some 24, .fldA (.t 1) 4 5),(some 25, .ld (.t 24) 1 false),(some 26, .bin .eql (.t 25) (.c (.string ⟨#[46]⟩)))]⟩,⟨none,[(some 27, .pick (.t 23) (.c (.bool true)) (.t 26)),(some 28, .mv (.t 27))]⟩,⟨some (28,false),[(some 29, .fldA (.t 1) 4 5),(some 30, .ld (.t 29) 1 false),(some 31, .bin .eql (.t 30) (.c (.string ⟨#[46,46]⟩)))]⟩,⟨none,[(some 32, .pick (.t 28) (.c (.bool true)) (.t 31)),(some 33, .mv (.t 32))]⟩,⟨some (33,false),[(some 34, .fldA (.t 1) 4 5),(some 35, .ld (.t 34) 1 false),(some 36, .call 128 [(.t 35),(.c (.string ⟨#[47]⟩))])]⟩,⟨none,[(some 37, .pick (.t 33) (.c (.bool true)) (.t 36)),(some 38, .mv (.t 37))]⟩,⟨some (38,false),[(some 39, .fldA (.t 1) 5 6),(some 40, .ld (.t 39) 1 false),(some 41, .bin .neq (.t 40) (.c (.string ⟨#[]⟩)))]⟩,⟨none,[(some 42, .pick (.t 38) (.c (.bool true)) (.t 41)),(some 43, .mv (.t 42))]⟩,⟨some (43,false),[(some 44, .fldA (.t 1) 6 7),(some 45, .ld (.t 44) 1 false),(some 46, .bin .neq (.t 45) (.c (.string ⟨#[]⟩)))]⟩,⟨none,[(some 47, .pick (.t 43) (.c (.bool true)) (.t 46)),(some 19, .mv (.t 47))]⟩] [19])
 (.ite (.t 19)
 (.seq (.rg [⟨none,[(some 2, .mv (.c (.int .i64 1)))]⟩] [2])
 .ret)
 .skip)))))))
 (.seq (.rg [⟨none,[(some 2, .mv (.c (.int .i64 0)))]⟩] [2])
 .ret)))
theorem zqZ:Ok Tryz.prog 86 zkP 48 [] [.tmp 2]:=Ok.mk' Tryz.func86 (by kernel_rfl) (by kernel_rfl) (by kernel_rfl)
abbrev zoT:Nat:=52
def ziJ:Cd:=
 (.seq (.rg [⟨none,[(some 1, .box 26 (.t 0)),(some 2, .mv (.c (.int .i64 0)))]⟩] [1])
 (.seq (.seq (.rgq [⟨none,[(some 4, .fldA (.t 1) 0 0),(some 5, .ld (.t 4) 2 true),(some 6, .call 84 [(.t 5)]),(some 7, .un .not (.t 6)),(some 8, .mv (.t 7))]⟩,⟨some (8,false),[(some 9, .fldA (.t 1) 1 2),(some 10, .ld (.t 9) 1 false),(some 11, .bin .lss (.t 10) (.c (.int .i64 1)))]⟩,⟨none,[(some 12, .pick (.t 8) (.c (.bool true)) (.t 11)),(some 13, .mv (.t 12))]⟩,⟨some (13,false),[(some 14, .fldA (.t 1) 1 2),(some 15, .ld (.t 14) 1 false),(some 16, .bin .gtr (.t 15) (.c (.int .i64 3)))]⟩,⟨none,[(some 17, .pick (.t 13) (.c (.bool true)) (.t 16)),(some 18, .mv (.t 17))]⟩,⟨some (18,false),[(some 19, .fldA (.t 1) 1 2),(some 20, .ld (.t 19) 1 false),(some 21, .bin .eql (.t 20) (.c (.int .i64 1))),(some 22, .mv (.t 21))]⟩,⟨some (22,true),[(some 23, .fldA (.t 1) 2 3),(some 24, .ld (.t 23) 1 false),(some 25, .fldA (.t 1) 0 0),(some 26, .ld (.t 25) 2 true),(some 27, .call 85 [(.t 26)])]⟩] [⟨some (22,true),[(some 28, .bin .neq (.t 24) (.t 27))]⟩,⟨some (18,false),[(some 29, .pick (.t 22) (.t 28) (.c (.bool false)))]⟩,⟨none,[(some 30, .pick (.t 18) (.c (.bool true)) (.t 29))]⟩] [1,30])
 (.ite (.t 30)
 (.seq (.rg [⟨none,[(some 2, .mv (.c (.int .i64 1)))]⟩] [2])
 .ret)
 .skip))
 (.seq (.seq (.rg [⟨none,[(some 31, .fldA (.t 1) 1 2),(some 32, .ld (.t 31) 1 false),(some 33, .bin .neq (.t 32) (.c (.int .i64 3)))]⟩] [1,33])
 (.ite (.t 33)
 (.seq (.rg [⟨none,[(some 34, .ld (.t 1) 8 true),(some 35, .call 86 [(.t 34)]),(some 3, .mv (.t 35))]⟩] [1,3])
 (.seq (.rg [⟨none,[(some 36, .mv (.t 3)),(some 37, .bin .neq (.t 36) (.c (.int .i64 0)))]⟩] [1,3,37])
 (.ite (.t 37)
 (.seq (.rg [⟨none,[(some 38, .mv (.t 3)),(some 2, .mv (.t 38))]⟩] [2])
 .ret)
 .skip)))
 .skip))
 (.seq (.seq (.rg [⟨none,[(some 39, .fldA (.t 1) 1 2),(some 40, .ld (.t 39) 1 false)]⟩] [1,40])
 (.block 0 (.seq (.rg [⟨none,[(some 42, .bin .eql (.t 40) (.c (.int .i64 2))),(some 41, .mv (.t 42))]⟩] [1,40,41])
 (.ite (.t 41)
 (.seq (.rg [⟨none,[(some 43, .fldA (.t 1) 2 3),(some 44, .ld (.t 43) 1 false),(some 45, .call 87 [(.t 44)]),(some 46, .un .not (.t 45))]⟩] [46])
 (.ite (.t 46)
 (.seq (.rg [⟨none,[(some 2, .mv (.c (.int .i64 1)))]⟩] [2])
 .ret)
 .skip))
 (.seq (.rg [⟨none,[(some 48, .bin .eql (.t 40) (.c (.int .i64 3))),(some 47, .mv (.t 48))]⟩] [1,47])
 (.ite (.t 47)
 (.block 1 (.seq (.rg [⟨none,[(some 50, .fldA (.t 1) 2 3),(some 51, .ld (.t 50) 1 false),(some 52, .call 87 [(.t 51)]),(some 53, .un .not (.t 52)),(some 54, .mv (.t 53))]⟩,⟨some (54,true),[(some 55, .fldA (.t 1) 2 3),(some 56, .ld (.t 55) 1 false),(some 57, .call 88 [(.t 56)]),(some 58, .un .not (.t 57))]⟩,⟨none,[(some 59, .pick (.t 54) (.t 58) (.c (.bool false))),(some 49, .mv (.t 59))]⟩] [1,49])
 (.ite (.t 49)
 (.seq (.rg [⟨none,[(some 2, .mv (.c (.int .i64 1)))]⟩] [2])
 .ret)
 (.seq (.rg [⟨none,[(some 61, .fldA (.t 1) 5 6),(some 62, .ld (.t 61) 1 false),(some 63, .lenS (.t 62)),(some 64, .bin .gtr (.t 63) (.c (.int .i64 255))),(some 65, .mv (.t 64))]⟩,⟨some (65,false),[(some 66, .fldA (.t 1) 6 7),(some 67, .ld (.t 66) 1 false),(some 68, .lenS (.t 67)),(some 69, .bin .gtr (.t 68) (.c (.int .i64 255)))]⟩,⟨none,[(some 70, .pick (.t 65) (.c (.bool true)) (.t 69)),(some 60, .mv (.t 70))]⟩] [1,60])
 (.ite (.t 60)
 (.seq (.rg [⟨none,[(some 2, .mv (.c (.int .i64 3)))]⟩] [2])
 .ret)
 (.seq (.rg [⟨none,[(some 72, .fldA (.t 1) 5 6),(some 73, .ld (.t 72) 1 false),(some 74, .bin .eql (.t 73) (.c (.string ⟨#[]⟩))),(some 75, .mv (.t 74))]⟩,⟨some (75,false),[(some 76, .fldA (.t 1) 3 4),(some 77, .ld (.t 76) 1 false),(some 78, .bin .neq (.t 77) (.c (.int .i64 0)))]⟩,⟨none,[(some 79, .pick (.t 75) (.c (.bool true)) (.t 78)),(some 80, .mv (.t 79))]⟩,⟨some (80,false),[(some 81, .fldA (.t 1) 4 5),(some 82, .ld (.t 81) 1 false),(some 83, .bin .neq (.t 82) (.c (.string ⟨#[]⟩)))]⟩,⟨none,[(some 84, .pick (.t 80) (.c (.bool true)) (.t 83)),(some 71, .mv (.t 84))]⟩] [71])
 (.ite (.t 71)
 (.seq (.rg [⟨none,[(some 2, .mv (.c (.int .i64 1)))]⟩] [2])
 .ret)
 .skip)))))))
 .skip))))))
 (.seq (.rg [⟨none,[(some 2, .mv (.c (.int .i64 0)))]⟩] [2])
 .ret)))))
theorem zoL:Ok Tryz.prog 52 ziJ 85 [(1,24)] [.tmp 2]:=Ok.mk' Tryz.func52 (by kernel_rfl) (by kernel_rfl) (by kernel_rfl)
abbrev zrb:Nat:=47
def zkB:Cd:=
 (.seq (.rg [⟨none,[(some 1, .box 24 (.t 0)),(some 2, .mv (.c (.bool false)))]⟩] [1])
 (.seq (.rg [⟨none,[(some 3, .fldA (.t 1) 0 0),(some 4, .ld (.t 3) 1 false),(some 5, .bin .geq (.t 4) (.c (.int .i64 1))),(some 6, .mv (.t 5))]⟩,⟨some (6,true),[(some 7, .fldA (.t 1) 0 0),(some 8, .ld (.t 7) 1 false),(some 9, .bin .leq (.t 8) (.c (.int .i64 1099511627776)))]⟩,⟨none,[(some 10, .pick (.t 6) (.t 9) (.c (.bool false))),(some 11, .mv (.t 10))]⟩,⟨some (11,true),[(some 12, .fldA (.t 1) 1 1),(some 13, .ld (.t 12) 1 false),(some 14, .call 81 [(.t 13)])]⟩,⟨none,[(some 15, .pick (.t 11) (.t 14) (.c (.bool false))),(some 2, .mv (.t 15))]⟩] [2])
 .ret))
theorem zqM:Ok Tryz.prog 47 zkB 16 [] [.tmp 2]:=Ok.mk' Tryz.func47 (by kernel_rfl) (by kernel_rfl) (by kernel_rfl)
abbrev zsQ:Nat:=81
def zmd:Cd:=
 (.seq (.rg [⟨none,[(some 2, .mv (.c (.bool false)))]⟩] [0])
 (.seq (.rg [⟨none,[(some 3, .mv (.t 0)),(some 4, .bin .geq (.t 3) (.c (.int .i64 0))),(some 5, .mv (.t 4))]⟩,⟨some (5,true),[(some 6, .mv (.t 0)),(some 7, .bin .lss (.t 6) (.c (.int .i64 8)))]⟩,⟨none,[(some 8, .pick (.t 5) (.t 7) (.c (.bool false))),(some 2, .mv (.t 8))]⟩] [2])
 .ret))
theorem zto:Ok Tryz.prog 81 zmd 9 [] [.tmp 2]:=Ok.mk' Tryz.func81 (by kernel_rfl) (by kernel_rfl) (by kernel_rfl)
abbrev zsV:Nat:=48
def zlM:Cd:=
 (.seq (.rg [⟨none,[(some 1, .box 24 (.t 0)),(some 2, .mv (.c (.int .i64 0)))]⟩] [1])
 (.seq (.seq (.rg [⟨none,[(some 3, .ld (.t 1) 2 true),(some 4, .call 47 [(.t 3)]),(some 5, .un .not (.t 4))]⟩] [1,5])
 (.ite (.t 5)
 (.seq (.rg [⟨none,[(some 2, .mv (.c (.int .i64 0)))]⟩] [2])
 .ret)
 .skip))
 (.seq (.rg [⟨none,[(some 6, .fldA (.t 1) 0 0),(some 7, .ld (.t 6) 1 false),(some 8, .bin .mul (.t 7) (.c (.int .i64 8))),(some 9, .bin .add (.c (.int .i64 16)) (.t 8)),(some 10, .fldA (.t 1) 1 1),(some 11, .ld (.t 10) 1 false),(some 12, .bin .add (.t 9) (.t 11)),(some 2, .mv (.t 12))]⟩] [2])
 .ret)))
theorem zsz:Ok Tryz.prog 48 zlM 13 [] [.tmp 2]:=Ok.mk' Tryz.func48 (by kernel_rfl) (by kernel_rfl) (by kernel_rfl)
abbrev zvP:Nat:=83
def zqb:Cd:=
 (.seq (.rg [⟨none,[(some 2, .new 24 (.c (.s (.int .i64 0)) (.c (.s (.int .i64 0)) .u))),(some 3, .mv (.c (.bool false)))]⟩] [0,2])
 (.seq (.seq (.rg [⟨none,[(some 6, .mv (.t 0)),(some 7, .bin .lss (.t 6) (.c (.int .i64 16)))]⟩] [0,2,7])
 (.ite (.t 7)
 (.seq (.rg [⟨none,[(some 8, .bld (.c (.s (.int .i64 0)) (.c (.s (.int .i64 0)) .u)) []),(none, .st (.t 2) (.t 8) 2),(some 3, .mv (.c (.bool false)))]⟩] [2,3])
 .ret)
 .skip))
 (.seq (.rg [⟨none,[(some 9, .mv (.t 0)),(some 10, .bin .sub (.t 9) (.c (.int .i64 16))),(some 4, .mv (.t 10))]⟩] [2,4])
 (.seq (.rg [⟨none,[(some 11, .mv (.t 4)),(some 12, .bin .quo (.t 11) (.c (.int .i64 8))),(some 13, .mv (.t 4)),(some 14, .bin .rem (.t 13) (.c (.int .i64 8))),(some 15, .bld (.c (.s (.int .i64 0)) (.c (.s (.int .i64 0)) .u)) [(0,(.t 12)),(1,(.t 14))]),(some 5, .new 24 (.c (.s (.int .i64 0)) (.c (.s (.int .i64 0)) .u))),(none, .st (.t 5) (.t 15) 2)]⟩] [2,5])
 (.seq (.seq (.rg [⟨none,[(some 16, .ld (.t 5) 2 true),(some 17, .call 47 [(.t 16)]),(some 18, .un .not (.t 17))]⟩] [2,5,18])
 (.ite (.t 18)
 (.seq (.rg [⟨none,[(some 19, .bld (.c (.s (.int .i64 0)) (.c (.s (.int .i64 0)) .u)) []),(none, .st (.t 2) (.t 19) 2),(some 3, .mv (.c (.bool false)))]⟩] [2,3])
 .ret)
 .skip))
 (.seq (.rg [⟨none,[(some 20, .ld (.t 5) 2 true),(none, .st (.t 2) (.t 20) 2),(some 3, .mv (.c (.bool true)))]⟩] [2,3])
 .ret))))))
theorem zvL:Ok Tryz.prog 83 zqb 21 [] [.cell 2 2 true, .tmp 3]:=Ok.mk' Tryz.func83 (by kernel_rfl) (by kernel_rfl) (by kernel_rfl)
abbrev zsW:Nat:=50
def zmb:Cd:=
 (.seq (.rg [⟨none,[(some 2, .mv (.c (.bool false)))]⟩] [0])
 (.seq (.rg [⟨none,[(some 6, .mv (.t 0)),(some 7, .call 83 [(.t 6)]),(some 5, .mv (.t 7)),(some 8, .ext (.t 5) 0),(some 9, .ext (.t 5) 1),(some 3, .new 24 (.c (.s (.int .i64 0)) (.c (.s (.int .i64 0)) .u))),(none, .st (.t 3) (.t 8) 2),(some 4, .mv (.t 9))]⟩] [4])
 (.seq (.rg [⟨none,[(some 10, .mv (.t 4)),(some 2, .mv (.t 10))]⟩] [2])
 .ret)))
theorem zsX:Ok Tryz.prog 50 zmb 11 [] [.tmp 2]:=Ok.mk' Tryz.func50 (by kernel_rfl) (by kernel_rfl) (by kernel_rfl)
abbrev zuH:Nat:=51
def zou:Cd:=
 (.seq (.rg [⟨none,[(some 2, .mv (.c (.bool false)))]⟩] [0])
 (.seq (.rg [⟨none,[(some 3, .mv (.t 0)),(some 4, .bin .eql (.t 3) (.c (.int .i64 1))),(some 5, .mv (.t 4))]⟩,⟨some (5,false),[(some 6, .mv (.t 0)),(some 7, .bin .eql (.t 6) (.c (.int .i64 2)))]⟩,⟨none,[(some 8, .pick (.t 5) (.c (.bool true)) (.t 7)),(some 2, .mv (.t 8))]⟩] [2])
 .ret))
theorem zuG:Ok Tryz.prog 51 zou 9 [] [.tmp 2]:=Ok.mk' Tryz.func51 (by kernel_rfl) (by kernel_rfl) (by kernel_rfl)
abbrev zmB:Nat:=82
def ziF:Cd:=
 (.seq (.seq (.rg [⟨none,[(some 17, .mv (.t 3)),(some 18, .mv (.t 0)),(some 19, .lenS (.t 18)),(some 20, .bin .lss (.t 17) (.t 19))]⟩] [0,3,20])
 (.ite (.t 20)
 .skip
 (.exit 0)))
 (.seq (.block 1 (.seq (.rg [⟨none,[(some 23, .mv (.t 0)),(some 24, .mv (.t 3)),(some 25, .strI (.t 23) (.t 24)),(some 26, .bin .eql (.t 25) (.c (.int .u8 47)))]⟩] [0,3,26])
 (.ite (.t 26)
 (.seq (.rg [⟨none,[(some 2, .mv (.c (.int .i64 1)))]⟩] [2])
 .ret)
 .skip)))
 (.rg [⟨none,[(some 21, .mv (.t 3)),(some 22, .bin .add (.t 21) (.c (.int .i64 1))),(some 3, .mv (.t 22))]⟩] [0,3])))
def zlT:Cd:=
 (.seq (.rg [⟨none,[(some 2, .mv (.c (.int .i64 0)))]⟩] [0])
 (.seq (.seq (.rg [⟨none,[(some 4, .mv (.t 0)),(some 5, .lenS (.t 4)),(some 6, .bin .gtr (.t 5) (.c (.int .i64 255)))]⟩] [0,6])
 (.ite (.t 6)
 (.seq (.rg [⟨none,[(some 2, .mv (.c (.int .i64 3)))]⟩] [2])
 .ret)
 .skip))
 (.seq (.seq (.rg [⟨none,[(some 7, .mv (.t 0)),(some 8, .bin .eql (.t 7) (.c (.string ⟨#[]⟩))),(some 9, .mv (.t 8))]⟩,⟨some (9,false),[(some 10, .mv (.t 0)),(some 11, .bin .eql (.t 10) (.c (.string ⟨#[46]⟩)))]⟩,⟨none,[(some 12, .pick (.t 9) (.c (.bool true)) (.t 11)),(some 13, .mv (.t 12))]⟩,⟨some (13,false),[(some 14, .mv (.t 0)),(some 15, .bin .eql (.t 14) (.c (.string ⟨#[46,46]⟩)))]⟩,⟨none,[(some 16, .pick (.t 13) (.c (.bool true)) (.t 15))]⟩] [0,16])
 (.ite (.t 16)
 (.seq (.rg [⟨none,[(some 2, .mv (.c (.int .i64 1)))]⟩] [2])
 .ret)
 .skip))
 (.seq (.seq (.rg [⟨none,[(some 3, .mv (.c (.int .i64 0)))]⟩] [0,3])
 (.block 0 (.loop ziF)))
 (.seq (.rg [⟨none,[(some 2, .mv (.c (.int .i64 0)))]⟩] [2])
 .ret)))))
theorem ztv:Ok Tryz.prog 82 zlT 27 [] [.tmp 2]:=Ok.mk' Tryz.func82 (by kernel_rfl) (by kernel_rfl) (by kernel_rfl)
abbrev zqS:Nat:=49
def zkL:Cd:=
 (.seq (.rg [⟨none,[(some 1, .box 26 (.t 0)),(some 2, .mv (.c (.int .i64 0)))]⟩] [1])
 (.seq (.seq (.rg [⟨none,[(some 4, .fldA (.t 1) 3 4),(some 5, .ld (.t 4) 1 false),(some 6, .call 51 [(.t 5)]),(some 7, .un .not (.t 6)),(some 8, .mv (.t 7))]⟩,⟨some (8,true),[(some 9, .fldA (.t 1) 3 4),(some 10, .ld (.t 9) 1 false),(some 11, .call 50 [(.t 10)]),(some 12, .un .not (.t 11))]⟩,⟨none,[(some 13, .pick (.t 8) (.t 12) (.c (.bool false)))]⟩] [1,13])
 (.ite (.t 13)
 (.seq (.rg [⟨none,[(some 2, .mv (.c (.int .i64 1)))]⟩] [2])
 .ret)
 .skip))
 (.seq (.seq (.rg [⟨none,[(some 14, .fldA (.t 1) 4 5),(some 15, .ld (.t 14) 1 false),(some 16, .call 82 [(.t 15)]),(some 3, .mv (.t 16))]⟩] [1,3])
 (.seq (.rg [⟨none,[(some 17, .mv (.t 3)),(some 18, .bin .neq (.t 17) (.c (.int .i64 0)))]⟩] [1,3,18])
 (.ite (.t 18)
 (.seq (.rg [⟨none,[(some 19, .mv (.t 3)),(some 2, .mv (.t 19))]⟩] [2])
 .ret)
 .skip)))
 (.seq (.seq (.rg [⟨none,[(some 20, .fldA (.t 1) 5 6),(some 21, .ld (.t 20) 1 false),(some 22, .bin .neq (.t 21) (.c (.string ⟨#[]⟩))),(some 23, .mv (.t 22))]⟩,⟨some (23,false),[(some 24, .fldA (.t 1) 6 7),(some 25, .ld (.t 24) 1 false),(some 26, .bin .neq (.t 25) (.c (.string ⟨#[]⟩)))]⟩,⟨none,[(some 27, .pick (.t 23) (.c (.bool true)) (.t 26))]⟩] [27])
 (.ite (.t 27)
 (.seq (.rg [⟨none,[(some 2, .mv (.c (.int .i64 1)))]⟩] [2])
 .ret)
 .skip))
 (.seq (.rg [⟨none,[(some 2, .mv (.c (.int .i64 0)))]⟩] [2])
 .ret)))))
theorem zra:Ok Tryz.prog 49 zkL 28 [] [.tmp 2]:=Ok.mk' Tryz.func49 (by kernel_rfl) (by kernel_rfl) (by kernel_rfl)
abbrev zoX:Nat:=16
def ziU:Cd:=
 (.seq (.rg [⟨none,[(some 1, .box 26 (.t 0)),(some 2, .mv (.c (.int .i64 0)))]⟩] [1])
 (.seq (.seq (.rg [⟨none,[(some 4, .fldA (.t 1) 0 0),(some 5, .ld (.t 4) 2 true),(some 6, .call 47 [(.t 5)]),(some 7, .un .not (.t 6)),(some 8, .mv (.t 7))]⟩,⟨some (8,false),[(some 9, .fldA (.t 1) 1 2),(some 10, .ld (.t 9) 1 false),(some 11, .bin .lss (.t 10) (.c (.int .i64 1)))]⟩,⟨none,[(some 12, .pick (.t 8) (.c (.bool true)) (.t 11)),(some 13, .mv (.t 12))]⟩,⟨some (13,false),[(some 14, .fldA (.t 1) 1 2),(some 15, .ld (.t 14) 1 false),(some 16, .bin .gtr (.t 15) (.c (.int .i64 3)))]⟩,⟨none,[(some 17, .pick (.t 13) (.c (.bool true)) (.t 16))]⟩] [1,17])
 (.ite (.t 17)
 (.seq (.rg [⟨none,[(some 2, .mv (.c (.int .i64 1)))]⟩] [2])
 .ret)
 .skip))
 (.seq (.seq (.rgq [⟨none,[(some 18, .fldA (.t 1) 1 2),(some 19, .ld (.t 18) 1 false),(some 20, .bin .eql (.t 19) (.c (.int .i64 1))),(some 21, .mv (.t 20))]⟩,⟨some (21,true),[(some 22, .fldA (.t 1) 2 3),(some 23, .ld (.t 22) 1 false),(some 24, .fldA (.t 1) 0 0),(some 25, .ld (.t 24) 2 true),(some 26, .call 48 [(.t 25)])]⟩] [⟨some (21,true),[(some 27, .bin .neq (.t 23) (.t 26))]⟩,⟨none,[(some 28, .pick (.t 21) (.t 27) (.c (.bool false)))]⟩] [1,28])
 (.ite (.t 28)
 (.seq (.rg [⟨none,[(some 2, .mv (.c (.int .i64 1)))]⟩] [2])
 .ret)
 .skip))
 (.seq (.seq (.rg [⟨none,[(some 29, .fldA (.t 1) 1 2),(some 30, .ld (.t 29) 1 false),(some 31, .bin .neq (.t 30) (.c (.int .i64 3)))]⟩] [1,31])
 (.ite (.t 31)
 (.seq (.rg [⟨none,[(some 32, .ld (.t 1) 8 true),(some 33, .call 49 [(.t 32)]),(some 3, .mv (.t 33))]⟩] [1,3])
 (.seq (.rg [⟨none,[(some 34, .mv (.t 3)),(some 35, .bin .neq (.t 34) (.c (.int .i64 0)))]⟩] [1,3,35])
 (.ite (.t 35)
 (.seq (.rg [⟨none,[(some 36, .mv (.t 3)),(some 2, .mv (.t 36))]⟩] [2])
 .ret)
 .skip)))
 .skip))
 (.seq (.seq (.rg [⟨none,[(some 37, .fldA (.t 1) 1 2),(some 38, .ld (.t 37) 1 false),(some 39, .bin .eql (.t 38) (.c (.int .i64 2))),(some 40, .mv (.t 39))]⟩,⟨some (40,true),[(some 41, .fldA (.t 1) 2 3),(some 42, .ld (.t 41) 1 false),(some 43, .call 50 [(.t 42)]),(some 44, .un .not (.t 43))]⟩,⟨none,[(some 45, .pick (.t 40) (.t 44) (.c (.bool false))),(some 46, .mv (.t 45))]⟩,⟨some (46,false),[(some 47, .fldA (.t 1) 1 2),(some 48, .ld (.t 47) 1 false),(some 49, .bin .eql (.t 48) (.c (.int .i64 3))),(some 50, .mv (.t 49))]⟩,⟨some (50,true),[(some 51, .fldA (.t 1) 2 3),(some 52, .ld (.t 51) 1 false),(some 53, .call 50 [(.t 52)]),(some 54, .un .not (.t 53))]⟩,⟨some (46,false),[(some 55, .pick (.t 50) (.t 54) (.c (.bool false))),(some 56, .mv (.t 55))]⟩,⟨some (56,true),[(some 57, .fldA (.t 1) 2 3),(some 58, .ld (.t 57) 1 false),(some 59, .call 51 [(.t 58)]),(some 60, .un .not (.t 59))]⟩,⟨some (46,false),[(some 61, .pick (.t 56) (.t 60) (.c (.bool false)))]⟩,⟨none,[(some 62, .pick (.t 46) (.c (.bool true)) (.t 61))]⟩] [1,62])
 (.ite (.t 62)
 (.seq (.rg [⟨none,[(some 2, .mv (.c (.int .i64 1)))]⟩] [2])
 .ret)
 .skip))
 (.seq (.seq (.rg [⟨none,[(some 63, .fldA (.t 1) 1 2),(some 64, .ld (.t 63) 1 false),(some 65, .bin .neq (.t 64) (.c (.int .i64 3)))]⟩] [1,65])
 (.ite (.t 65)
 (.seq (.rg [⟨none,[(some 2, .mv (.c (.int .i64 0)))]⟩] [2])
 .ret)
 .skip))
 (.seq (.seq (.rg [⟨none,[(some 66, .fldA (.t 1) 5 6),(some 67, .ld (.t 66) 1 false),(some 68, .lenS (.t 67)),(some 69, .bin .gtr (.t 68) (.c (.int .i64 255))),(some 70, .mv (.t 69))]⟩,⟨some (70,false),[(some 71, .fldA (.t 1) 6 7),(some 72, .ld (.t 71) 1 false),(some 73, .lenS (.t 72)),(some 74, .bin .gtr (.t 73) (.c (.int .i64 255)))]⟩,⟨none,[(some 75, .pick (.t 70) (.c (.bool true)) (.t 74))]⟩] [1,75])
 (.ite (.t 75)
 (.seq (.rg [⟨none,[(some 2, .mv (.c (.int .i64 3)))]⟩] [2])
 .ret)
 .skip))
 (.seq (.seq (.rg [⟨none,[(some 76, .fldA (.t 1) 5 6),(some 77, .ld (.t 76) 1 false),(some 78, .bin .eql (.t 77) (.c (.string ⟨#[]⟩))),(some 79, .mv (.t 78))]⟩,⟨some (79,false),[(some 80, .fldA (.t 1) 3 4),(some 81, .ld (.t 80) 1 false),(some 82, .bin .neq (.t 81) (.c (.int .i64 0)))]⟩,⟨none,[(some 83, .pick (.t 79) (.c (.bool true)) (.t 82)),(some 84, .mv (.t 83))]⟩,⟨some (84,false),[(some 85, .fldA (.t 1) 4 5),(some 86, .ld (.t 85) 1 false),(some 87, .bin .neq (.t 86) (.c (.string ⟨#[]⟩)))]⟩,⟨none,[(some 88, .pick (.t 84) (.c (.bool true)) (.t 87))]⟩] [88])
 (.ite (.t 88)
 (.seq (.rg [⟨none,[(some 2, .mv (.c (.int .i64 1)))]⟩] [2])
 .ret)
 .skip))
 (.seq (.rg [⟨none,[(some 2, .mv (.c (.int .i64 0)))]⟩] [2])
 .ret)))))))))
theorem zoW:Ok Tryz.prog 16 ziU 89 [(3,9)] [.tmp 2]:=Ok.mk' Tryz.func16 (by kernel_rfl) (by kernel_rfl) (by kernel_rfl)
abbrev zoz:Nat:=15
def ziO:Cd:=
 (.seq (.rg [⟨none,[(some 2, .box 24 (.t 0)),(some 3, .box 24 (.t 1)),(some 4, .mv (.c (.int .i64 0)))]⟩] [2,3])
 (.seq (.block 0 (.seq (.rg [⟨none,[(some 6, .ld (.t 2) 2 true),(some 7, .ld (.t 3) 2 true),(some 8, .eqA false 24 (.t 6) (.t 7)),(some 5, .mv (.t 8))]⟩] [2,3,5])
 (.ite (.t 5)
 (.seq (.rg [⟨none,[(some 4, .mv (.c (.int .i64 0)))]⟩] [4])
 .ret)
 (.seq (.rg [⟨none,[(some 10, .fldA (.t 2) 0 0),(some 11, .ld (.t 10) 1 false),(some 12, .fldA (.t 3) 0 0),(some 13, .ld (.t 12) 1 false),(some 14, .bin .lss (.t 11) (.t 13)),(some 15, .mv (.t 14))]⟩,⟨some (15,false),[(some 16, .fldA (.t 2) 0 0),(some 17, .ld (.t 16) 1 false),(some 18, .fldA (.t 3) 0 0),(some 19, .ld (.t 18) 1 false),(some 20, .bin .eql (.t 17) (.t 19)),(some 21, .mv (.t 20))]⟩,⟨some (21,true),[(some 22, .fldA (.t 2) 1 1),(some 23, .ld (.t 22) 1 false),(some 24, .fldA (.t 3) 1 1),(some 25, .ld (.t 24) 1 false),(some 26, .bin .lss (.t 23) (.t 25))]⟩,⟨some (15,false),[(some 27, .pick (.t 21) (.t 26) (.c (.bool false)))]⟩,⟨none,[(some 28, .pick (.t 15) (.c (.bool true)) (.t 27)),(some 9, .mv (.t 28))]⟩] [9])
 (.ite (.t 9)
 (.seq (.rg [⟨none,[(some 4, .mv (.c (.int .i64 (-1))))]⟩] [4])
 .ret)
 .skip)))))
 (.seq (.rg [⟨none,[(some 4, .mv (.c (.int .i64 1)))]⟩] [4])
 .ret)))
theorem zoy:Ok Tryz.prog 15 ziO 29 [] [.tmp 4]:=Ok.mk' Tryz.func15 (by kernel_rfl) (by kernel_rfl) (by kernel_rfl)
end Go.Proofs.YtmjiojflncffeaaGreat.Vc

