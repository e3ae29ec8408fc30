/- Part 4 of what a law of this seat rests on. -/
import Derived.Lib.SlKeysI
import Derived.ChangeSame
import Derived.JoinedOf
import Derived.JoinedAt
import Derived.JoinedStill
import Derived.WideKeyArgs
import Derived.OpenShut
import Derived.Deep.Slices
import Derived.SizedLaws
import Derived.HandedShaped
import Derived.Test.YtmjiojflncffeaaGreatRows
import Derived.Deep.DeepHandedRow
import Derived.LaidLaws
import Derived.Test.YtmjiojflncffeaaGreatProg
import Derived.Test.YtmjiojflncffeaaGreatZOa73
set_option linter.unusedVariables false
set_option linter.unusedSimpArgs false
namespace Go.Proofs.YtmjiojflncffeaaGreat.Vc
open Go
theorem ztW (y:ByteArray):∀(l:List (ByteArray×ByteArray)) (k j:ByteArray),zbv (zes l k y) j=if j=k then some y else zbv l j
 |[],k,j=>by
  by_cases h:k=j
  ·subst h;simp [zbv,zes]
  ·simp [zbv,zes,h,Ne.symm h]
 |(a,b)::l,k,j=>by
  by_cases h1:a=k
  ·subst h1
   by_cases h2:a=j
   ·subst h2;simp [zbv,zes]
   ·simp [zbv,zes,h2,Ne.symm h2]
  ·by_cases h2:a=j
   ·subst h2;simp [zbv,zes,h1]
   ·simp [zbv,zes,h1,h2,ztW y l k j]
theorem zjZ {l:List (ByteArray×ByteArray)} {j:ByteArray}:zbv l j=none↔j∉l.map (·.1):=by
 induction l with
 |nil=>simp [zbv]
 |cons p l ih=>
  obtain ⟨k,x⟩:=p
  by_cases hk:k=j
  ·simp [zbv,hk]
  ·simp only [zbv,hk,if_false,List.map_cons,List.mem_cons,not_or,ih]
   exact ⟨fun h=>⟨fun e=>hk e.symm,h⟩,fun h=>h.2⟩
theorem zzB {l:List (ByteArray×ByteArray)} (hn:(l.map (·.1)).Nodup) (k j:ByteArray):zbv (zjx l k) j=if j=k then none else zbv l j:=by
 induction l with
 |nil=>simp [zbv,zjx]
 |cons p l ih=>
  obtain ⟨a,y⟩:=p
  simp only [List.map_cons,List.nodup_cons]at hn
  by_cases h1:a=k
  ·subst h1
   by_cases h2:j=a
   ·subst h2;simp only [zjx,if_true];exact zjZ.2 hn.1
   ·simp [zjx,zbv,h2,Ne.symm h2]
  ·by_cases h2:a=j
   ·subst h2;simp [zjx,zbv,h1]
   ·simp [zjx,zbv,h1,h2,ih hn.2]
theorem zki:∀(l:List (ByteArray×ByteArray)) (n:ByteArray),((zjx l n).map (·.1)).Sublist (l.map (·.1))
 |[],n=>List.Sublist.refl _
 |(k,x)::l,n=>by
  by_cases h1:k=n
  ·rw [zjx,if_pos h1];exact List.sublist_cons_self _ _
  ·rw [zjx,if_neg h1];exact (zki l n).cons_cons _
theorem zqI (y:ByteArray):∀(l:List (ByteArray×ByteArray)) (n j:ByteArray),j∈(zes l n y).map (·.1)↔j=n∨j∈l.map (·.1)
 |[],n,j=>by simp [zes]
 |(k,x)::l,n,j=>by
  by_cases h1:k=n
  ·subst h1;simp [zes]
  ·have ih:=zqI y l n j
   rw [zes,if_neg h1,List.map_cons,List.mem_cons,ih,List.map_cons,List.mem_cons]
   constructor
   ·rintro (h|h|h)
    ·exact .inr (.inl h)
    ·exact .inl h
    ·exact .inr (.inr h)
   ·rintro (h|h|h)
    ·exact .inr (.inl h)
    ·exact .inl h
    ·exact .inr (.inr h)
theorem zvf (y:ByteArray):∀(l:List (ByteArray×ByteArray)) (n:ByteArray),(l.map (·.1)).Nodup→((zes l n y).map (·.1)).Nodup
 |[],n,_=>by simp [zes]
 |(k,x)::l,n,h=>by
  rw [List.map_cons,List.nodup_cons]at h
  by_cases h1:k=n
  ·subst h1;rw [zes,if_pos rfl,List.map_cons,List.nodup_cons];exact h
  ·rw [zes,if_neg h1,List.map_cons,List.nodup_cons]
   refine ⟨fun hm=> ?_,zvf y l n h.2⟩
   rcases (zqI y l n k).1 hm with h2|h2
   ·exact h1 h2
   ·exact h.1 h2
theorem ztI (y:ByteArray):∀(l:List (ByteArray×ByteArray)) (n:ByteArray),(zes l n y).length≤l.length+1
 |[],n=>by simp [zes]
 |(k,x)::l,n=>by
  by_cases h1:k=n
  ·simp [zes,h1]
  ·have:=ztI y l n
   simp only [zes,h1,if_false,List.length_cons];omega
def empty:ByteArray:=⟨#[]⟩
structure AttrOk (l:List (ByteArray×ByteArray)):Prop where
 nod:(l.map (·.1)).Nodup
 val:∀k v,zbv l k=some v→v≠empty
 key:∀k∈l.map (·.1),k.size≤255
theorem AttrOk.nil:AttrOk []:=⟨by simp,fun k v h=>by simp [zbv]at h,by simp⟩
def zkx (l:List (ByteArray×ByteArray)) (k v:ByteArray):List (ByteArray×ByteArray):=if v=⟨#[]⟩then zjx l k else zes l k v
theorem zlI {l:List (ByteArray×ByteArray)} (h:AttrOk l) (k v j:ByteArray):zbv (zkx l k v) j=if j=k then (if v=empty then none else some v)else zbv l j:=by
 unfold zkx
 by_cases hv:v=⟨#[]⟩
 ·rw [if_pos hv,zzB h.nod,if_pos (show v=empty from hv)]
 ·rw [if_neg hv,ztW,if_neg (show ¬v=empty from hv)]
theorem AttrOk.set {l:List (ByteArray×ByteArray)} (h:AttrOk l) {k v:ByteArray} (hk:k.size≤255):AttrOk (zkx l k v):=by
 refine ⟨?_,fun j w hw=> ?_,fun j hj=> ?_⟩
 ·unfold zkx
  split
  ·exact (zki l k).nodup h.nod
  ·exact zvf v l k h.nod
 ·rw [zlI h]at hw
  split at hw
  ·split at hw
   ·cases hw
   ·rename_i hv;cases hw;exact hv
  ·exact h.val j w hw
 ·unfold zkx at hj
  split at hj
  ·exact h.key j ((zki l k).subset hj)
  ·rcases (zqI v l k j).1 hj with h1|h1
   ·subst h1;exact hk
   ·exact h.key j h1
theorem zxU (l:List (ByteArray×ByteArray)) (k v:ByteArray):(zkx l k v).length≤l.length+1:=by
 unfold zkx
 split
 ·have:=(zki l k).length_le
  simp at this;omega
 ·exact ztI v l k
structure AN where
 parent:Int
 name:ByteArray
 attr:ByteArray→Option ByteArray
def PN.view (x:PN):AN:=⟨x.parent,x.name,zbv x.attrs⟩
def PT.view (T:PT) (n:Int):Option AN:=(T.get n).map PN.view
structure PT.ok (T:PT) (k:Nat):Prop where
 nod:(T.nodes.map (·.1)).Nodup
 many:T.nodes.length≤k+2
 last0:0≤T.last
 lastk:T.last≤k
 ids:T.ids.length≤k
 keys:∀n x,T.get n=some x→(Lit.int .i64 n).wf=true
 attrs:∀n x,T.get n=some x→AttrOk x.attrs∧x.attrs.length≤k
theorem PT.ok.up {T:PT} {k k':Nat} (h:T.ok k) (hk:k≤k'):T.ok k':=
 ⟨h.nod,by have:=h.many;omega,h.last0,by have:=h.lastk;omega,by have:=h.ids;omega,h.keys,fun n x hx=>⟨(h.attrs n x hx).1,by have:=(h.attrs n x hx).2;omega⟩⟩
theorem zqf {T:PT} {n:Int} {f:PN→PN} (hf:∀x,(f x).view=x.view):(T.mod n f).view=T.view:=by
 funext j
 unfold PT.view
 rw [PT.get_mod]
 split
 ·cases T.get j<;>simp [hf]
 ·rfl
theorem zql {T:PT} {n:Int} {f:PN→PN} {k k':Nat} (h:T.ok k) (hk:k≤k') (hf:∀x,AttrOk x.attrs∧x.attrs.length≤k→AttrOk (f x).attrs∧(f x).attrs.length≤k'):(T.mod n f).ok k':=by
 have hlen:(T.mod n f).nodes.length=T.nodes.length:=by
  have:=congrArg List.length (zgD f T.nodes n)
  simpa [PT.mod]using this
 refine ⟨by rw [PT.mod,zgD];exact h.nod,by rw [hlen];have:=h.many;omega,h.last0,by have:=h.lastk;show T.last≤_;omega,by have:=h.ids;show T.ids.length≤_;omega,fun j x hx=> ?_,fun j x hx=> ?_⟩
 ·rw [PT.get_mod]at hx
  split at hx
  ·cases hg:T.get j with
   |none=>rw [hg]at hx;cases hx
   |some y=>exact h.keys j y hg
  ·exact h.keys j x hx
 ·rw [PT.get_mod]at hx
  split at hx
  ·cases hg:T.get j with
   |none=>rw [hg]at hx;cases hx
   |some y=>
    rw [hg]at hx;cases hx
    exact hf y (h.attrs j y hg)
  ·obtain ⟨h1,h2⟩:=h.attrs j x hx
   exact ⟨h1,by omega⟩
end Go.Proofs.YtmjiojflncffeaaGreat.Vc

set_option linter.unusedVariables false
set_option linter.unusedSimpArgs false
namespace Go.Proofs.YtmjiojflncffeaaGreat.Vc
open Go
def zcN (v:Int→Option AN) (n:Int) (a:Option AN):Int→Option AN:=fun j=>if j=n then a else v j
theorem zks (v:Int→Option AN) (n:Int) (a b:Option AN):zcN (zcN v n a) n b=zcN v n b:=by
 funext j;unfold zcN;split<;>rfl
theorem znE {v:Int→Option AN} {n:Int} {a:Option AN} (h:v n=a):zcN v n a=v:=by
 funext j;unfold zcN
 split
 ·rename_i e;rw [e,h]
 ·rfl
theorem PT.view_get {T:PT} {n:Int} {x:PN} (h:T.get n=some x):T.view n=some x.view:=by unfold PT.view;rw [h];rfl
theorem PT.view_none {T:PT} {n:Int}:T.view n=none↔T.get n=none:=by
 unfold PT.view;cases T.get n<;>simp
theorem zbk {T:PT} {n:Int} {a:AN} (h:T.view n=some a):∃x,T.get n=some x∧x.view=a:=by
 unfold PT.view at h
 cases hg:T.get n with
 |none=>rw [hg]at h;cases h
 |some x=>rw [hg]at h;exact ⟨x,rfl,by simpa using h⟩
theorem zpo {T:PT} {n:Int} {p:Place} {x:PN} (hx:T.get n=some x):(T.put n p).view=zcN T.view n (some ⟨p.parent,p.name,zbv x.attrs⟩):=by
 unfold PT.put
 rw [hx]
 simp only
 rw [show (((T.unkid x.parent n).place n p.parent p.name).kid p.parent n).view=((T.unkid x.parent n).place n p.parent p.name).view from zqf fun _=>rfl]
 funext j
 unfold zcN
 by_cases hj:j=n
 ·subst hj
  obtain ⟨x1,hx1,he⟩:∃x1,(T.unkid x.parent j).get j=some x1∧x1.attrs=x.attrs:=by
   rw [zrl,hx]
   split<;>exact ⟨_,rfl,rfl⟩
  have h1:((T.unkid x.parent j).place j p.parent p.name).get j=some {x1 with parent:=p.parent,name:=p.name}:=by rw [zkt,if_pos rfl,hx1];rfl
  rw [PT.view_get h1,if_pos rfl]
  simp [PN.view,he]
 ·rw [if_neg hj]
  have h1:((T.unkid x.parent n).place n p.parent p.name).get j=(T.unkid x.parent n).get j:=by rw [zkt,if_neg hj]
  have h2:(T.unkid x.parent n).view=T.view:=zqf fun _=>rfl
  rw [←h2]
  unfold PT.view
  rw [h1]
theorem zwW {T:PT} {n:Int} {p:Place} {k:Nat} (h:T.ok k):(T.put n p).ok k:=by
 unfold PT.put
 cases T.get n with
 |none=>exact h
 |some x=>exact zql (zql (zql h (Nat.le_refl _) fun x hx=>hx) (Nat.le_refl _) fun x hx=>hx) (Nat.le_refl _) fun x hx=>hx
theorem zpx (T:PT) (n:Int) (p:Place):(T.put n p).last=T.last:=by
 unfold PT.put
 cases T.get n<;>rfl
theorem zAC {T:PT} {n:Int} (hn:T.get n=none):(T.add n).view=zcN T.view n (some PN.bare.view):=by
 funext j
 unfold zcN PT.view
 rw [PT.get_add hn]
 split<;>rfl
theorem zCv {T:PT} {n:Int} {k:Nat} (h:T.ok k) (hn:T.get n=none) (hw:(Lit.int .i64 n).wf=true):(T.add n).ok (k+1):=by
 refine ⟨?_,by have:=h.many;simp [PT.add];omega,h.last0,by have:=h.lastk;show T.last≤_;omega,by have:=h.ids;show T.ids.length≤_;omega,fun j x hx=> ?_,fun j x hx=> ?_⟩
 ·show ((T.nodes++[(n,PN.bare)]).map (·.1)).Nodup
  rw [List.map_append,List.nodup_append]
  refine ⟨h.nod,by simp,fun x hx y hy=> ?_⟩
  simp only [List.map_cons,List.map_nil,List.mem_singleton]at hy
  subst hy
  exact fun e=>(zct.1 hn) (e▸hx)
 ·rw [PT.get_add hn]at hx
  split at hx
  ·rename_i e;rw [e];exact hw
  ·exact h.keys j x hx
 ·rw [PT.get_add hn]at hx
  split at hx
  ·cases hx;exact ⟨AttrOk.nil,by simp [PN.bare]⟩
  ·obtain ⟨h1,h2⟩:=h.attrs j x hx
   exact ⟨h1,by omega⟩
theorem ztm {T:PT} (hn:(T.nodes.map (·.1)).Nodup) (n j:Int):(T.del n).get j=if j=n then none else T.get j:=zut hn n j
theorem zzP {T:PT} {n:Int} (hn:(T.nodes.map (·.1)).Nodup):(T.del n).view=zcN T.view n none:=by
 funext j
 unfold zcN PT.view
 rw [ztm hn]
 split<;>rfl
theorem zCW {T:PT} {n:Int} {k:Nat} (h:T.ok k):(T.del n).ok k:=by
 have hl:(T.del n).nodes.length≤T.nodes.length:=by
  have:=congrArg List.length (zmp T.nodes n)
  have h2:=List.length_erase_le (a:=n) (l:=T.nodes.map (·.1))
  simp only [List.length_map]at this h2
  show (zky T.nodes n).length≤_
  omega
 refine ⟨by show ((zky T.nodes n).map (·.1)).Nodup;rw [zmp];exact h.nod.erase _,by have:=h.many;omega,h.last0,h.lastk,h.ids,fun j x hx=> ?_,fun j x hx=> ?_⟩
 ·rw [ztm h.nod]at hx
  split at hx
  ·cases hx
  ·exact h.keys j x hx
 ·rw [ztm h.nod]at hx
  split at hx
  ·cases hx
  ·exact h.attrs j x hx
theorem zrB {T:PT} {n:Int} {key value:ByteArray} {x:PN} (hx:T.get n=some x) (ha:AttrOk x.attrs):(T.attr n key value).view=zcN T.view n (some ⟨x.parent,x.name,fun j=>if j=key then (if value=empty then none else some value)else zbv x.attrs j⟩):=by
 funext j
 unfold zcN PT.view
 rw [PT.attr,PT.get_mod]
 split
 ·rename_i e
  rw [e,hx]
  simp only [Option.map_some,PN.view,Option.some.injEq,AN.mk.injEq,true_and]
  funext i
  exact zlI ha key value i
 ·rfl
theorem zxv {T:PT} {n:Int} {key value:ByteArray} {k:Nat} (h:T.ok k) (hk:key.size≤255):(T.attr n key value).ok (k+1):=
 zql h (by omega) fun x ⟨h1,h2⟩=>⟨h1.set (k:=key) (v:=value) hk,by have:=zxU x.attrs key value;show (zkx x.attrs key value).length≤_;omega⟩
end Go.Proofs.YtmjiojflncffeaaGreat.Vc

set_option linter.unusedVariables false
set_option linter.unusedSimpArgs false
namespace Go.Proofs.YtmjiojflncffeaaGreat.Vc
open Go
theorem zhy {T:PT} {op:Op} (h:zaL T op=true) (k:op.kind=1):T.get op.node=none∧∃x,T.get op.parent=some x:=by
 rw [zaL,if_pos k]at h
 simp only [Bool.and_eq_true,Bool.not_eq_true',PT.has]at h
 exact ⟨Option.isNone_iff_eq_none.1 (by rw [←Option.not_isSome,h.1.1.2];rfl),Option.isSome_iff_exists.1 h.1.2⟩
theorem zga {T:PT} {op:Op} (h:zaL T op=true) (k:op.kind≠1):∃x,T.get op.node=some x:=by
 rw [zaL,if_neg k]at h
 split at h
 ·simp only [Bool.and_eq_true,PT.has]at h
  exact Option.isSome_iff_exists.1 h.1.1.1.1
 ·split at h
  ·simp only [Bool.and_eq_true,PT.has]at h
   exact Option.isSome_iff_exists.1 h.1
  ·cases h
theorem zxx {T:PT} {op:Op} (h:zaL T op=true) (k:op.kind≠1) (k2:op.kind≠2):op.key.size≤255:=by
 rw [zaL,if_neg k,if_neg k2]at h
 split at h
 ·simp only [Bool.and_eq_true,zcl,decide_eq_true_eq]at h
  exact h.2.1.2
 ·cases h
theorem zpE (T:PT) (op:Op):(T.does op).ids=T.ids++[T.last+1]:=rfl
theorem zyW (T:PT) (op:Op):(T.acts op).last=T.last:=by
 unfold PT.acts
 split
 ·rw [zpx];rfl
 ·split
  ·rw [zpx]
  ·rfl
theorem zrP (T:PT) (op:Op):(T.does op).last=T.last+1:=by
 show (({T with last:=T.last+1}:PT).acts op).last=_
 rw [zyW]
theorem zed {T:PT} {op:Op} (h:zaL T op=true) (k:op.kind=1):(T.does op).view=zcN T.view op.node (some ⟨op.parent,op.name,fun _=>none⟩):=by
 have hn:=(zhy h k).1
 have h1:(({T with last:=T.last+1}:PT).add op.node).get op.node=some PN.bare:=by rw [PT.get_add (T:={T with last:=T.last+1}) hn,if_pos rfl]
 show (({T with last:=T.last+1}:PT).acts op).view=_
 rw [PT.acts,if_pos k,zpo h1,zAC (T:={T with last:=T.last+1}) hn,zks]
 rfl
theorem zen {T:PT} {op:Op} {x:PN} (hx:T.get op.node=some x) (k:op.kind=2):(T.does op).view=zcN T.view op.node (some ⟨op.parent,op.name,zbv x.attrs⟩):=by
 show (({T with last:=T.last+1}:PT).acts op).view=_
 rw [PT.acts,if_neg (by omega),if_pos k]
 exact zpo (T:={T with last:=T.last+1}) hx
theorem zec {T:PT} {op:Op} {x:PN} (hx:T.get op.node=some x) (ha:AttrOk x.attrs) (k:op.kind≠1) (k2:op.kind≠2):(T.does op).view=zcN T.view op.node (some ⟨x.parent,x.name,fun j=>if j=op.key then (if op.value=empty then none else some op.value)else zbv x.attrs j⟩):=by
 show (({T with last:=T.last+1}:PT).acts op).view=_
 rw [PT.acts,if_neg k,if_neg k2]
 exact zrB (T:={T with last:=T.last+1}) hx ha
theorem zBn {T:PT} {op:Op} {k:Nat} (h:T.ok k) (hm:zaL T op=true) (hw:(Lit.int .i64 op.node).wf=true):(T.acts op).ok (k+1):=by
 unfold PT.acts
 split
 ·rename_i k1;exact zwW (zCv h (zhy hm k1).1 hw)
 ·split
  ·exact (zwW h).up (by omega)
  ·rename_i k1 k2;exact zxv h (zxx hm k1 k2)
theorem zxy {T:PT} {op:Op} {k:Nat} (h:T.ok k) (hm:zaL T op=true) (hw:(Lit.int .i64 op.node).wf=true):(T.does op).ok (k+1):=by
 have h0:({T with last:=T.last+1}:PT).acts op={T.acts op with last:=T.last+1}:=by
  unfold PT.acts PT.put
  split
  ·show (match (T.add op.node).get op.node with|_=>_)=_
   have e:(({T with last:=T.last+1}:PT).add op.node).get op.node=(T.add op.node).get op.node:=rfl
   rw [e]
   cases (T.add op.node).get op.node<;>rfl
  ·split
   ·have e:(({T with last:=T.last+1}:PT)).get op.node=T.get op.node:=rfl
    rw [e]
    cases T.get op.node<;>rfl
   ·rfl
 obtain ⟨h1,h2,h3,h4,h5,h6,h7⟩:=zBn h hm hw
 have hl:=h.lastk
 have hl0:=h.last0
 have hi:=h.ids
 unfold PT.does
 rw [h0]
 exact ⟨h1,h2,by show 0≤T.last+1;omega,by show T.last+1≤((k+1:Nat):Int);omega,by show (T.ids++[T.last+1]).length≤_;simp;omega,h6,h7⟩
theorem zyz {T B:PT} {op:Op} {mk:Value} {k k':Nat} (hm:zaL T op=true) (hT:T.ok k) (hB:B.ok k') (hv:B.view=(T.does op).view):(B.undone (T.undo mk op)).view=T.view∧(B.undone (T.undo mk op)).ok (k'+1):=by
 have hB1:({B with ids:=B.ids.dropLast}:PT).ok k':=⟨hB.nod,hB.many,hB.last0,hB.lastk,by have:=hB.ids;simp;omega,hB.keys,hB.attrs⟩
 by_cases k1:op.kind=1
 ·obtain ⟨hn,x,hx⟩:=zhy hm k1
  have hu:T.undo mk op=⟨mk,T.last+1,op,zgQ,⟨#[]⟩⟩:=by rw [PT.undo,hn]
  have h1:(({B with ids:=B.ids.dropLast}:PT).unkid op.parent op.node).ok k':=zql hB1 (Nat.le_refl _) fun x hx=>hx
  have h2:(({B with ids:=B.ids.dropLast}:PT).unkid op.parent op.node).view=B.view:=zqf (T:={B with ids:=B.ids.dropLast}) fun _=>rfl
  rw [hu,PT.undone]
  simp only
  rw [if_pos k1]
  refine ⟨?_,(zCW h1).up (by omega)⟩
  rw [zzP h1.nod,h2,hv,zed hm k1,zks]
  exact znE (PT.view_none.2 hn)
 ·obtain ⟨x,hx⟩:=zga hm k1
  by_cases k2:op.kind=2
  ·have hu:T.undo mk op=⟨mk,T.last+1,op,⟨x.parent,x.name⟩,⟨#[]⟩⟩:=by rw [PT.undo,hx];simp only;rw [if_neg k1,if_pos k2]
   have hd:=zen hx k2
   have hbv:B.view op.node=some ⟨op.parent,op.name,zbv x.attrs⟩:=by rw [hv,hd];simp [zcN]
   obtain ⟨xb,hxb,he⟩:=zbk hbv
   rw [hu,PT.undone]
   simp only
   rw [if_neg k1,if_pos k2]
   refine ⟨?_,(zwW hB1).up (by omega)⟩
   rw [zpo (T:={B with ids:=B.ids.dropLast}) hxb]
   show zcN B.view op.node _=_
   have ha:zbv xb.attrs=zbv x.attrs:=congrArg AN.attr he
   rw [hv,hd,zks,ha]
   exact znE (PT.view_get hx)
  ·have hu:T.undo mk op=⟨mk,T.last+1,op,zgQ,(zbv x.attrs op.key).getD ⟨#[]⟩⟩:=by rw [PT.undo,hx];simp only;rw [if_neg k1,if_neg k2]
   obtain ⟨hax,_⟩:=hT.attrs _ _ hx
   have hd:=zec hx hax k1 k2
   have hbv:B.view op.node=some ⟨x.parent,x.name,fun j=>if j=op.key then (if op.value=empty then none else some op.value)else zbv x.attrs j⟩:=by rw [hv,hd];simp [zcN]
   obtain ⟨xb,hxb,he⟩:=zbk hbv
   obtain ⟨hab,_⟩:=hB.attrs _ _ hxb
   rw [hu,PT.undone]
   simp only
   rw [if_neg k1,if_neg k2]
   refine ⟨?_,zxv hB1 (zxx hm k1 k2)⟩
   rw [zrB (T:={B with ids:=B.ids.dropLast}) hxb hab]
   show zcN B.view op.node _=_
   rw [hv,hd,zks]
   refine znE ?_
   rw [PT.view_get hx]
   have e1:xb.parent=x.parent:=congrArg AN.parent he
   have e2:xb.name=x.name:=congrArg AN.name he
   have e3:zbv xb.attrs=fun j=>if j=op.key then (if op.value=empty then none else some op.value)else zbv x.attrs j:=congrArg AN.attr he
   rw [e1,e2]
   congr 1
   show AN.mk x.parent x.name (zbv x.attrs)=_
   congr 1
   funext j
   by_cases hj:j=op.key
   ·subst hj
    rw [if_pos rfl]
    cases hg:zbv x.attrs op.key with
    |none=>rfl
    |some v=>
     have:=hax.val _ _ hg
     rw [Option.getD_some,if_neg this]
   ·rw [if_neg hj,e3];simp [hj]
end Go.Proofs.YtmjiojflncffeaaGreat.Vc

set_option linter.unusedVariables false
set_option linter.unusedSimpArgs false
namespace Go.Proofs.YtmjiojflncffeaaGreat.Vc
open Go
theorem zsk {a b:List (ByteArray×ByteArray)} (ha:AttrOk a) (hb:AttrOk b) (h:zbv a=zbv b):(a.map (·.1)).Perm (b.map (·.1)):=by
 rw [List.perm_ext_iff_of_nodup ha.nod hb.nod]
 intro k
 have h1:=zjZ (l:=a) (j:=k)
 have h2:=zjZ (l:=b) (j:=k)
 rw [h]at h1
 constructor
 ·intro hk
  refine Classical.byContradiction fun hc=> ?_
  exact (h1.1 (h2.2 hc)) hk
 ·intro hk
  refine Classical.byContradiction fun hc=> ?_
  exact (h2.1 (h1.2 hc)) hk
theorem zvO {x y:PN} (hx:AttrOk x.attrs) (hy:AttrOk y.attrs) (h:zbv x.attrs=zbv y.attrs):zaR x=zaR y:=by
 have hp:=(zsk hx hy h).map fun b:ByteArray=>b.data.toList
 have hk:zbd x=zbd y:=by
  have:=mergeSort_of_perm hp
  simpa [zbd,zjS,List.map_map,Function.comp_def]using this
 rw [zaR,zaR,hk,h]
theorem zss {T T':PT} {k k':Nat} (h:T.ok k) (h':T'.ok k') (hv:T.view=T'.view):zae T=zae T'∧T.nodes.length=T'.nodes.length:=by
 have hp:(T.nodes.map (·.1)).Perm (T'.nodes.map (·.1)):=by
  rw [List.perm_ext_iff_of_nodup h.nod h'.nod]
  intro n
  have e:T.get n=none↔T'.get n=none:=by rw [←PT.view_none,←PT.view_none,hv]
  have h1:T.get n=none↔n∉T.nodes.map (·.1):=zct
  have h2:T'.get n=none↔n∉T'.nodes.map (·.1):=zct
  constructor
  ·intro hk
   refine Classical.byContradiction fun hc=> ?_
   exact (h1.1 (e.2 (h2.2 hc))) hk
  ·intro hk
   refine Classical.byContradiction fun hc=> ?_
   exact (h2.1 (e.1 (h1.2 hc))) hk
 have hk:zbz T=zbz T':=mergeSort_of_perm_i hp
 refine ⟨?_,by simpa using hp.length_eq⟩
 have hf:(fun n=>(T.get n).map fun x=>zbw n x)=fun n=>(T'.get n).map fun x=>zbw n x:=by
  funext n
  cases hg:T.get n with
  |none=>
   have:T'.get n=none:=by rw [←PT.view_none,←hv,PT.view_none];exact hg
   rw [this]
  |some x=>
   obtain ⟨y,hy,he⟩:=zbk (T:=T') (n:=n) (a:=x.view) (by rw [←hv];exact PT.view_get hg)
   rw [hy]
   simp only [Option.map_some,Option.some.injEq]
   have e1:y.parent=x.parent:=congrArg AN.parent he
   have e2:y.name=x.name:=congrArg AN.name he
   have e3:zbv y.attrs=zbv x.attrs:=congrArg AN.attr he
   rw [zbw,zbw,e1,e2,zvO (h.attrs _ _ hg).1 (h'.attrs _ _ hy).1 e3.symm]
 rw [zae,zae,hk,zhP,zhP,hf]
theorem zAK {T:PT} {k:Nat} (h:T.ok k) (hk:k≤1099511627776):T.tells:=by
 refine ⟨by have:=h.many;omega,h.keys,fun n x hx=> ?_⟩
 obtain ⟨h1,h2⟩:=h.attrs n x hx
 exact ⟨by omega,fun p hp=>by have:=h1.key p.1 (List.mem_map.2 ⟨p,hp,rfl⟩);omega⟩
theorem zoY {T:PT} {k:Nat} (h:T.ok k) (hk:k<1099511627776):T.fits:=⟨by have:=h.many;omega,h.last0,by have:=h.lastk;omega,by have:=h.ids;omega⟩
theorem T0_ok:T0.ok 0:=by
 refine ⟨by decide,by decide,by decide,by decide,by decide,fun n x hx=> ?_,fun n x hx=> ?_⟩
 ·have:n=1∨n=2:=by
   have hm:n∈T0.nodes.map (·.1):=Classical.byContradiction fun hc=>by
    have:T0.get n=none:=zct.2 hc
    rw [this]at hx;cases hx
   simpa [T0]using hm
  rcases this with rfl|rfl<;>decide
 ·have:=zgd hx
  simp only [T0,List.mem_cons,List.not_mem_nil,or_false,Prod.mk.injEq]at this
  rcases this with ⟨_,rfl⟩|⟨_,rfl⟩<;>exact ⟨AttrOk.nil,by simp [PN.bare]⟩
inductive Hist (mk:Value) (T0:PT):List Undo→PT→Prop
 |nil:Hist mk T0 [] T0
 |snoc {us:List Undo} {T:PT} {op:Op}:Hist mk T0 us T→zaL T op=true→(∃k,T.ok k)→Hist mk T0 (us++[T.undo mk op]) (T.does op)
theorem zxz (T:PT) (mk:Value) (op:Op):(T.undo mk op).ix=T.last+1:=by
 unfold PT.undo
 split
 ·rfl
 ·split
  ·rfl
  ·split<;>rfl
theorem zxW (T:PT) (mk:Value) (op:Op):(T.undo mk op).of=mk:=by
 unfold PT.undo
 split
 ·rfl
 ·split
  ·rfl
  ·split<;>rfl
theorem zBF (T:PT) (mk:Value) (op:Op):(T.undo mk op).op=op:=by
 unfold PT.undo
 split
 ·rfl
 ·split
  ·rfl
  ·split<;>rfl
theorem Hist.last {mk:Value} {T0 T:PT} {us:List Undo} {u:Undo} (h:Hist mk T0 (us++[u]) T):∃T' op,Hist mk T0 us T'∧zaL T' op=true∧(∃k,T'.ok k)∧u=T'.undo mk op∧T=T'.does op:=by
 generalize hl:us++[u]=l at h
 cases h with
 |nil=>simp at hl
 |snoc h1 h2 h3=>
  obtain ⟨rfl,e⟩:=List.append_inj' hl rfl
  simp only [List.cons.injEq,and_true]at e
  exact ⟨_,_,h1,h2,h3,e,rfl⟩
theorem Hist.none {mk:Value} {T0 T:PT} (h:Hist mk T0 [] T):T=T0:=by
 generalize hl:([]:List Undo)=l at h
 cases h with
 |nil=>rfl
 |snoc h1 h2 h3=>simp at hl
end Go.Proofs.YtmjiojflncffeaaGreat.Vc

set_option linter.unusedVariables false
set_option linter.unusedSimpArgs false
namespace Go.Proofs.YtmjiojflncffeaaGreat.Vc
open Go
theorem zuk {T T':PT} (hv:T.view=T'.view) (n:Int):T.has n=T'.has n:=by
 have e:T.get n=none↔T'.get n=none:=by rw [←PT.view_none,←PT.view_none,hv]
 unfold PT.has
 cases h:T.get n with
 |none=>rw [e.1 h]
 |some x=>
  cases h':T'.get n with
  |none=>rw [e.2 h']at h;cases h
  |some y=>rfl
theorem znV {T T':PT} (hv:T.view=T'.view):∀(f:Nat) (n a:Int),zfF T f n a=zfF T' f n a
 |0,_,_=>rfl
 |f+1,n,a=>by
  unfold zfF
  split
  ·rfl
  ·cases h:T.get n with
   |none=>
    have:T'.get n=none:=by rw [←PT.view_none,←hv,PT.view_none];exact h
    rw [this]
   |some x=>
    obtain ⟨y,hy,he⟩:=zbk (T:=T') (n:=n) (a:=x.view) (by rw [←hv];exact PT.view_get h)
    rw [hy]
    simp only
    have:y.parent=x.parent:=congrArg AN.parent he
    rw [this,znV hv f]
theorem zrk {T T':PT} (hv:T.view=T'.view) (hl:T.nodes.length=T'.nodes.length) (op:Op):zaL T op=zaL T' op:=by
 unfold zaL
 rw [zuk hv,zuk hv]
 have:T.below op.parent op.node=T'.below op.parent op.node:=by unfold PT.below;rw [hl];exact znV hv _ _ _
 rw [this]
theorem zrY {T T':PT} {op:Op} {k k':Nat} (hm:zaL T op=true) (h:T.ok k) (h':T'.ok k') (hv:T.view=T'.view):(T.does op).view=(T'.does op).view:=by
 have hm':zaL T' op=true:=by rw [←zrk hv (zss h h' hv).2];exact hm
 by_cases k1:op.kind=1
 ·rw [zed hm k1,zed hm' k1,hv]
 ·obtain ⟨x,hx⟩:=zga hm k1
  obtain ⟨y,hy,he⟩:=zbk (T:=T') (n:=op.node) (a:=x.view) (by rw [←hv];exact PT.view_get hx)
  have e1:y.parent=x.parent:=congrArg AN.parent he
  have e2:y.name=x.name:=congrArg AN.name he
  have e3:zbv y.attrs=zbv x.attrs:=congrArg AN.attr he
  by_cases k2:op.kind=2
  ·rw [zen hx k2,zen hy k2,hv,e3]
  ·rw [zec hx (h.attrs _ _ hx).1 k1 k2,zec hy (h'.attrs _ _ hy).1 k1 k2,hv,e1,e2,e3]
end Go.Proofs.YtmjiojflncffeaaGreat.Vc

set_option linter.unusedVariables false
set_option linter.unusedSimpArgs false
set_option maxRecDepth 100000
namespace Go.Proofs.YtmjiojflncffeaaGreat.Vc
open Go Go.Proofs
theorem zlD (r:Nat) (a b:Obj):(one r a).upd r b=one r b:=by
 funext j
 by_cases h:j=r
 ·subst h;simp [PH.upd,one]
 ·simp [PH.upd,one,h]
theorem zaE (r:Nat) (a:Obj):one r a r=some a:=by simp [one]
theorem zdk {α:Type} [BEq α] [LawfulBEq α]:∀{a b:List α},a.Nodup→(∀x∈a,x∈b)→a.length≤b.length
 |[],b,_,_=>by simp
 |x::a,b,hn,hs=>by
  rw [List.nodup_cons]at hn
  have hx:=hs x (by simp)
  have ih:=zdk (a:=a) (b:=b.erase x) hn.2 fun y hy=>by
   have hy':=hs y (by simp [hy])
   exact (List.mem_erase_of_ne (fun e=>by subst e;exact hn.1 hy)).2 hy'
  rw [List.length_erase_of_mem hx]at ih
  have:0<b.length:=List.length_pos_of_mem hx
  simp only [List.length_cons];omega
theorem IterM.mem {it mo:Obj} {b:Nat} {s l:List (Value×Value)} {kd:Option IntKind} (h:IterM it mo b s) (hm:zcE kd mo l):∀p∈s,p∈l:=by
 obtain ⟨es,cl,vs,rfl,rfl,h1,h2,rfl⟩:=h
 obtain ⟨es',cl',he,rfl,_,_⟩:=hm
 cases he
 intro p hp
 obtain ⟨x,hx,rfl⟩:=List.mem_map.1 hp
 exact List.mem_map.2 ⟨x,h1 x hx,rfl⟩
theorem IterM.le {it mo:Obj} {b:Nat} {s l:List (Value×Value)} {kd:Option IntKind} (h:IterM it mo b s) (hm:zcE kd mo l):s.length≤l.length:=by
 obtain ⟨es,cl,vs,rfl,rfl,h1,h2,rfl⟩:=h
 obtain ⟨es',cl',he,rfl,_,_⟩:=hm
 cases he
 rw [List.length_map,List.length_map]
 have:=zdk (a:=vs.map (·.born)) (b:=es.toList.map (·.born)) h2 fun y hy=>by
  obtain ⟨x,hx,rfl⟩:=List.mem_map.1 hy
  exact List.mem_map.2 ⟨x,h1 x hx,rfl⟩
 simpa using this
theorem zzg {a b:List Int} (h:(zfv a).Perm (zfv b)):a.Perm b:=by
 have:=h.map fun p:Value×Value=>match p.1 with| .int _ n=>n|_=>0
 simpa [zfv,List.map_map,Function.comp_def]using this
theorem zzk {p:Value×Value} {l:List Int} (h:p∈zfv l):∃c∈l,p=(.int .i64 c, .int .i64 1):=by
 obtain ⟨c,hc,rfl⟩:=List.mem_map.1 h
 exact ⟨c,hc,rfl⟩
def PT.nameIs (T:PT) (c:Int) (name:ByteArray):Prop:=∃y,T.get c=some y∧y.name=name
def LookP (T:PT) (name:ByteArray) (s:List Int) (best:Int):Prop:=
 (best=0∧∀c∈s,¬T.nameIs c name)∨(best∈s∧T.nameIs best name∧∀c∈s,T.nameIs c name→best≤c)
theorem LookP.perm {T:PT} {name:ByteArray} {s t:List Int} {best:Int} (h:LookP T name s best) (hp:s.Perm t):LookP T name t best:=by
 rcases h with ⟨h1,h2⟩|⟨h1,h2,h3⟩
 ·exact .inl ⟨h1,fun c hc=>h2 c (hp.mem_iff.2 hc)⟩
 ·exact .inr ⟨hp.mem_iff.1 h1,h2,fun c hc=>h3 c (hp.mem_iff.2 hc)⟩
theorem LookP.skip {T:PT} {name:ByteArray} {t:List Int} {best c:Int} (h:LookP T name t best) (hc:¬T.nameIs c name):LookP T name (t++[c]) best:=by
 rcases h with ⟨h1,h2⟩|⟨h1,h2,h3⟩
 ·refine .inl ⟨h1,fun d hd=> ?_⟩
  rcases List.mem_append.1 hd with h|h
  ·exact h2 d h
  ·simp only [List.mem_singleton]at h;subst h;exact hc
 ·refine .inr ⟨by simp [h1],h2,fun d hd hn=> ?_⟩
  rcases List.mem_append.1 hd with h|h
  ·exact h3 d h hn
  ·simp only [List.mem_singleton]at h;subst h;exact absurd hn hc
theorem LookP.first {T:PT} {name:ByteArray} {t:List Int} {best c:Int} (h:LookP T name t best) (h0:∀d∈t,d≠0) (hb:best=0) (hc:T.nameIs c name):LookP T name (t++[c]) c:=by
 rcases h with ⟨h1,h2⟩|⟨h1,h2,h3⟩
 ·refine .inr ⟨by simp,hc,fun d hd hn=> ?_⟩
  rcases List.mem_append.1 hd with h|h
  ·exact absurd hn (h2 d h)
  ·simp only [List.mem_singleton]at h;subst h;exact Int.le_refl _
 ·exact absurd hb (h0 _ h1)
theorem LookP.more {T:PT} {name:ByteArray} {t:List Int} {best c:Int} (h:LookP T name t best) (hb:best≠0) (hl:¬c<best):LookP T name (t++[c]) best:=by
 rcases h with ⟨h1,h2⟩|⟨h1,h2,h3⟩
 ·exact absurd h1 hb
 ·refine .inr ⟨by simp [h1],h2,fun d hd hn=> ?_⟩
  rcases List.mem_append.1 hd with h|h
  ·exact h3 d h hn
  ·simp only [List.mem_singleton]at h;subst h;omega
end Go.Proofs.YtmjiojflncffeaaGreat.Vc

set_option linter.unusedVariables false
set_option linter.unusedSimpArgs false
namespace Go.Proofs.YtmjiojflncffeaaGreat.Vc
open Go
theorem ztw (v:Int→Option AN) (n:Int) (a:AN):zcN v n (some a) n=some a:=by simp only [zcN,if_pos]
def LeadsN (v:Int→Option AN):Nat→Int→Prop
 |0,n=>zbc n=true
 |k+1,n=>zbc n=false∧∃a,v n=some a∧LeadsN v k a.parent
theorem LeadsN.uniq {v:Int→Option AN}:∀{k j:Nat} {n:Int},LeadsN v k n→LeadsN v j n→k=j
 |0,0,_,_,_=>rfl
 |0,j+1,n,h,h'=>by have:=h'.1;rw [show zbc n=true from h]at this;cases this
 |k+1,0,n,h,h'=>by have:=h.1;rw [show zbc n=true from h']at this;cases this
 |k+1,j+1,n,⟨_,a,h1,h2⟩,⟨_,a',h1',h2'⟩=>by
  rw [h1]at h1'
  cases h1'
  rw [h2.uniq h2']
theorem LeadsN.way {v:Int→Option AN}:∀{k:Nat} {n:Int},LeadsN v k n→∃l:List Int,l.length=k∧l.Nodup∧(∀m∈l,v m≠none)∧∀m∈l,∃j,j≤k∧LeadsN v j m
 |0,n,h=>⟨[],rfl,List.nodup_nil,fun m hm=>by simp at hm,fun m hm=>by simp at hm⟩
 |k+1,n,h=>by
  obtain ⟨ht,a,h1,h2⟩:=h
  obtain ⟨l,e1,e2,e3,e4⟩:=h2.way
  refine ⟨n::l,by simp [e1],List.nodup_cons.2 ⟨fun hm=> ?_,e2⟩,fun m hm=> ?_,fun m hm=> ?_⟩
  ·obtain ⟨j,hj,h3⟩:=e4 n hm
   have:=h3.uniq (show LeadsN v (k+1) n from ⟨ht,a,h1,h2⟩)
   omega
  ·rcases List.mem_cons.1 hm with rfl|hm
   ·rw [h1];simp
   ·exact e3 m hm
  ·rcases List.mem_cons.1 hm with rfl|hm
   ·exact ⟨k+1,Nat.le_refl _,ht,a,h1,h2⟩
   ·obtain ⟨j,hj,h3⟩:=e4 m hm
    exact ⟨j,by omega,h3⟩
theorem LeadsN.few {T:PT} {k:Nat} {n:Int} (h:LeadsN T.view k n):k≤T.nodes.length:=by
 obtain ⟨l,e1,e2,e3,_⟩:=h.way
 have:=zdk (b:=T.nodes.map (·.1)) e2 fun m hm=>Classical.byContradiction fun hc=>e3 m hm (PT.view_none.2 (zct.2 hc))
 simpa [e1]using this
theorem LeadsN.upd {v:Int→Option AN} {n0:Int} {a0:AN} (h0:∃j,LeadsN (zcN v n0 (some a0)) j n0):∀{k:Nat} {n:Int},LeadsN v k n→∃j,LeadsN (zcN v n0 (some a0)) j n
 |0,n,h=>⟨0,h⟩
 |k+1,n,h=>by
  by_cases hn:n=n0
  ·subst hn;exact h0
  ·obtain ⟨ht,a,h1,h2⟩:=h
   obtain ⟨j,hj⟩:=h2.upd h0
   exact ⟨j+1,ht,a,by simp only [zcN,if_neg hn];exact h1,hj⟩
theorem LeadsN.past {T:PT} {n0:Int} {a0:AN}:∀{k f:Nat} {n:Int},LeadsN T.view k n→k<f→zfF T f n n0=false→LeadsN (zcN T.view n0 (some a0)) k n
 |0,f,n,h,_,_=>h
 |k+1,0,n,h,hf,_=>by omega
 |k+1,f+1,n,h,hf,hb=>by
  obtain ⟨ht,a,h1,h2⟩:=h
  obtain ⟨x,hx,rfl⟩:=zbk h1
  unfold zfF at hb
  by_cases hn:n=n0
  ·rw [if_pos hn]at hb;cases hb
  ·rw [if_neg hn,hx]at hb
   simp only at hb
   rw [ht]at hb
   simp only [Bool.false_eq_true,if_false]at hb
   refine ⟨ht,x.view,by simp only [zcN,if_neg hn];exact h1, ?_⟩
   exact LeadsN.past h2 (by omega) hb
def PT.led (T:PT):Prop:=∀n,T.view n≠none→∃k,LeadsN T.view k n
theorem zxB {T:PT} {n:Int}:T.has n=true↔T.view n≠none:=by
 rw [PT.has,Option.isSome_iff_ne_none]
 exact not_congr PT.view_none.symm
theorem zvS {v:Int→Option AN} {n0:Int} {a0:AN} (h:∀n,v n≠none→∃k,LeadsN v k n) (h0:∃j,LeadsN (zcN v n0 (some a0)) j n0):∀n,zcN v n0 (some a0) n≠none→∃k,LeadsN (zcN v n0 (some a0)) k n:=by
 intro n hn
 by_cases e:n=n0
 ·subst e;exact h0
 ·obtain ⟨k,hk⟩:=h n (by simpa only [zcN,if_neg e]using hn)
  exact hk.upd h0
theorem zAo:T0.led:=fun n hn=>by
 refine ⟨0, ?_⟩
 have hm:n∈T0.nodes.map (·.1):=Classical.byContradiction fun hc=>hn (PT.view_none.2 (zct.2 hc))
 have:n=1∨n=2:=by simpa [T0]using hm
 rcases this with rfl|rfl<;>exact (show zbc _=true by decide)
theorem zAe {T:PT} {op:Op} {k:Nat} (h:T.led) (hok:T.ok k) (hm:zaL T op=true):(T.does op).led:=by
 unfold PT.led
 by_cases k1:op.kind=1
 ·rw [zed hm k1]
  refine zvS h ?_
  obtain ⟨hn,x,hx⟩:=zhy hm k1
  rw [zaL,if_pos k1]at hm
  simp only [Bool.and_eq_true,decide_eq_true_eq]at hm
  have ht:zbc op.node=false:=by simp only [zbc];simp;omega
  obtain ⟨j,hj⟩:=h op.parent (by rw [PT.view_get hx];simp)
  have hp:∀(f:Nat) (n:Int) (j:Nat),LeadsN T.view j n→LeadsN (zcN T.view op.node (some ⟨op.parent,op.name,fun _=>none⟩)) j n:=by
   intro f n j
   induction j generalizing n with
   |zero=>exact fun h=>h
   |succ j ih=>
    rintro ⟨h1,a,h2,h3⟩
    refine ⟨h1,a, ?_,ih _ h3⟩
    have:n≠op.node:=fun e=>by rw [e,PT.view_none.2 hn]at h2;cases h2
    simp only [zcN,if_neg this];exact h2
  exact ⟨j+1,ht,_,ztw _ _ _,hp 0 _ _ hj⟩
 ·obtain ⟨x,hx⟩:=zga hm k1
  by_cases k2:op.kind=2
  ·rw [zen hx k2]
   refine zvS h ?_
   rw [zaL,if_neg k1,if_pos k2]at hm
   simp only [Bool.and_eq_true,Bool.not_eq_true']at hm
   obtain ⟨j,hj⟩:=h op.parent (zxB.1 hm.1.1.2)
   exact ⟨j+1,hm.1.1.1.2,_,ztw _ _ _,hj.past (by have:=hj.few;omega) hm.1.2⟩
  ·rw [zec hx (hok.attrs _ _ hx).1 k1 k2]
   refine zvS h ?_
   obtain ⟨j,hj⟩:=h op.node (by rw [PT.view_get hx];simp)
   have hp:∀(n:Int) (j:Nat),LeadsN T.view j n→LeadsN (zcN T.view op.node (some ⟨x.parent,x.name,fun j=>if j=op.key then (if op.value=empty then none else some op.value)else zbv x.attrs j⟩)) j n:=by
    intro n j
    induction j generalizing n with
    |zero=>exact fun h=>h
    |succ j ih=>
     rintro ⟨h1,a,h2,h3⟩
     by_cases e:n=op.node
     ·subst e
      rw [PT.view_get hx]at h2
      cases h2
      exact ⟨h1,_,ztw _ _ _,ih _ h3⟩
     ·exact ⟨h1,a,by simp only [zcN,if_neg e];exact h2,ih _ h3⟩
   exact ⟨j,hp _ _ hj⟩
end Go.Proofs.YtmjiojflncffeaaGreat.Vc

set_option linter.unusedVariables false
set_option linter.unusedSimpArgs false
namespace Go.Proofs.YtmjiojflncffeaaGreat.Vc
open Go
structure VGood (v:Int→Option AN):Prop where
 pos:∀n a,v n=some a→0<n
 one:v 1≠none
 two:v 2≠none
 top:∀n a,v n=some a→zbc n=true→a.parent=0∧a.name=empty
 name:∀n a,v n=some a→zbc n=false→zcW a.name=true
 pairs:∀n a k w,v n=some a→a.attr k=some w→zcl k w=true∧w≠empty
 led:∀n,v n≠none→∃k,LeadsN v k n
theorem zeC {n:Int}:zbc n=true↔n=1∨n=2:=by simp [zbc]
theorem zmc {n:Int} {a:AN} (h:T0.view n=some a):zbc n=true∧a=PN.bare.view:=by
 obtain ⟨x,hx,rfl⟩:=zbk h
 have:=zgd hx
 simp only [T0,List.mem_cons,List.not_mem_nil,or_false,Prod.mk.injEq]at this
 rcases this with ⟨rfl,rfl⟩|⟨rfl,rfl⟩<;>exact ⟨by decide,rfl⟩
theorem T0_good:VGood T0.view:=by
 refine ⟨fun n a h=> ?_, ?_, ?_,fun n a h _=> ?_,fun n a h ht=> ?_,fun n a k w h hk=> ?_,zAo⟩
 ·have:=zeC.1 (zmc h).1;omega
 ·rw [show T0.view 1=some PN.bare.view from rfl];simp
 ·rw [show T0.view 2=some PN.bare.view from rfl];simp
 ·rw [(zmc h).2];exact ⟨rfl,rfl⟩
 ·rw [(zmc h).1]at ht;cases ht
 ·rw [(zmc h).2]at hk;cases hk
theorem zik {v:Int→Option AN} {n j:Int} {a:Option AN} (h:j≠n):zcN v n a j=v j:=if_neg h
theorem zkp {v:Int→Option AN} {n:Int} {a:Option AN}:zcN v n a n=a:=if_pos rfl
theorem zyl {T:PT} {op:Op} {k:Nat} (h:VGood T.view) (hok:T.ok k) (hm:zaL T op=true):VGood (T.does op).view:=by
 have hled:=zAe h.led hok hm
 unfold PT.led at hled
 have build:∀(n0:Int) (a0:AN),(T.does op).view=zcN T.view n0 (some a0)→0<n0→(zbc n0=true→a0.parent=0∧a0.name=empty)→(zbc n0=false→zcW a0.name=true)→
   (∀k w,a0.attr k=some w→zcl k w=true∧w≠empty)→VGood (T.does op).view:=by
  intro n0 a0 hv h1 h2 h3 h4
  rw [hv]at hled ⊢
  refine ⟨fun n a hn=> ?_, ?_, ?_,fun n a hn=> ?_,fun n a hn=> ?_,fun n a k w hn=> ?_,hled⟩
  ·by_cases e:n=n0
   ·rw [e];exact h1
   ·rw [zik e]at hn;exact h.pos n a hn
  ·by_cases e:(1:Int)=n0
   ·rw [e,zkp];simp
   ·rw [zik e];exact h.one
  ·by_cases e:(2:Int)=n0
   ·rw [e,zkp];simp
   ·rw [zik e];exact h.two
  ·by_cases e:n=n0
   ·rw [e,zkp]at hn;cases hn;rw [e];exact h2
   ·rw [zik e]at hn;exact h.top n a hn
  ·by_cases e:n=n0
   ·rw [e,zkp]at hn;cases hn;rw [e];exact h3
   ·rw [zik e]at hn;exact h.name n a hn
  ·by_cases e:n=n0
   ·rw [e,zkp]at hn;cases hn;exact h4 k w
   ·rw [zik e]at hn;exact h.pairs n a k w hn
 by_cases k1:op.kind=1
 ·have hm':=hm
  rw [zaL,if_pos k1]at hm
  simp only [Bool.and_eq_true,decide_eq_true_eq]at hm
  have ht:zbc op.node=false:=by simp only [zbc];simp;omega
  exact build _ _ (zed hm' k1) (by omega) (fun e=>by rw [ht]at e;cases e) (fun _=>hm.2) (fun k w e=>by cases e)
 ·obtain ⟨x,hx⟩:=zga hm k1
  have hxv:=PT.view_get hx
  by_cases k2:op.kind=2
  ·have hv:=zen hx k2
   rw [zaL,if_neg k1,if_pos k2]at hm
   simp only [Bool.and_eq_true,Bool.not_eq_true']at hm
   exact build _ _ hv (h.pos _ _ hxv) (fun e=>by rw [hm.1.1.1.2]at e;cases e) (fun _=>hm.2) (fun k w e=>h.pairs _ _ k w hxv e)
  ·have hv:=zec hx (hok.attrs _ _ hx).1 k1 k2
   have hp:zcl op.key op.value=true:=by
    rw [zaL,if_neg k1,if_neg k2]at hm
    split at hm
    ·simp only [Bool.and_eq_true]at hm;exact hm.2
    ·cases hm
   refine build _ _ hv (h.pos _ _ hxv) (fun e=>h.top _ x.view hxv e) (fun e=>h.name _ x.view hxv e) fun k w e=> ?_
   simp only at e
   split at e
   ·split at e
    ·cases e
    ·cases e
     rename_i e1 e2
     rw [e1];exact ⟨hp,e2⟩
   ·exact h.pairs _ _ k w hxv e
structure PT.kidsOk (T:PT):Prop where
 nod:∀n x,T.get n=some x→x.kids.Nodup
 mem:∀n x c,T.get n=some x→(c∈x.kids↔zbc c=false∧∃y,T.get c=some y∧y.parent=n)
theorem zwy {l:List Int} (h:l.Nodup) (n:Int):(zmD l n).Nodup:=by
 unfold zmD
 split
 ·exact h
 ·rename_i hn
  rw [List.nodup_append]
  refine ⟨h,by simp,fun a ha b hb=> ?_⟩
  simp only [List.mem_singleton]at hb
  subst hb
  exact fun e=>hn (e▸ha)
theorem zAz {l:List Int} {n c:Int}:c∈zmD l n↔c=n∨c∈l:=by
 unfold zmD
 split
 ·rename_i hn
  constructor
  ·exact .inr
  ·rintro (rfl|h)
   ·exact hn
   ·exact h
 ·simp [or_comm]
end Go.Proofs.YtmjiojflncffeaaGreat.Vc

set_option linter.unusedVariables false
set_option linter.unusedSimpArgs false
namespace Go.Proofs.YtmjiojflncffeaaGreat.Vc
open Go Go.ChangeShapes Go.WideShapes Go.ChangeAt Go.WideElems
section
variable {H:Type} {enc:TypeId×Value→H} {P:Program} {W W':World}
theorem Kept.old (h:Kept PH.no W W') {k:Nat} (hk:k<W.heap.size):W'.heap[k]? =W.heap[k]? :=h.2.2.2.2 k hk rfl
theorem Kept.but (h:Kept PH.no W W') (may:MemPlace→Prop):W.keptBut W' may:=by
 refine ⟨h.1,h.2.2.1,fun i hi=> ?_⟩
 rw [h.old hi]
 cases W.heap[i]? with
 |none=>rfl
 |some o=>cases o<;>first|exact ⟨rfl,rfl,rfl,fun _ _=>rfl⟩|exact .inr ⟨rfl,rfl⟩|rfl
theorem Kept.at (h:Kept PH.no W W') {p:MemPlace} (hp:p.block<W.heap.size):W.sameAt W' p:=by
 cases p with
 |cell b off=>
  show W'.cell? _=W.cell? _
  have e:W'.heap[b]? =W.heap[b]? :=h.old hp
  unfold World.cell?
  simp only [e]
 |map b=>exact h.old hp
theorem zkG (hl:laidOutB P=true) {sp':Nat→Bool}:∀{ts:List TypeId} {vs:List Value} {ds:List (DataW H)} {ps:List MemPlace},(∀t∈ts,P.readableRec t=true∧t<P.types.size)→
  DataW.TrodAll enc P W 0 (fun _=>true) true ts vs ds ps→(∀p∈ps,W.sameAt W' p)→(∀p∈ps,sp' p.block=true)→DataW.TrodAll enc P W' 0 sp' true ts vs ds ps
 |[],vs,ds,ps,_,h,_,_=>by
  obtain ⟨rfl,rfl,rfl⟩:=trodAll_nil h
  exact rfl
 |t::ts,vs,ds,ps,hr,h,h1,h2=>by
  obtain ⟨v,vs',d,ds',p,q,rfl,rfl,rfl,h3,h4⟩:=trodAll_cons h
  exact ⟨p,q,Trod_stays hl (hr t (by simp)).1 (hr t (by simp)).2 h3 (fun x hx=>h1 x (by simp [hx])) (fun x hx=>h2 x (by simp [hx])),
   zkG hl (fun t ht=>hr t (by simp [ht])) h4 (fun x hx=>h1 x (by simp [hx])) (fun x hx=>h2 x (by simp [hx])),rfl⟩
theorem zqN {f:Nat} {fn:Func} {s:ChangeSpec} {apart fresh handsOn again:Bool} {args:Array Value} {ds gs:List (DataW H)} {before:List MemPlace} {tb:TypeId} (hl:laidOutB P=true)
  (hr:(fn.params.toList.all fun t=>P.readableRec t&&decide (t<P.types.size))=true) (hv:s.vars=[]) (hres:fn.resultTypes= #[tb]) (htb:P.underlying tb=some .bool)
  (hs:s.fn H (ds++gs)={results:=[.lit (.bool true)],args:=ds}) (hW:DataW.Whole enc P fn.params.toList s.vars apart W args.toList ds gs before)
  (h:Spec P f args.toList PH.no W fun rs _=>rs=[.s (.bool true)]):
  Calls P f args W fun e W'=>∃v,e= .returned v∧s.post enc P fn apart fresh handsOn again W args v W'∧W.keptBut W' (fun _=>False):=by
 have h0:=h (fun _ _ e=>by cases e)
 rw [show args.toList.toArray=args by simp]at h0
 refine h0.mono fun e W' he=> ?_
 obtain ⟨rs,m',rfl,_,rfl,_,_,hk⟩:=he
 refine ⟨.bool true,rfl, ?_,hk.but _⟩
 have hW0:=hW
 obtain ⟨p,q,hA,hV,rfl,hfz,hnd⟩:=hW
 rw [hv]at hV
 obtain ⟨rfl,rfl⟩:=trodVars_none hV
 simp only [List.append_nil]at*
 have hall:∀t∈fn.params.toList,P.readableRec t=true∧t<P.types.size:=by
  intro t ht
  have:=List.all_eq_true.1 hr t ht
  simpa using this
 have hlt:=DataW.TrodAll.lt hA
 have hargs:∀sp:Nat→Bool,(∀x∈p,sp x.block=true)→DataW.TrodAll enc P W' 0 sp true fn.params.toList args.toList ds p:=fun sp hsp=>
  zkG hl hall hA (fun x hx=>hk.at (hlt x hx)) hsp
 have hbool:∀(b:Nat) (sp:Nat→Bool) (hd:Bool),DataW.TrodAll enc P W' b sp hd fn.resultTypes.toList ((Value.bool true).resultList fn.resultTypes.size) [.lit (.bool true)] []:=by
  intro b sp hd
  rw [hres]
  exact ⟨[],[],⟨1,by simp [DataW.trod,htb,Value.cells]⟩,rfl,rfl⟩
 have hcell:∀x∈p,x.block<W.heap.size:=hlt
 refine ⟨ds,[],p,[],p,[],by simpa using hW0,by rw [List.append_nil,hs];exact hbool _ _ _,by rw [List.append_nil,hs];exact hargs _ (fun x hx=>by simpa using hlt x hx),by rw [hv];rw [List.append_nil,hs];exact rfl,hk.but _,fun _=>⟨?_, ?_⟩⟩
 ·intro j t r hj hr'
  rw [hres]at hj hr'
  match j,hj,hr' with
  |0,hj,hr'=>
   simp [Value.resultList]at hj hr'
   subst hj;subst hr'
   simp [Value.okWide,htb,Cell.okWide,Cell.ok]
 ·refine ⟨_,[],p,⟨[]++p,[],trodAll_append (hargs _ (fun _ _=>rfl)) (hbool _ _ _),by rw [hv];exact rfl,by simp, ?_,fun ha=>by simpa using hnd ha⟩,fun x hx _=>hx⟩
  intro b off hp
  have:=hfz b off hp
  unfold World.frozen? at this ⊢
  have e:W'.heap[b]? =W.heap[b]? :=hk.old (hlt _ hp)
  simp only [e]
  exact this
end
end Go.Proofs.YtmjiojflncffeaaGreat.Vc

set_option linter.unusedVariables false
set_option linter.unusedSimpArgs false
namespace Go.Proofs.YtmjiojflncffeaaGreat.Vc
open Go
inductive K1 where
 |i (k:IntKind)
 |s
 |b
 |sl (t:TypeId)
def K1.is:K1→Value→Prop
 | .i k,v=>∃n,v= .int k n∧k.has n
 | .s,v=>∃s,v= .string s∧(s.size:Int)≤IntKind.i64.max
 | .b,v=>∃b,v= .bool b
 | .sl _,v=>∃a n c,v= .slice a n c
structure Raw where
 x:Nat→Int
 y:Nat→ByteArray
 z:Nat→Bool
 v:Nat→Value
def Raw.at (r:Raw) (i:Nat):K1→Value
 | .i k=> .int k (r.x i)
 | .s=> .string (r.y i)
 | .b=> .bool (r.z i)
 | .sl _=>r.v i
def Raw.cells (r:Raw):List K1→Nat→List Value
 |[],_=>[]
 |k::l,i=>r.at i k::r.cells l (i+1)
def Raw.fine (r:Raw):List K1→Nat→Prop
 |[],_=>True
 |k::l,i=>(match k with| .i k=>k.has (r.x i)| .s=>((r.y i).size:Int)≤IntKind.i64.max| .b=>True| .sl _=>∃a n c,r.v i= .slice a n c)∧r.fine l (i+1)
theorem zzt:∀(ks:List K1) (i:Nat) (cs:List Value),cs.length=ks.length→(∀(j:Nat) (v:Value) (k:K1),cs[j]? =some v→ks[j]? =some k→k.is v)→∃r:Raw,cs=r.cells ks i∧r.fine ks i
 |[],i,cs,hl,_=>by
  have:cs=[]:=by simpa using hl
  subst this
  exact ⟨⟨fun _=>0,fun _=>⟨#[]⟩,fun _=>false,fun _=>undef⟩,rfl,trivial⟩
 |k::ks,i,cs,hl,h=>by
  cases cs with
  |nil=>simp at hl
  |cons v cs=>
   obtain ⟨r,hr,hf⟩:=zzt ks (i+1) cs (by simpa using hl) (fun j v k hj hk=>h (j+1) v k (by simpa using hj) (by simpa using hk))
   have h0:=h 0 v k rfl rfl
   have key:∀(r':Raw),(∀j,i<j→r'.x j=r.x j∧r'.y j=r.y j∧r'.z j=r.z j∧r'.v j=r.v j)→(∀l m,i<m→r'.cells l m=r.cells l m)∧(∀l m,i<m→(r'.fine l m↔r.fine l m)):=by
    intro r' hs
    constructor
    ·intro l
     induction l with
     |nil=>intro m _;rfl
     |cons q l ih=>
      intro m hm
      obtain ⟨e1,e2,e3,e4⟩:=hs m hm
      simp only [Raw.cells,ih (m+1) (by omega)]
      congr 1
      cases q<;>simp [Raw.at,e1,e2,e3,e4]
    ·intro l
     induction l with
     |nil=>intro m _;exact Iff.rfl
     |cons q l ih=>
      intro m hm
      obtain ⟨e1,e2,e3,e4⟩:=hs m hm
      simp only [Raw.fine,ih (m+1) (by omega),e1,e2,e4]
   cases k with
   |i k=>
    obtain ⟨n,rfl,hn⟩:=h0
    refine ⟨⟨fun j=>if j=i then n else r.x j,r.y,r.z,r.v⟩, ?_, ?_⟩
    ·obtain ⟨g1,g2⟩:=key ⟨fun j=>if j=i then n else r.x j,r.y,r.z,r.v⟩ (fun j hj=>⟨by simp;omega,rfl,rfl,rfl⟩)
     simp only [Raw.cells,g1 ks (i+1) (by omega),←hr,Raw.at,if_true]
    ·obtain ⟨g1,g2⟩:=key ⟨fun j=>if j=i then n else r.x j,r.y,r.z,r.v⟩ (fun j hj=>⟨by simp;omega,rfl,rfl,rfl⟩)
     exact ⟨by simpa using hn,(g2 ks (i+1) (by omega)).2 hf⟩
   |s=>
    obtain ⟨n,rfl,hn⟩:=h0
    refine ⟨⟨r.x,fun j=>if j=i then n else r.y j,r.z,r.v⟩, ?_, ?_⟩
    ·obtain ⟨g1,g2⟩:=key ⟨r.x,fun j=>if j=i then n else r.y j,r.z,r.v⟩ (fun j hj=>⟨rfl,by simp;omega,rfl,rfl⟩)
     simp only [Raw.cells,g1 ks (i+1) (by omega),←hr,Raw.at,if_true]
    ·obtain ⟨g1,g2⟩:=key ⟨r.x,fun j=>if j=i then n else r.y j,r.z,r.v⟩ (fun j hj=>⟨rfl,by simp;omega,rfl,rfl⟩)
     exact ⟨by simpa using hn,(g2 ks (i+1) (by omega)).2 hf⟩
   |b=>
    obtain ⟨n,rfl⟩:=h0
    refine ⟨⟨r.x,r.y,fun j=>if j=i then n else r.z j,r.v⟩, ?_, ?_⟩
    ·obtain ⟨g1,g2⟩:=key ⟨r.x,r.y,fun j=>if j=i then n else r.z j,r.v⟩ (fun j hj=>⟨rfl,rfl,by simp;omega,rfl⟩)
     simp only [Raw.cells,g1 ks (i+1) (by omega),←hr,Raw.at,if_true]
    ·obtain ⟨g1,g2⟩:=key ⟨r.x,r.y,fun j=>if j=i then n else r.z j,r.v⟩ (fun j hj=>⟨rfl,rfl,by simp;omega,rfl⟩)
     exact ⟨trivial,(g2 ks (i+1) (by omega)).2 hf⟩
   |sl t=>
    obtain ⟨a,n,c,rfl⟩:=h0
    refine ⟨⟨r.x,r.y,r.z,fun j=>if j=i then .slice a n c else r.v j⟩, ?_, ?_⟩
    ·obtain ⟨g1,g2⟩:=key ⟨r.x,r.y,r.z,fun j=>if j=i then .slice a n c else r.v j⟩ (fun j hj=>⟨rfl,rfl,rfl,by simp;omega⟩)
     simp only [Raw.cells,g1 ks (i+1) (by omega),←hr,Raw.at,if_true]
    ·obtain ⟨g1,g2⟩:=key ⟨r.x,r.y,r.z,fun j=>if j=i then .slice a n c else r.v j⟩ (fun j hj=>⟨rfl,rfl,rfl,by simp;omega⟩)
     exact ⟨⟨a,n,c,by simp⟩,(g2 ks (i+1) (by omega)).2 hf⟩
section
variable {P:Program} {W:World} {r:Reach} {base:Nat} {t:TypeId} {v:Value}
def agDo:Option TypeDesc→Bool
 |some (.struct _)|some (.array _ _)=>true
 |_=>false
end
theorem zfP (q:Raw):∀(a b:List K1) (o:Nat),q.cells (a++b) o=q.cells a o++q.cells b (o+a.length)
 |[],b,o=>by simp [Raw.cells]
 |k::a,b,o=>by
  simp only [List.cons_append,Raw.cells,zfP q a b (o+1),List.length_cons]
  rw [show o+1+a.length=o+(a.length+1) by omega]
def kVec:List K1:=List.replicate 8 (.i .i64)
theorem zpu:kVec.length=8:=rfl
theorem znt (q:Raw) (o:Nat):GV.flat (zzQ fun j=>q.x (o+j))=q.cells kVec o:=by
 simp [zzQ,GV.flat,kVec,Raw.cells,Raw.at,List.replicate,List.range,List.range.loop]
def kVec2:List K1:=kVec++kVec++kVec++kVec++kVec++kVec++kVec++kVec
theorem zrI:kVec2.length=64:=rfl
theorem zqq (q:Raw) (o:Nat):GV.flat (zAg fun i j=>q.x (o+i*8+j))=q.cells kVec2 o:=by
 have h:∀i,GV.flat (zzQ fun j=>q.x (o+i*8+j))=q.cells kVec (o+i*8):=fun i=>znt q (o+i*8)
 simp only [zAg,GV.flat,List.range,List.range.loop,List.flatMap_cons,List.flatMap_nil,h,kVec2,zfP,List.length_append,zpu]
 simp [Nat.add_assoc]
end Go.Proofs.YtmjiojflncffeaaGreat.Vc

set_option linter.unusedVariables false
set_option linter.unusedSimpArgs false
namespace Go.Proofs.YtmjiojflncffeaaGreat.Vc
open Go Go.ChangeShapes Go.WideShapes Go.ChangeAt
def zlU (g:TypeId→Option (List K1)) (P:Program):List Field→Nat→Option (List K1)
 |[],_=>some []
 |f::fs,o=>if f.offset=o then (g f.type).bind fun l=>if l.length=P.cellsOf f.type then (zlU g P fs (o+l.length)).map (l++ ·)else none else none
def zwz (P:Program):Nat→TypeId→Option (List K1)
 |0,_=>none
 |n+1,t=>match P.underlying t with
  |some .bool=>some [.b]
  |some (.int k)=>some [.i k]
  |some .string=>some [.s]
  |some (.slice _)=>some [.sl t]
  |some (.struct fs)=>(zlU (zwz P n) P fs.toList 0).bind fun l=>if l.length=P.cellsOf t then some l else none
  |some (.array m e)=>(zwz P n e).bind fun l=>if l.length=P.cellsOf e∧m*P.cellsOf e=P.cellsOf t then some ((List.range m).flatMap fun _=>l)else none
  |_=>none
section
variable {H:Type} (enc:TypeId×Value→H) (P:Program) (W:World)
def RdT (t:TypeId) (v:Value):Prop:=∃fuel x,DataW.trod enc P W 0 (fun _=>true) true fuel t [v]=some x∧(x.1.weights P t).all (· ≤reachBytes)=true
def KOk (k:K1) (v:Value):Prop:=k.is v∧(∀s,v= .string s→s.size≤reachBytes)∧∀t,k= .sl t→RdT enc P W t v
end
section
variable {H:Type} {enc:TypeId×Value→H} {P:Program} {W:World}
theorem zCs {k:IntKind} {n:Int} (h:(Lit.int k n).wf=true):k.has n:=by
 simpa [Lit.wf,IntKind.has]using h
theorem zth {a b:List Nat} (h:b.all (· ≤reachBytes)=true) (hs:∀x∈a,x∈b):a.all (· ≤reachBytes)=true:=by
 rw [List.all_eq_true]at h ⊢
 exact fun x hx=>h x (hs x hx)
theorem ziK:∀{ts:List TypeId} {ds:List (DataW H)} {i:Nat} {t:TypeId} {d:DataW H},ts[i]? =some t→ds[i]? =some d→∀x∈d.weights P t,x∈DataW.weightsEach P ts ds
 |[],_,i,_,_,h,_=>by simp at h
 |t::ts,[],i,_,_,_,h=>by simp at h
 |t::ts,d::ds,0,_,_,h1,h2=>by
  simp at h1 h2;subst h1;subst h2
  intro x hx;simp [DataW.weightsEach,hx]
 |t::ts,d::ds,i+1,_,_,h1,h2=>by
  intro x hx
  have:=ziK (ts:=ts) (ds:=ds) (i:=i) (by simpa using h1) (by simpa using h2) x hx
  simp [DataW.weightsEach,this]
theorem zgF {e:TypeId}:∀{ds:List (DataW H)} {d:DataW H},d∈ds→∀x∈d.weights P e,x∈DataW.weightsAll P e ds
 |[],_,h=>by simp at h
 |d::ds,d',h=>by
  intro x hx
  rcases List.mem_cons.1 h with rfl|h
  ·simp [DataW.weightsAll,hx]
  ·simp [DataW.weightsAll,zgF h x hx]
def Kinds (ks:List K1) (cs:List Value):Prop:=cs.length=ks.length∧∀(j:Nat) (v:Value) (k:K1),cs[j]? =some v→ks[j]? =some k→KOk enc P W k v
theorem Kinds.app {a b:List K1} {cs:List Value} (h1:Kinds (enc:=enc) (P:=P) (W:=W) a (cs.take a.length)) (h2:Kinds (enc:=enc) (P:=P) (W:=W) b (cs.drop a.length)):Kinds (enc:=enc) (P:=P) (W:=W) (a++b) cs:=by
 obtain ⟨l1,h1⟩:=h1
 obtain ⟨l2,h2⟩:=h2
 simp only [List.length_take,List.length_drop]at l1 l2
 refine ⟨by simp;omega,fun j v k hj hk=> ?_⟩
 rcases Nat.lt_or_ge j a.length with hl|hl
 ·rw [List.getElem?_append_left hl]at hk
  exact h1 j v k (by rw [List.getElem?_take_of_lt hl];exact hj) hk
 ·rw [List.getElem?_append_right hl]at hk
  exact h2 (j - a.length) v k (by rw [List.getElem?_drop,show a.length+(j - a.length)=j by omega];exact hj) hk
theorem zpW:∀(n:Nat) (fuel:Nat) (t:TypeId) (ks:List K1) (cs:List Value) (x:DataW H×List MemPlace),zwz P n t=some ks→DataW.trod enc P W 0 (fun _=>true) true fuel t cs=some x→
  (x.1.weights P t).all (· ≤reachBytes)=true→Kinds (enc:=enc) (P:=P) (W:=W) ks cs:=by
 intro n
 induction n with
 |zero=>intro fuel t ks cs x hk;cases hk
 |succ n ih=>
  intro fuel t ks cs x hk h hw
  unfold zwz at hk
  have single:∀(k:K1) (v:Value),KOk enc P W k v→Kinds (enc:=enc) (P:=P) (W:=W) [k] [v]:=fun k v hkv=>by
   refine ⟨rfl,fun j v' k' hj hk'=> ?_⟩
   cases j with
   |zero=>simp at hj hk';subst hj;subst hk';exact hkv
   |succ j=>simp at hj
  cases hu:P.underlying t with
  |none=>rw [hu]at hk;cases hk
  |some d=>
   rw [hu]at hk
   cases d with
   |bool=>
    obtain ⟨b,rfl,rfl⟩:=DataW.trod_bool hu h
    simp at hk;subst hk
    exact single _ _ ⟨⟨b,rfl⟩,(fun s hs=>by cases hs),fun t e=>by cases e⟩
   |int k=>
    obtain ⟨m,rfl,rfl,hwf⟩:=DataW.trod_int hu h
    simp at hk;subst hk
    exact single _ _ ⟨⟨m,rfl,zCs hwf⟩,(fun s hs=>by cases hs),fun t e=>by cases e⟩
   |string=>
    obtain ⟨s,rfl,rfl,hl⟩:=DataW.trod_string hu h
    simp at hk;subst hk
    have:s.size≤reachBytes:=by simpa [DataW.weights]using hw
    exact single _ _ ⟨⟨s,rfl,by unfold reachBytes at this;show (s.size:Int)≤9223372036854775807;omega⟩,(fun s' hs=>by cases hs;exact this),fun t e=>by cases e⟩
   |slice e=>
    have hcs:∃a n c,cs=[.slice a n c]:=by
     rcases DataW.trod_slice hu h with ⟨rfl,_⟩|⟨a,len,cap,_,_,_,_,rfl,_⟩
     ·exact ⟨_,_,_,rfl⟩
     ·exact ⟨_,_,_,rfl⟩
    obtain ⟨a,m,c,rfl⟩:=hcs
    simp at hk;subst hk
    refine single _ _ ⟨⟨a,m,c,rfl⟩,(fun s hs=>by cases hs),fun t' e'=> ?_⟩
    cases e'
    exact ⟨fuel,x,h,hw⟩
   |struct fs=>
    simp only [Option.bind_eq_some_iff]at hk
    obtain ⟨l,hl,hk⟩:=hk
    split at hk
    ·rename_i hlen
     simp at hk;subst hk
     obtain ⟨xs,m,_,rfl,hcl,hxl,hf⟩:=DataW.trod_struct hu h
     simp only [DataW.weights,hu]at hw
     have key:∀(gs:List Field) (i o:Nat) (l':List K1),(∀k f,gs[k]? =some f→fs[i+k]? =some f)→i+gs.length=fs.size→zlU (zwz P n) P gs o=some l'→(cs.drop o).length=l'.length→Kinds (enc:=enc) (P:=P) (W:=W) l' (cs.drop o):=by
      intro gs
      induction gs with
      |nil=>
       intro i o l' _ _ hl' hlen'
       simp [zlU]at hl';subst hl'
       have:cs.drop o=[]:=List.length_eq_zero_iff.mp (by simpa using hlen')
       rw [this]
       exact ⟨rfl,fun j v k hj=>by simp at hj⟩
      |cons f gs ihg=>
       intro i o l' hgs hi hl' hlen'
       simp only [zlU]at hl'
       split at hl'
       ·rename_i hoff
        simp only [Option.bind_eq_some_iff]at hl'
        obtain ⟨a,ha,hl'⟩:=hl'
        split at hl'
        ·rename_i hal
         simp only [Option.map_eq_some_iff]at hl'
         obtain ⟨b,hb,rfl⟩:=hl'
         have hfi:=hgs 0 f rfl
         rw [Nat.add_zero]at hfi
         have hlt:i<fs.size:=by simp at hi;omega
         have ht:=hf i f hfi
         rw [List.getElem?_eq_getElem (by omega:i<xs.length)]at ht
         have hk1:=ih m f.type a _ _ ha ht (zth hw (fun y hy=>ziK (i:=i) (t:=f.type) (d:=xs[i].1) (by simp [hfi]) (by simp [List.getElem?_eq_getElem (by omega:i<xs.length)]) y hy))
         rw [hoff,←hal]at hk1
         refine Kinds.app hk1 ?_
         rw [List.drop_drop]
         simp only [List.length_append]at hlen'
         refine ihg (i+1) (o+a.length) b (fun k f' hk'=> ?_) (by simp at hi;omega) hb (by simp only [List.length_drop]at hlen' ⊢;omega)
         have:=hgs (k+1) f' (by simpa using hk')
         rw [show i+(k+1)=i+1+k by omega]at this
         exact this
        ·cases hl'
       ·cases hl'
     have:=key fs.toList 0 0 l (fun k f hk=>by simpa using hk) (by simp) hl (by simp [hcl,hlen])
     simpa using this
    ·cases hk
   |array m e=>
    simp only [Option.bind_eq_some_iff]at hk
    obtain ⟨l,hl,hk⟩:=hk
    split at hk
    ·rename_i hlen
     simp at hk;subst hk
     obtain ⟨xs,q,_,rfl,hcl,hxl,hf⟩:=DataW.trod_array hu h
     simp only [DataW.weights,hu]at hw
     have key:∀(r i:Nat),i+r=m→Kinds (enc:=enc) (P:=P) (W:=W) ((List.range r).flatMap fun _=>l) (cs.drop (i*P.cellsOf e)):=by
      intro r
      induction r with
      |zero=>
       intro i hi
       have:cs.drop (i*P.cellsOf e)=[]:=List.drop_eq_nil_of_le (by rw [hcl,←hlen.2,show i=m by omega];exact Nat.le_refl _)
       rw [this]
       exact ⟨rfl,fun j v k hj=>by simp at hj⟩
      |succ r ihr=>
       intro i hi
       have hlt:i<xs.length:=by omega
       have ht:=hf i (by omega)
       rw [List.getElem?_eq_getElem hlt]at ht
       have hk1:=ih q e l _ _ hl ht (zth hw (fun y hy=>zgF (d:=xs[i].1) (List.mem_map.2 ⟨xs[i],List.getElem_mem hlt,rfl⟩) y hy))
       have hr:(List.range (r+1)).flatMap (fun _=>l)=l++(List.range r).flatMap (fun _=>l):=by
        rw [List.range_succ_eq_map,List.flatMap_cons,List.flatMap_map]
       rw [hr]
       rw [←hlen.1]at hk1
       refine Kinds.app (by rw [←hlen.1];exact hk1) ?_
       rw [List.drop_drop,←hlen.1]
       have:=ihr (i+1) (by omega)
       rw [←hlen.1,Nat.add_mul,Nat.one_mul]at this
       exact this
     have:=key m 0 (by omega)
     simpa using this
    ·cases hk
   |_=>cases hk
theorem zrN (q:Raw):∀(ks:List K1) (i j:Nat) (k:K1),ks[j]? =some k→(q.cells ks i)[j]? =some (q.at (i+j) k)
 |[],i,j,k,h=>by simp at h
 |k0::ks,i,0,k,h=>by simp at h;subst h;rfl
 |k0::ks,i,j+1,k,h=>by
  have:=zrN q ks (i+1) j k (by simpa using h)
  simp only [Raw.cells,List.getElem?_cons_succ,this]
  rw [show i+1+j=i+(j+1) by omega]
def Fine (enc:TypeId×Value→H) (P:Program) (W:World) (ks:List K1) (q:Raw):Prop:=∀(j:Nat) (k:K1),ks[j]? =some k→KOk enc P W k (q.at j k)
theorem zrx {ks:List K1} {cs:List Value} (h:Kinds (enc:=enc) (P:=P) (W:=W) ks cs):∃q:Raw,cs=q.cells ks 0∧Fine enc P W ks q:=by
 obtain ⟨q,hq,_⟩:=zzt ks 0 cs h.1 fun j v k hj hk=>(h.2 j v k hj hk).1
 refine ⟨q,hq,fun j k hk=> ?_⟩
 have:=zrN q ks 0 j k hk
 rw [Nat.zero_add]at this
 exact h.2 j _ k (by rw [hq];exact this) hk
theorem Fine.int {ks:List K1} {q:Raw} (h:Fine enc P W ks q) {j:Nat} {k:IntKind} (hk:ks[j]? =some (.i k)):k.has (q.x j):=by
 obtain ⟨n,h1,h2⟩:=(h j _ hk).1
 simp only [Raw.at,Value.int.injEq,true_and]at h1
 rw [h1];exact h2
theorem Fine.str {ks:List K1} {q:Raw} (h:Fine enc P W ks q) {j:Nat} (hk:ks[j]? =some .s):(q.y j).size≤reachBytes:=(h j _ hk).2.1 _ rfl
theorem Fine.rd {ks:List K1} {q:Raw} (h:Fine enc P W ks q) {j:Nat} {t:TypeId} (hk:ks[j]? =some (.sl t)):RdT enc P W t (q.v j):=(h j _ hk).2.2 t rfl
theorem Fine.slv {ks:List K1} {q:Raw} (h:Fine enc P W ks q) {j:Nat} {t:TypeId} (hk:ks[j]? =some (.sl t)):(q.v j).oneCell'=true:=by
 obtain ⟨a,n,c,e⟩:=(h j _ hk).1
 simp only [Raw.at]at e
 rw [e];rfl
theorem zrt {α:Type} {p:Nat→α→Prop} (d:α):∀n,(∀i,i<n→∃x,p i x)→∃f:Nat→α,∀i,i<n→p i (f i)
 |0,_=>⟨fun _=>d,fun i h=>by omega⟩
 |n+1,h=>by
  obtain ⟨f,hf⟩:=zrt d n fun i hi=>h i (by omega)
  obtain ⟨x,hx⟩:=h n (by omega)
  refine ⟨fun i=>if i=n then x else f i,fun i hi=> ?_⟩
  by_cases e:i=n
  ·subst e;simpa using hx
  ·simp only [e,if_false];exact hf i (by omega)
theorem zyB {z:Nat} {n:Nat} {g:Nat→GV} (hz:∀i,i<n→(GV.flat (g i)).length=z) {j:Nat} {v:Value} (h:(zaa ((List.range n).map g))[j]? =some v):∃i k,i<n∧j=i*z+k∧k<z∧(GV.flat (g i))[k]? =some v:=by
 have key:∀(r b j:Nat),b+r=n→(zaa ((List.range' b r).map g))[j]? =some v→∃i k,i<n∧j+b*z=i*z+k∧k<z∧(GV.flat (g i))[k]? =some v:=by
  intro r
  induction r with
  |zero=>intro b j _ h;simp [zaa]at h
  |succ r ih=>
   intro b j hb h
   have e:zaa ((List.range' b (r+1)).map g)=GV.flat (g b)++zaa ((List.range' (b+1) r).map g):=by simp [List.range'_succ,zaa]
   rw [e]at h
   have hl:=hz b (by omega)
   rcases Nat.lt_or_ge j (GV.flat (g b)).length with hj|hj
   ·rw [List.getElem?_append_left hj]at h
    exact ⟨b,j,by omega,by omega,by omega,h⟩
   ·rw [List.getElem?_append_right hj]at h
    obtain ⟨i,k,h1,h2,h3,h4⟩:=ih (b+1) _ (by omega) h
    refine ⟨i,k,h1, ?_,h3,h4⟩
    rw [Nat.add_mul,Nat.one_mul]at h2
    omega
 rw [List.range_eq_range']at h
 obtain ⟨i,k,h1,h2,h3,h4⟩:=key n 0 j (by omega) h
 exact ⟨i,k,h1,by omega,h3,h4⟩
theorem zzj {t e:TypeId} {n0:Nat} {ks:List K1} {v:Value} {g:Raw→GV} (ht:P.underlying t=some (.slice e)) (hk:zwz P n0 e=some ks) (hn:ks.length=P.cellsOf e) (h0:0<P.cellsOf e) (hflat:∀q,(g q).flat=q.cells ks 0)
  (hok:∀q,(∀j t',ks[j]? =some (.sl t')→(q.v j).oneCell'=true)→(g q).ok) (hsz:∀q,(g q).sz=P.cellsOf e) (h:RdT enc P W t v):
  ∃l:List Raw,SlR W.ph v (P.cellsOf e) (l.map g)∧l.length*P.bytesOf e≤reachBytes∧∀q∈l,Fine enc P W ks q:=by
 obtain ⟨fuel,x,hx,hw⟩:=h
 rcases Go.Deep.open_slice ht hx with ⟨hv,rfl⟩|⟨a,len,cap,m,n,D,Pl,hv,_,hlc,_,hm,rfl,hel⟩
 ·simp at hv;subst hv
  exact ⟨[],⟨fun x hx=>by simp at hx, .inl ⟨rfl,rfl⟩⟩,by simp,fun q hq=>by simp at hq⟩
 ·simp at hv;subst hv
  simp only [if_true]at hm
  subst hm
  simp only [DataW.weights,ht,List.all_cons,Bool.and_eq_true,decide_eq_true_eq,List.length_map,List.length_range]at hw
  obtain ⟨q,hq⟩:=zrt (p:=fun i q=>W.cells? 0 (a.add (i*P.cellsOf e)) (P.cellsOf e)=some (Raw.cells q ks 0)∧Fine enc P W ks q) ⟨fun _=>0,fun _=>⟨#[]⟩,fun _=>false,fun _=>undef⟩ len fun i hi=>by
   obtain ⟨cs',h1,h2⟩:=hel i (by omega)
   have hw':((D i).weights P e).all (· ≤reachBytes)=true:=zth hw.2 fun y hy=>by
    refine List.mem_append_left _ (zgF (d:=D i) ?_ y hy)
    exact List.mem_map.2 ⟨i,List.mem_range.2 hi,rfl⟩
   obtain ⟨q,hq,hf⟩:=zrx (zpW n0 n e ks cs' _ hk h2 hw')
   exact ⟨q,by rw [←hq];exact h1,hf⟩
  refine ⟨(List.range len).map q,⟨fun y hy=> ?_, ?_⟩, ?_,fun y hy=> ?_⟩
  ·rw [List.map_map]at hy
   obtain ⟨i,hi,rfl⟩:=List.mem_map.1 hy
   exact ⟨hok _ fun j t' hj=>(hq i (List.mem_range.1 hi)).2.slv hj,hsz _⟩
  ·refine .inr ⟨a,m,by simp,by simpa using hlc,fun hc=> ?_⟩
   obtain ⟨cs0,h1,_⟩:=hel 0 hc
   obtain ⟨_,hl0,hc0⟩:=World.cells?_some h1
   have hblk:∃cs e' fz,a.spot=none∧W.heap[a.block]? =some (.cells cs e' fz):=by
    have h2:=hc0 0 h0
    rw [List.getElem?_eq_getElem (by omega)]at h2
    have hab:(a.add (0*P.cellsOf e)).add 0=a:=by simp [Addr.add]
    rw [hab]at h2
    unfold World.cell? at h2
    split at h2
    ·rename_i c ty fz hb
     split at h2
     ·cases h2
     ·rename_i hs
      exact ⟨c,ty,fz,by simpa using hs,hb⟩
    ·cases h2
   obtain ⟨cs,e',fz,hsp,hb⟩:=hblk
   refine ⟨cs,e',fz,hsp,hb,fun j v hj=> ?_⟩
   rw [List.map_map]at hj
   obtain ⟨i,k,hi,rfl,hkz,hv⟩:=zyB (z:=P.cellsOf e) (g:=g ∘ q) (fun i hi=>by
    simp only [Function.comp,hflat]
    have:=(hq i hi).1
    obtain ⟨_,hl,_⟩:=World.cells?_some this
    exact hl) hj
   obtain ⟨h1,_⟩:=hq i hi
   obtain ⟨_,hl,hc⟩:=World.cells?_some h1
   have h2:=hc k hkz
   simp only [Function.comp,hflat]at hv
   rw [hv]at h2
   unfold World.cell? at h2
   obtain ⟨b,o,sp⟩:=a
   simp only at hsp hb
   subst hsp
   rw [zcF,zcF]at h2
   simp only [hb]at h2
   simpa [Nat.add_assoc]using h2
  ·simp only [List.length_map,List.length_range]
   have:=hw.1
   have:len*P.bytesOf e≤(len+(m - len))*P.bytesOf e:=Nat.mul_le_mul_right _ (by omega)
   omega
  ·obtain ⟨i,hi,rfl⟩:=List.mem_map.1 hy
   exact (hq i (List.mem_range.1 hi)).2
def RdV (enc:TypeId×Value→H) (P:Program) (W:World) (t:TypeId) (v:Value):Prop:=∃fuel x,DataW.trod enc P W 0 (fun _=>true) true fuel t v.cells.toList=some x∧(x.1.weights P t).all (· ≤reachBytes)=true
theorem zBr {base:Nat} {t:TypeId} {v:Value} {n0:Nat} {ks:List K1} {g:Raw→GV} (hu:agDo (P.underlying t)=true) (hk:zwz P n0 t=some ks) (hflat:∀q,(g q).flat=q.cells ks 0) (hs:∀q v,g q≠ .s v)
  (h:RdV enc P W t v) (hv:Value.okWide P W .any base t v):∃q:Raw,v=(g q).val∧Fine enc P W ks q:=by
 obtain ⟨fuel,x,hx,hw⟩:=h
 obtain ⟨q,hq,hf⟩:=zrx (zpW n0 fuel t ks _ _ hk hx hw)
 refine ⟨q, ?_,hf⟩
 have:∃cs,v= .agg cs:=by
  unfold Value.okWide at hv
  cases hd:P.underlying t with
  |none=>rw [hd]at hu;cases hu
  |some d=>
   rw [hd]at hv hu
   cases d<;>first|(cases hu;done)|(obtain ⟨cs,rfl,_⟩:=hv;exact ⟨cs,rfl⟩)
 obtain ⟨cs,rfl⟩:=this
 simp only [Value.cells]at hq
 rw [show (g q).val= .agg ((g q).flat).toArray by
  have:=hs q
  cases hg:g q with
  |s v=>exact absurd hg (this v)
  |u=>rfl
  |c a b=>rfl
  |ar a b c=>rfl]
 rw [hflat,←hq]
theorem zyh {v w:Value} (h:v.cells.toList=[w]) (hv:∀cs,v≠ .agg cs):v=w:=by
 cases v<;>first|(simpa [Value.cells]using h)|exact absurd rfl (hv _)
theorem zAD {base:Nat} {t:TypeId} {v:Value} {d:TypeDesc} (hu:P.underlying t=some d) (hd:agDo (some d)=false) (hv:Value.okWide P W .any base t v):∀cs,v≠ .agg cs:=by
 intro cs e
 subst e
 unfold Value.okWide at hv
 rw [hu]at hv
 cases d<;>first|(cases hd;done)|(simp only [Cell.okWide,Cell.ok,hu]at hv)
theorem zyJ {base:Nat} {t e:TypeId} {v:Value} (ht:P.underlying t=some (.slice e)) (h:RdV enc P W t v) (hv:Value.okWide P W .any base t v):RdT enc P W t v:=by
 obtain ⟨fuel,x,hx,hw⟩:=h
 have hcs:∃w,v.cells.toList=[w]:=by
  rcases DataW.trod_slice ht hx with ⟨h1,_⟩|⟨a,len,cap,_,_,_,_,h1,_⟩
  ·exact ⟨_,h1⟩
  ·exact ⟨_,h1⟩
 obtain ⟨w,hc⟩:=hcs
 have:=zyh hc (zAD ht rfl hv)
 subst this
 exact ⟨fuel,x,by rw [←hc];exact hx,hw⟩
end
end Go.Proofs.YtmjiojflncffeaaGreat.Vc

set_option linter.unusedVariables false
set_option linter.unusedSimpArgs false
namespace Go.Proofs.YtmjiojflncffeaaGreat.Vc
open Go Go.ChangeShapes Go.WideShapes Go.ChangeAt
theorem znK {H:Type} {enc:TypeId×Value→H} {P:Program} {W:World}:∀{ts:List TypeId} {vs:List Value} {ds:List (DataW H)} {ps:List MemPlace},DataW.TrodAll enc P W 0 (fun _=>true) true ts vs ds ps→ds.length=ts.length
 |[],vs,ds,ps,h=>by
  match vs,ds,h with
  |[],[],_=>rfl
 |t::ts,vs,ds,ps,h=>by
  obtain ⟨v,vs',d,ds',p,q,rfl,rfl,rfl,_,h4⟩:=trodAll_cons h
  simp [znK h4]
end Go.Proofs.YtmjiojflncffeaaGreat.Vc

set_option linter.unusedVariables false
set_option linter.unusedSimpArgs false
namespace Go.Proofs.YtmjiojflncffeaaGreat.Vc
open Go Go.Proofs Go.Proofs.YtmjiojflncffeaaGreat Go.ChangeShapes Go.WideShapes Go.ChangeAt
section
variable {H:Type} {enc:TypeId×Value→H} {P:Program} {W:World}
theorem zvi (d:DataW H):1≤Rows.uptoBulk d:=by
 cases d with
 |lit l=>cases l<;>simp [Rows.uptoBulk]
 |_=>simp [Rows.uptoBulk]
def RdB (enc:TypeId×Value→H) (P:Program) (W:World) (t:TypeId) (v:Value) (n:Nat):Prop:=∃fuel x,DataW.trod enc P W 0 (fun _=>true) true fuel t v.cells.toList=some x∧(x.1.weights P t).all (· ≤reachBytes)=true∧Rows.uptoBulk x.1=n
def zwg (enc:TypeId×Value→H) (P:Program) (W:World) (base:Nat):List TypeId→List Value→Nat→Prop
 |[],[],_=>True
 |t::ts,v::vs,n=>∃a b,a+b≤n∧(RdB enc P W t v a∧Value.okWide P W .any base t v)∧zwg enc P W base ts vs b
 |_,_,_=>False
theorem RdB.v {t:TypeId} {v:Value} {n:Nat} (h:RdB enc P W t v n):RdV enc P W t v:=by
 obtain ⟨fuel,x,h1,h2,_⟩:=h
 exact ⟨fuel,x,h1,h2⟩
theorem ztP {base:Nat}:∀{ts:List TypeId} {vs:List Value} {ds:List (DataW H)} {ps:List MemPlace} {n:Nat},(∀(j:Nat) t v,ts[j]? =some t→vs[j]? =some v→Value.okWide P W .any base t v)→
  DataW.TrodAll enc P W 0 (fun _=>true) true ts vs ds ps→(DataW.weightsEach P ts ds).all (· ≤reachBytes)=true→Rows.uptoBulkAll ds≤n→zwg enc P W base ts vs n
 |[],vs,ds,ps,n,_,h,_,_=>by
  match vs,ds,h with
  |[],[],_=>trivial
 |t::ts,vs,ds,ps,n,hv,h,hw,hn=>by
  obtain ⟨v,vs',d,ds',p,q,rfl,rfl,rfl,⟨fuel,h3⟩,h4⟩:=trodAll_cons h
  simp only [DataW.weightsEach,List.all_append,Bool.and_eq_true]at hw
  simp only [Rows.uptoBulkAll]at hn
  exact ⟨Rows.uptoBulk d,Rows.uptoBulkAll ds',hn,⟨⟨fuel,_,h3,hw.1,rfl⟩,hv 0 t v rfl rfl⟩,ztP (fun j t v h1 h2=>hv (j+1) t v (by simpa using h1) (by simpa using h2)) h4 hw.2 (Nat.le_refl _)⟩
theorem zrZ {base:Nat} {t:TypeId} {ts:List TypeId} {vs:List Value} {n:Nat} (h:zwg enc P W base (t::ts) vs n):∃v vs' a b,vs=v::vs'∧a+b≤n∧RdB enc P W t v a∧Value.okWide P W .any base t v∧zwg enc P W base ts vs' b:=by
 cases vs with
 |nil=>exact h.elim
 |cons v vs=>
  obtain ⟨a,b,h1,h2,h3⟩:=h
  exact ⟨v,vs,a,b,rfl,h1,h2.1,h2.2,h3⟩
theorem zAh {base:Nat} {vs:List Value} {n:Nat} (h:zwg enc P W base [] vs n):vs=[]:=by
 cases vs with
 |nil=>rfl
 |cons v vs=>exact h.elim
end
theorem zoS {C:Checked} {os:Os} {f:FuncId} {fn:Func} {s:ChangeSpec} {H:Type} {enc:TypeId×Value→H} {tb:TypeId} {ts:List TypeId} {laid:List (String×DataW Unit)} {F:Stop.Interp}
  (own:ownKnob C.prog.godebug=none) (hl:laidOutB C.prog=true) (started:os.Started) (noInit:C.prog.inits.idxOf? f=none) (hfn:C.prog.funcs[f]? =some fn)
  (witness:∃(w:World) (tape:Tape) (i:Input),w.os=os∧(w.forCall tape i).Shaped C.prog∧i.vars=[]∧Input.okWide C.prog (w.forCall tape i) .any w.heap.size f i∧
   (Rows.OpenSpec.upto s).preRow enc C.prog fn [] false laid (w.forCall tape i).memory i.args∧({}:Assume).holds C.prog (lone (Frame.enter C.prog f i.args .normal) [] (w.forCall tape i)))
  (hr:(fn.params.toList.all fun t=>C.prog.readableRec t&&decide (t<C.prog.types.size))=true) (hv:s.vars=[]) (hres:fn.resultTypes= #[tb]) (htb:C.prog.underlying tb=some .bool)
  (hts:fn.params.toList=ts) (hs:∀ds:List (DataW H),ds.length=ts.length→s.fn H ds={results:=[.lit (.bool true)],args:=ds})
  (h:∀W base vs,zwg enc C.prog W base ts vs 1048576→W.ShapedOpen C.prog→Spec C.prog f vs PH.no W fun rs _=>rs=[.s (.bool true)]):
  ReturnsInHanded {} C os f .any ((Rows.OpenSpec.upto s).preRow enc C.prog fn [] false laid) (((Rows.OpenSpec.upto s).at F).post enc C.prog fn false true false false):=by
 refine returnsInHanded_of_row (C:=C) (s:=Rows.OpenSpec.upto s) own started noInit hfn witness ?_
 intro W base args ds gs before hval hW _ hcond hwt _ hsh _
 have hW':=hW
 obtain ⟨p,q,hA,hV,rfl,hfz,hnd⟩:=hW'
 have hv':(Rows.OpenSpec.upto s).vars=[]:=hv
 rw [hv']at hV
 obtain ⟨rfl,rfl⟩:=trodVars_none hV
 have hvt:(Rows.OpenSpec.upto s).bare.plain.varTypes C.prog=[]:=by
  have:(Rows.OpenSpec.upto s).bare.plain.vars=[]:=hv
  simp [DataSpec.varTypes,this]
 rw [hvt,List.append_nil,List.append_nil]at hwt
 have hk:=of_decide_eq_true (hcond _ rfl)
 rw [List.append_nil]at hk
 have hlen:=znK hA
 exact (zqN (s:=s) (again:=false) hl hr hv hres htb (by rw [List.append_nil];exact hs ds (by rw [hlen,hts])) hW (h W base args.toList (hts▸ztP (fun j t v h1 h2=>hval j t v (by simpa using h1) (by simpa using h2)) hA hwt hk) hsh)).mono fun e W' ⟨v,h1,h2,_⟩=>⟨v,h1,h2⟩
end Go.Proofs.YtmjiojflncffeaaGreat.Vc

set_option linter.unusedVariables false
set_option linter.unusedSimpArgs false
set_option maxRecDepth 100000
namespace Go.Proofs.YtmjiojflncffeaaGreat.Vc
open Go Go.Proofs Go.Proofs.YtmjiojflncffeaaGreat Go.ChangeShapes Go.WideShapes Go.ChangeAt
def zeP (op:Op):Prop:=(Lit.int .i64 op.node).wf=true∧op.name.size≤140737488355328
def Stamp.ofRaw (q:Raw) (o:Nat):Stamp:=⟨q.x o,q.x (o+1)⟩
def kStamp:List K1:=[.i .i64]++([.i .i64])
theorem zxf:kStamp.length=2:=rfl
theorem zvn (q:Raw) (o:Nat):GV.flat (zaA (Stamp.ofRaw q o))=q.cells kStamp o:=by
 simp only [zaA,Stamp.ofRaw,kStamp,GV.flat,zfP,List.length_append,List.length_cons,List.length_nil,zpu,zrI,znt,zqq]
 simp [Raw.cells,Raw.at,Nat.add_assoc]
def Op.ofRaw (q:Raw) (o:Nat):Op:=⟨Stamp.ofRaw q o,q.x (o+2),q.x (o+3),q.x (o+4),q.y (o+5),q.y (o+6),q.y (o+7)⟩
def kOp:List K1:=kStamp++([.i .i64]++([.i .i64]++([.i .i64]++([.s]++([.s]++([.s]))))))
theorem ztU (q:Raw) (o:Nat):GV.flat (gOp (Op.ofRaw q o))=q.cells kOp o:=by
 simp only [gOp,Op.ofRaw,kOp,GV.flat,zfP,List.length_append,List.length_cons,List.length_nil,zpu,zrI,zxf,znt,zqq,zvn]
 simp [Raw.cells,Raw.at,Nat.add_assoc]
theorem zAY:ownKnob Tryz.prog.godebug=none:=by kernel_rfl
theorem zui:laidOutB Tryz.prog=true:=by kernel_rfl
theorem zpS:Tryz.prog.cellsOf 26=8:=by kernel_rfl
theorem zzi {H:Type} (l:List (DataW H)):l.length≤Rows.uptoBulkAll l:=by
 induction l with
 |nil=>simp
 |cons x l ih=>have:=zvi x;simp only [Rows.uptoBulkAll,List.length_cons];omega
end Go.Proofs.YtmjiojflncffeaaGreat.Vc

set_option linter.unusedVariables false
set_option linter.unusedSimpArgs false
set_option maxRecDepth 100000
namespace Go.Proofs.YtmjiojflncffeaaGreat.Vc
open Go Go.Proofs
def T1:PT:=⟨[(1,⟨0,⟨#[]⟩,[],[5]⟩),(2,PN.bare),(5,⟨1,⟨#[97]⟩,[],[]⟩)],[1],1⟩
end Go.Proofs.YtmjiojflncffeaaGreat.Vc

set_option linter.unusedVariables false
set_option maxRecDepth 100000
namespace Go.Proofs.YtmjiojflncffeaaGreat.Vc
open Go Go.Proofs
end Go.Proofs.YtmjiojflncffeaaGreat.Vc

set_option linter.unusedVariables false
set_option linter.unusedSimpArgs false
set_option maxRecDepth 100000
namespace Go.Proofs.YtmjiojflncffeaaGreat.Vc
open Go Go.Proofs
end Go.Proofs.YtmjiojflncffeaaGreat.Vc

set_option linter.unusedVariables false
set_option linter.unusedSimpArgs false
set_option maxRecDepth 100000
namespace Go.Proofs.YtmjiojflncffeaaGreat.Vc
open Go Go.Proofs
theorem Hist.cut {mk:Value} {Ts T':PT} {us:List Undo} {r:Nat} (h:Hist mk Ts (us.take r) T') (h0:0<r) (hr:r≤us.length):
  ∃T'' op,Hist mk Ts (us.take (r - 1)) T''∧zaL T'' op=true∧(∃k,T''.ok k)∧us.getD (r - 1) zdJ=T''.undo mk op∧T'=T''.does op:=by
 have e:us.take r=us.take (r - 1)++[us.getD (r - 1) zdJ]:=by
  obtain ⟨k,rfl⟩:∃k,r=k+1:=⟨r - 1,by omega⟩
  rw [List.take_add_one,Nat.add_sub_cancel,List.getD_eq_getElem?_getD,List.getElem?_eq_getElem (by omega)]
  rfl
 rw [e]at h
 exact h.last
theorem Hist.top {mk:Value} {Ts T':PT} {us:List Undo} {r:Nat} (h:Hist mk Ts (us.take r) T') (h0:0<r) (hr:r≤us.length):
  T'.ids.getLast? =some (us.getD (r - 1) zdJ).ix∧T'.last=(us.getD (r - 1) zdJ).ix:=by
 obtain ⟨T'',op,_,_,_,e1,rfl⟩:=h.cut h0 hr
 rw [e1,zxz,zpE,zrP]
 simp
theorem zxc (B:PT) (u:Undo):(B.undone u).ids=B.ids.dropLast:=by
 unfold PT.undone
 simp only
 split
 ·rfl
 ·split
  ·rw [ztp]
  ·rfl
theorem zyT {T B:PT} {op:Op} {k:Nat} (hm:zaL T op=true) (hT:T.ok k) (hv:B.view=(T.does op).view):(op.kind=1→∃x,B.get op.parent=some x)∧(op.kind≠1→∃x,B.get op.node=some x):=by
 refine ⟨fun k1=> ?_,fun k1=> ?_⟩
 ·obtain ⟨hn,x,hx⟩:=zhy hm k1
  have hne:op.parent≠op.node:=fun e=>by rw [e,hn]at hx;cases hx
  have:B.view op.parent=some x.view:=by
   rw [hv,zed hm k1]
   simp only [zcN,if_neg hne]
   exact PT.view_get hx
  obtain ⟨y,hy,_⟩:=zbk this
  exact ⟨y,hy⟩
 ·obtain ⟨x,hx⟩:=zga hm k1
  by_cases k2:op.kind=2
  ·obtain ⟨a,this⟩:∃a,B.view op.node=some a:=⟨_,by rw [hv,zen hx k2];exact if_pos rfl⟩
   obtain ⟨y,hy,_⟩:=zbk this
   exact ⟨y,hy⟩
  ·obtain ⟨a,this⟩:∃a,B.view op.node=some a:=⟨_,by rw [hv,zec hx (hT.attrs _ _ hx).1 k1 k2];exact if_pos rfl⟩
   obtain ⟨y,hy,_⟩:=zbk this
   exact ⟨y,hy⟩
theorem zhn (T:PT):(zae T).length≤T.nodes.length:=by
 refine Nat.le_trans (List.length_filter_le _ _) (Nat.le_trans (List.length_filterMap_le _ _) ?_)
 simp [zbz,zqr]
theorem zhk {T:PT} {k:Nat} (h:T.ok k) {t:TN} (ht:t∈zae T):t.attrs.length≤k:=by
 have h1:=(List.mem_filter.1 ht).1
 obtain ⟨n,_,h2⟩:=List.mem_filterMap.1 h1
 cases hx:T.get n with
 |none=>rw [hx]at h2;cases h2
 |some x=>
  rw [hx]at h2
  obtain rfl:zbw n x=t:=by simpa using h2
  have:=(h.attrs n x hx).2
  simpa [zbw,zaR,zbd,zjS]using this
end Go.Proofs.YtmjiojflncffeaaGreat.Vc

set_option linter.unusedVariables false
set_option linter.unusedSimpArgs false
namespace Go.Proofs.YtmjiojflncffeaaGreat.Vc
open Go Go.Proofs
def PT.step (T:PT) (op:Op):PT:=if zaL T op then T.does op else T
theorem zgK {T:PT} {op:Op} (h:zaL T op=true):T.step op=T.does op:=if_pos h
theorem zkl {T:PT} {op:Op} (h:zaL T op=false):T.step op=T:=by rw [PT.step,h];rfl
def zbm (B:PT) (l:List Op):PT:=l.foldl PT.step B
theorem zqe (B:PT) (op:Op) (l:List Op):zbm B (op::l)=zbm (B.step op) l:=rfl
theorem zgm (B:PT) (l:List Op) (op:Op):zbm B (l++[op])=(zbm B l).step op:=by simp [zbm,List.foldl_append]
theorem zmJ (B:PT) (a b:List Op):zbm B (a++b)=zbm (zbm B a) b:=List.foldl_append
theorem zxQ {T:PT} {k:Nat} {op:Op} (h:T.ok k) (ho:zeP op):(T.step op).ok (k+1):=by
 cases hm:zaL T op with
 |false=>rw [zkl hm];exact h.up (by omega)
 |true=>rw [zgK hm];exact zxy h hm ho.1
theorem zeB:∀{l:List Op} {B:PT} {k:Nat},B.ok k→(∀op∈l,zeP op)→(zbm B l).ok (k+l.length)
 |[],_,_,h,_=>h
 |op::l,B,k,h,ho=>by
  have:=zeB (zxQ h (ho op (by simp))) fun x hx=>ho x (List.mem_cons_of_mem _ hx)
  rw [zqe]
  exact this.up (by simp only [List.length_cons];omega)
theorem zyU {T:PT} {k:Nat} {op:Op} (hg:VGood T.view) (h:T.ok k):VGood (T.step op).view:=by
 cases hm:zaL T op with
 |false=>rw [zkl hm];exact hg
 |true=>rw [zgK hm];exact zyl hg h hm
theorem zgc:∀{l:List Op} {B:PT} {k:Nat},B.ok k→VGood B.view→(∀op∈l,zeP op)→VGood (zbm B l).view
 |[],_,_,_,hg,_=>hg
 |op::l,B,k,h,hg,ho=>by
  rw [zqe]
  exact zgc (zxQ h (ho op (by simp))) (zyU hg h) fun x hx=>ho x (List.mem_cons_of_mem _ hx)
theorem zAm {T T':PT} {k k':Nat} (h:T.ok k) (h':T'.ok k') (hv:T.view=T'.view) (op:Op):zaL T op=zaL T' op:=zrk hv (zss h h' hv).2 op
theorem zxg {T I:PT} {k j q:Nat} (h:T.ok k) (hI:I.ok j) (hv:T.view=I.view) (hj:j≤q) (hl:T.last≤q) (hi:T.ids.length≤q):T.ok q:=by
 refine ⟨h.nod, ?_,h.last0,hl,hi,h.keys,fun n x hx=> ?_⟩
 ·have:=hI.many
  have:=(zss h hI hv).2
  omega
 ·have e:I.view n=some x.view:=by rw [←hv];exact PT.view_get hx
  obtain ⟨y,hy,hyv⟩:=zbk e
  have e2:zbv x.attrs=zbv y.attrs:=(congrArg AN.attr hyv).symm
  have h1:=(h.attrs n x hx).1
  have h2:=hI.attrs n y hy
  have:=(zsk h1 h2.1 e2).length_eq
  rw [List.length_map,List.length_map]at this
  exact ⟨h1,by omega⟩
theorem zuX (T:PT) (u:Undo):(T.undone u).last=T.last:=by
 unfold PT.undone
 simp only
 split
 ·rfl
 ·split
  ·rw [zpx]
  ·rfl
inductive LHist (mk:Value) (B:PT) (i0:List Int):List Done→List Int→Prop
 |nil:LHist mk B i0 [] i0
 |no {ds:List Done} {ids:List Int} {op:Op}:LHist mk B i0 ds ids→zaL (zbm B (ds.map (·.op))) op=false→LHist mk B i0 (ds++[⟨op,false,zdJ⟩]) ids
 |yes {ds:List Done} {T:PT} {k:Nat} {op:Op}:LHist mk B i0 ds T.ids→zaL (zbm B (ds.map (·.op))) op=true→T.ok k→T.view=(zbm B (ds.map (·.op))).view→zaL T op=true→LHist mk B i0 (ds++[⟨op,true,T.undo mk op⟩]) (T.ids++[T.last+1])
theorem LHist.last {mk:Value} {B:PT} {i0 ids:List Int} {ds:List Done} {d:Done} (h:LHist mk B i0 (ds++[d]) ids):
  (d.taken=false∧d.undo=zdJ∧LHist mk B i0 ds ids∧zaL (zbm B (ds.map (·.op))) d.op=false)∨
  (d.taken=true∧zaL (zbm B (ds.map (·.op))) d.op=true∧∃T k,T.ok k∧T.view=(zbm B (ds.map (·.op))).view∧zaL T d.op=true∧d.undo=T.undo mk d.op∧LHist mk B i0 ds T.ids∧ids=T.ids++[T.last+1]):=by
 generalize hl:ds++[d]=l at h
 cases h with
 |nil=>simp at hl
 |no h hm=>
  obtain ⟨rfl,e⟩:=List.append_inj' hl rfl
  cases e
  exact .inl ⟨rfl,rfl,h,hm⟩
 |yes h hm hk hv ht=>
  obtain ⟨rfl,e⟩:=List.append_inj' hl rfl
  cases e
  exact .inr ⟨rfl,hm,_,_,hk,hv,ht,rfl,h,rfl⟩
theorem LHist.taken {mk:Value} {B:PT} {i0 ids:List Int} {ds:List Done} {d:Done} (h:LHist mk B i0 (ds++[d]) ids):d.taken=zaL (zbm B (ds.map (·.op))) d.op:=by
 rcases h.last with ⟨h1,_,_,h2⟩|⟨h1,h2,_⟩<;>rw [h1,h2]
theorem LHist.isof {mk:Value} {B:PT} {i0 ids:List Int} {ds:List Done} (h:LHist mk B i0 ds ids):∀d∈ds,d.undo.of= .pointer none∨d.undo.of=mk:=by
 induction h with
 |nil=>simp
 |no _ _ ih=>
  intro d hd
  rcases List.mem_append.1 hd with hd|hd
  ·exact ih d hd
  ·rw [List.mem_singleton.1 hd];exact .inl rfl
 |yes _ _ _ _ _ ih=>
  intro d hd
  rcases List.mem_append.1 hd with hd|hd
  ·exact ih d hd
  ·rw [List.mem_singleton.1 hd];exact .inr (zxW _ _ _)
theorem LHist.drop {mk:Value} {B:PT} {i0 ids:List Int} {a:List Done}:∀{b:List Done},LHist mk B i0 (a++b) ids→∃i1,LHist mk B i0 a i1∧LHist mk (zbm B (a.map (·.op))) i1 b ids:=by
 intro b
 generalize hl:a++b=l
 intro h
 induction h generalizing b with
 |nil=>
  obtain ⟨rfl,rfl⟩:a=[]∧b=[]:=by simpa using hl
  exact ⟨i0, .nil, .nil⟩
 | @no ds ids op h hm ih=>
  rcases List.eq_nil_or_concat b with rfl|⟨b',d,rfl⟩
  ·rw [List.append_nil]at hl
   subst hl
   exact ⟨ids, .no h hm, .nil⟩
  ·rw [List.concat_eq_append,←List.append_assoc]at hl
   obtain ⟨h1,h2⟩:=List.append_inj' hl rfl
   cases h2
   obtain ⟨i1,g1,g2⟩:=ih h1
   refine ⟨i1,g1, ?_⟩
   rw [List.concat_eq_append]
   refine .no g2 ?_
   rw [←zmJ,←List.map_append,h1]
   exact hm
 | @yes ds T k op h hm hk hv ht ih=>
  rcases List.eq_nil_or_concat b with rfl|⟨b',d,rfl⟩
  ·rw [List.append_nil]at hl
   subst hl
   exact ⟨_, .yes h hm hk hv ht, .nil⟩
  ·rw [List.concat_eq_append,←List.append_assoc]at hl
   obtain ⟨h1,h2⟩:=List.append_inj' hl rfl
   cases h2
   obtain ⟨i1,g1,g2⟩:=ih h1
   refine ⟨i1,g1, ?_⟩
   rw [List.concat_eq_append]
   have e:zbm (zbm B (a.map (·.op))) (b'.map (·.op))=zbm B (ds.map (·.op)):=by rw [←zmJ,←List.map_append,h1]
   exact .yes g2 (by rw [e];exact hm) hk (by rw [e];exact hv) ht
structure Fl (mk:Value) (B:PT) (i0:List Int) (q:Nat) (T:PT) (ds:List Done):Prop where
 hist:LHist mk B i0 ds T.ids
 view:T.view=(zbm B (ds.map (·.op))).view
 ex:∃k,T.ok k
 last:T.last≤q
 ids:T.ids.length≤q
section
variable {mk:Value} {B T:PT} {i0:List Int} {q kb:Nat} {ds:List Done} {d:Done}
theorem Fl.tok (h:Fl mk B i0 q T ds) (hB:B.ok kb) (ho:∀d∈ds,zeP d.op) (hq:kb+ds.length≤q):T.ok q:=by
 obtain ⟨k,hk⟩:=h.ex
 exact zxg hk (zeB hB (by simpa using ho)) h.view (by rw [List.length_map];exact hq) h.last h.ids
theorem Fl.up (h:Fl mk B i0 q T ds) {q':Nat} (hq:q≤q'):Fl mk B i0 q' T ds:=⟨h.hist,h.view,h.ex,by have:=h.last;omega,by have:=h.ids;omega⟩
theorem Fl.good (h:Fl mk B i0 q T ds) (hB:B.ok kb) (hg:VGood B.view) (ho:∀d∈ds,zeP d.op):VGood T.view:=by
 rw [h.view]
 exact zgc hB hg (by simpa using ho)
theorem Fl.back (h:Fl mk B i0 q T (ds++[d])) (hB:B.ok kb) (ho:∀d∈ds,zeP d.op):
  (d.undo=zdJ∧Fl mk B i0 q T ds)∨
  (d.undo.of=mk∧T.ids.getLast? =some d.undo.ix∧((d.undo.op.kind=1→∃x,T.get d.undo.op.parent=some x)∧(d.undo.op.kind≠1→∃x,T.get d.undo.op.node=some x))∧Fl mk B i0 q (T.undone d.undo) ds):=by
 obtain ⟨k,hk⟩:=h.ex
 have hI:=zeB hB (l:=ds.map (·.op)) (by simpa using ho)
 have hv:=h.view
 rw [List.map_append,List.map_cons,List.map_nil,zgm]at hv
 rcases h.hist.last with ⟨h1,h2,h3,h4⟩|⟨h1,h2,W,j,h3,h4,h5,h6,h7,h8⟩
 ·rw [zkl h4]at hv
  exact .inl ⟨h2,h3,hv,⟨k,hk⟩,h.last,h.ids⟩
 ·rw [zgK h2,←zrY h5 h3 hI h4]at hv
  refine .inr ⟨by rw [h6];exact zxW _ _ _,by rw [h8,h6,zxz];simp,by rw [h6,zBF];exact zyT h5 h3 hv, ?_⟩
  obtain ⟨g1,g2⟩:=zyz (mk:=mk) h5 h3 hk hv
  rw [h6]
  have e:(T.undone (W.undo mk d.op)).ids=W.ids:=by rw [zxc,h8];simp
  refine ⟨by rw [e];exact h7,by rw [g1];exact h4,⟨_,g2⟩,by rw [zuX];exact h.last, ?_⟩
  rw [e]
  have:=h.ids
  rw [h8,List.length_append]at this
  omega
theorem Fl.no {op:Op} (h:Fl mk B i0 q T ds) (hB:B.ok kb) (ho:∀d∈ds,zeP d.op) (hm:zaL T op=false):Fl mk B i0 (q+1) T (ds++[⟨op,false,zdJ⟩]):=by
 obtain ⟨k,hk⟩:=h.ex
 have hI:=zeB hB (l:=ds.map (·.op)) (by simpa using ho)
 have hm':zaL (zbm B (ds.map (·.op))) op=false:=by rw [←zAm hk hI h.view];exact hm
 refine ⟨.no h.hist hm', ?_,⟨k,hk⟩,by have:=h.last;omega,by have:=h.ids;omega⟩
 rw [List.map_append,List.map_cons,List.map_nil,zgm,zkl hm']
 exact h.view
theorem Fl.yes {op:Op} (h:Fl mk B i0 q T ds) (hB:B.ok kb) (ho:∀d∈ds,zeP d.op) (hop:zeP op) (hm:zaL T op=true):Fl mk B i0 (q+1) (T.does op) (ds++[⟨op,true,T.undo mk op⟩]):=by
 obtain ⟨k,hk⟩:=h.ex
 have hI:=zeB hB (l:=ds.map (·.op)) (by simpa using ho)
 have hm':zaL (zbm B (ds.map (·.op))) op=true:=by rw [←zAm hk hI h.view];exact hm
 refine ⟨by rw [zpE];exact .yes h.hist hm' hk h.view hm, ?_,⟨_,zxy hk hm hop.1⟩,by rw [zrP];have:=h.last;omega,by rw [zpE,List.length_append,List.length_singleton];have:=h.ids;omega⟩
 rw [List.map_append,List.map_cons,List.map_nil,zgm,zgK hm']
 exact zrY hm hk hI h.view
end
structure PL where
 T:PT
 B:PT
 fr:Int
 ds:List Done
 red:Int
 i0:List Int
structure PL.good (p:PL) (mk:Value) (kb q:Nat):Prop where
 fl:Fl mk p.B p.i0 q p.T p.ds
 bok:p.B.ok kb
 bgood:VGood p.B.view
 many:kb+p.ds.length≤q
 ris:Rising (p.ds.map Done.k)
 ops:∀d∈p.ds,zeP d.op
def PL.new:PL:=⟨T0,T0,0,[],0,[]⟩
theorem PL.new_good (mk:Value):PL.new.good mk 0 0:=⟨⟨.nil,rfl,⟨0,T0_ok⟩,by decide,by decide⟩,T0_ok,T0_good,by simp [PL.new],List.Pairwise.nil,by simp [PL.new]⟩
theorem PL.good.tok {p:PL} {mk:Value} {kb q:Nat} (h:p.good mk kb q):p.T.ok q:=h.fl.tok h.bok h.ops h.many
theorem PL.good.tgood {p:PL} {mk:Value} {kb q:Nat} (h:p.good mk kb q):VGood p.T.view:=h.fl.good h.bok h.bgood h.ops
end Go.Proofs.YtmjiojflncffeaaGreat.Vc

set_option linter.unusedVariables false
set_option linter.unusedSimpArgs false
namespace Go.Proofs.YtmjiojflncffeaaGreat.Vc
open Go
def leB (a b:ByteArray):Bool:=_root_.Go.Op.bytesLess a.data.toList b.data.toList||decide (a=b)
def zas:ByteArray→List Attr→Bool
 |_,[]=>true
 |k,a::l=> !leB a.key k&& !decide (a.value=⟨#[]⟩)&&zcl a.key a.value&&zas a.key l
def zlm (last:Int) (r:TN):Bool:= !decide (r.node≤last)&&(zbc r.node==(decide (r.parent=0)&&decide (r.name=⟨#[]⟩)))&&(zbc r.node||zcW r.name)
def PT.sure (T:PT) (n:Int):PT:=match T.get n with
 | .none=>T.add n
 | .some _=>T
def PT.row (T:PT) (r:TN):PT:=(T.sure r.node).place r.node r.parent r.name
def PT.putAll (T:PT) (n:Int) (l:List Attr):PT:=l.foldl (fun T a=>T.attr n a.key a.value) T
def zeJ:PT→Int→List TN→Option PT
 |T,_,[]=> .some T
 |T,last,r::l=>if (zlm last r&&zas ⟨#[]⟩ r.attrs)=true then zeJ ((T.row r).putAll r.node r.attrs) r.node l else .none
def zpY (l:List Attr):List (ByteArray×ByteArray):=l.foldl (fun s a=>zkx s a.key a.value) []
def zsL (r:TN):PN:=⟨r.parent,r.name,zpY r.attrs,[]⟩
def zdv:List TN→Int→Option PN
 |[],n=>T0.get n
 |r::l,n=>if r.node=n then .some (zsL r)else zdv l n
theorem zqd {T:PT} {n:Int} (j:Int):(T.sure n).get j=if j=n then .some ((T.get n).getD PN.bare)else T.get j:=by
 unfold PT.sure
 cases h:T.get n with
 |none=>simp only;rw [PT.get_add h];rfl
 |some x=>
  simp only
  by_cases e:j=n
  ·rw [if_pos e,e,h];rfl
  ·rw [if_neg e]
theorem zkV {n:Int}:∀(l:List Attr) (T:PT) (j:Int),(T.putAll n l).get j=if j=n then (T.get j).map fun x=>{x with attrs:=l.foldl (fun s a=>zkx s a.key a.value) x.attrs}else T.get j
 |[],T,j=>by
  unfold PT.putAll
  simp
 |a::l,T,j=>by
  have ih:=zkV (n:=n) l (T.attr n a.key a.value) j
  show ((T.attr n a.key a.value).putAll n l).get j=_
  rw [ih]
  unfold PT.attr
  rw [PT.get_mod]
  by_cases e:j=n
  ·simp only [e,if_true,List.foldl_cons]
   cases T.get n with
   |none=>rfl
   |some x=>rfl
  ·simp only [e,if_false]
theorem zxS {T:PT} {r:TN} (h:∀x,T.get r.node= .some x→x.attrs=[]∧x.kids=[]) (j:Int):((T.row r).putAll r.node r.attrs).get j=if j=r.node then .some (zsL r)else T.get j:=by
 rw [zkV,PT.row,zkt,zqd]
 by_cases e:j=r.node
 ·simp only [e,if_true,Option.map_some,zsL,zpY,Option.some.injEq]
  cases hg:T.get r.node with
  |none=>rfl
  |some x=>
   obtain ⟨h1,h2⟩:=h x hg
   simp only [Option.getD_some,h1,h2]
 ·simp only [e,if_false]
theorem zhv {last:Int} {r:TN} (h:zlm last r=true):last<r.node:=by
 simp only [zlm,Bool.and_eq_true,Bool.not_eq_true',decide_eq_false_iff_not]at h
 omega
theorem zix {T T':PT} {last:Int} {r:TN} {l:List TN} (h:zeJ T last (r::l)= .some T'):zlm last r=true∧zas ⟨#[]⟩ r.attrs=true∧zeJ ((T.row r).putAll r.node r.attrs) r.node l= .some T':=by
 rw [zeJ]at h
 split at h
 ·rename_i e
  rw [Bool.and_eq_true]at e
  exact ⟨e.1,e.2,h⟩
 ·cases h
theorem ziz:∀{l:List TN} {T T':PT} {last:Int},zeJ T last l= .some T'→∀r∈l,last<r.node
 |[],_,_,_,_,r,hr=>by simp at hr
 |r0::l,T,T',last,h,r,hr=>by
  obtain ⟨h1,_,h3⟩:=zix h
  have:=zhv h1
  rcases List.mem_cons.1 hr with rfl|hr
  ·exact this
  ·have:=ziz h3 r hr;omega
theorem zeq:∀{l:List TN} {n:Int},(∀r∈l,r.node≠n)→zdv l n=T0.get n
 |[],n,_=>rfl
 |r::l,n,h=>by
  rw [zdv,if_neg (h r (by simp))]
  exact zeq fun r hr=>h r (by simp [hr])
theorem zsT {n:Int} {x:PN} (h:T0.get n= .some x):x=PN.bare:=by
 have:=zgd h
 simp only [T0,List.mem_cons,List.not_mem_nil,or_false,Prod.mk.injEq]at this
 rcases this with ⟨_,rfl⟩|⟨_,rfl⟩<;>rfl
theorem zrD:∀{l:List TN} {T T':PT} {last:Int},zeJ T last l= .some T'→(∀n,last<n→T.get n=T0.get n)→∀n,T'.get n=if n≤last then T.get n else zdv l n
 |[],T,T',last,h,h0,n=>by
  cases h
  split
  ·rfl
  ·exact h0 n (by omega)
 |r::l,T,T',last,h,h0,n=>by
  obtain ⟨h1,_,h3⟩:=zix h
  have hl:=zhv h1
  have hg:=fun j=>zxS (T:=T) (r:=r) (fun x hx=>by rw [h0 _ hl]at hx;rw [zsT hx];exact ⟨rfl,rfl⟩) j
  have ih:=zrD h3 (fun n hn=>by rw [hg,if_neg (by omega)];exact h0 n (by omega)) n
  rw [ih,hg]
  by_cases e1:n≤last
  ·rw [if_pos (show n≤r.node by omega),if_neg (show ¬n=r.node by omega),if_pos e1]
  ·rw [if_neg e1,zdv]
   by_cases e2:n=r.node
   ·rw [if_pos (show n≤r.node by omega),if_pos e2,if_pos e2.symm]
   ·rw [if_neg (show ¬r.node=n from fun e=>e2 e.symm)]
    by_cases e3:n≤r.node
    ·rw [if_pos e3,if_neg e2,h0 n (by omega)]
     exact (zeq fun q hq=>by have:=ziz h3 q hq;omega).symm
    ·rw [if_neg e3]
theorem zsN (T:PT) (k:Int) (f:PN→PN):(T.mod k f).nodes.map (·.1)=T.nodes.map (·.1):=by rw [PT.mod,zgD]
theorem znR {n:Int}:∀(l:List Attr) (T:PT),(T.putAll n l).nodes.map (·.1)=T.nodes.map (·.1)∧(T.putAll n l).ids=T.ids∧(T.putAll n l).last=T.last
 |[],T=>⟨rfl,rfl,rfl⟩
 |a::l,T=>by
  obtain ⟨h1,h2,h3⟩:=znR (n:=n) l (T.attr n a.key a.value)
  refine ⟨?_,h2,h3⟩
  show ((T.attr n a.key a.value).putAll n l).nodes.map (·.1)=_
  rw [h1]
  exact zsN T _ _
theorem zAu {T:PT} {r:TN} (hn:(T.nodes.map (·.1)).Nodup):((T.row r).nodes.map (·.1)).Nodup∧(T.row r).nodes.length≤T.nodes.length+1∧(T.row r).ids=T.ids∧(T.row r).last=T.last:=by
 have hk:(T.row r).nodes.map (·.1)=(T.sure r.node).nodes.map (·.1):=zsN _ _ _
 have hl:(T.row r).nodes.length=(T.sure r.node).nodes.length:=by simpa using congrArg List.length hk
 rw [hk,hl]
 have e1:(T.row r).ids=(T.sure r.node).ids:=rfl
 have e2:(T.row r).last=(T.sure r.node).last:=rfl
 rw [e1,e2]
 unfold PT.sure
 cases h:T.get r.node with
 |some x=>exact ⟨hn,Nat.le_succ _,rfl,rfl⟩
 |none=>
  refine ⟨?_,by simp [PT.add],rfl,rfl⟩
  show ((T.nodes++[(r.node,PN.bare)]).map (·.1)).Nodup
  rw [List.map_append,List.nodup_append]
  refine ⟨hn,by simp,fun x hx y hy=> ?_⟩
  simp only [List.map_cons,List.map_nil,List.mem_singleton]at hy
  subst hy
  exact fun e=>(zct.1 h) (e▸hx)
theorem zpK:∀{l:List TN} {T T':PT} {last:Int},zeJ T last l= .some T'→(T.nodes.map (·.1)).Nodup→(T'.nodes.map (·.1)).Nodup∧T'.nodes.length≤T.nodes.length+l.length∧T'.ids=T.ids∧T'.last=T.last
 |[],T,T',last,h,hn=>by cases h;exact ⟨hn,by simp,rfl,rfl⟩
 |r::l,T,T',last,h,hn=>by
  obtain ⟨_,_,h3⟩:=zix h
  obtain ⟨a1,a2,a3,a4⟩:=zAu (r:=r) hn
  obtain ⟨b1,b2,b3⟩:=znR (n:=r.node) r.attrs (T.row r)
  have bl:((T.row r).putAll r.node r.attrs).nodes.length=(T.row r).nodes.length:=by simpa using congrArg List.length b1
  obtain ⟨c1,c2,c3,c4⟩:=zpK h3 (by rw [b1];exact a1)
  exact ⟨c1,by rw [List.length_cons];omega,by rw [c3,b2,a3],by rw [c4,b3,a4]⟩
theorem zpP:∀{l:List TN} {T T':PT} {last:Int},zeJ T last l= .some T'→∀r∈l,zas ⟨#[]⟩ r.attrs=true∧zbc r.node=(decide (r.parent=0)&&decide (r.name=⟨#[]⟩))∧(zbc r.node=true∨zcW r.name=true)
 |[],_,_,_,_,r,hr=>by simp at hr
 |r0::l,T,T',last,h,r,hr=>by
  obtain ⟨h1,h2,h3⟩:=zix h
  rcases List.mem_cons.1 hr with rfl|hr
  ·simp only [zlm,Bool.and_eq_true,beq_iff_eq,Bool.or_eq_true]at h1
   exact ⟨h2,h1.1.2,h1.2⟩
  ·exact zpP h3 r hr
theorem zeu:∀{l:List TN} {n:Int} {x:PN},zdv l n= .some x→(∃r∈l,r.node=n∧x=zsL r)∨(T0.get n= .some x)
 |[],n,x,h=> .inr h
 |r::l,n,x,h=>by
  rw [zdv]at h
  split at h
  ·rename_i e;cases h;exact .inl ⟨r,by simp,e,rfl⟩
  ·rcases zeu h with ⟨q,hq,e⟩|e
   ·exact .inl ⟨q,by simp [hq],e⟩
   ·exact .inr e
theorem zcs {k:ByteArray} {a:Attr} {l:List Attr} (h:zas k (a::l)=true):leB a.key k=false∧a.value≠⟨#[]⟩∧zcl a.key a.value=true∧zas a.key l=true:=by
 simp only [zas,Bool.and_eq_true,Bool.not_eq_true',decide_eq_false_iff_not]at h
 exact ⟨h.1.1.1,h.1.1.2,h.1.2,h.2⟩
theorem AttrOk.laid:∀(l:List Attr) (s:List (ByteArray×ByteArray)) (k:ByteArray),AttrOk s→zas k l=true→AttrOk (l.foldl (fun s a=>zkx s a.key a.value) s)∧(l.foldl (fun s a=>zkx s a.key a.value) s).length≤s.length+l.length∧
  ((∀j w,zbv s j=some w→zcl j w=true)→∀j w,zbv (l.foldl (fun s a=>zkx s a.key a.value) s) j=some w→zcl j w=true)
 |[],s,k,hs,_=>⟨hs,by simp,fun h=>h⟩
 |a::l,s,k,hs,h=>by
  obtain ⟨_,hv,hp,h4⟩:=zcs h
  have hk:a.key.size≤255:=by
   simp only [zcl,Bool.and_eq_true,decide_eq_true_eq]at hp
   exact hp.1.2
  obtain ⟨i1,i2,i3⟩:=AttrOk.laid l (zkx s a.key a.value) a.key (hs.set hk) h4
  have:=zxU s a.key a.value
  refine ⟨i1,by simp only [List.foldl_cons,List.length_cons];omega,fun hq=>i3 fun j w hj=> ?_⟩
  rw [zlI hs]at hj
  split at hj
  ·rename_i e
   split at hj
   ·cases hj
   ·cases hj;rw [e];exact hp
  ·exact hq j w hj
theorem ztZ {l:List Attr} (h:zas ⟨#[]⟩ l=true):AttrOk (zpY l)∧(zpY l).length≤l.length∧∀j w,zbv (zpY l) j=some w→zcl j w=true:=by
 obtain ⟨h1,h2,h3⟩:=AttrOk.laid l [] ⟨#[]⟩ AttrOk.nil h
 exact ⟨h1,by have:=h2;simp only [List.length_nil,Nat.zero_add]at this;exact this,h3 fun j w e=>by cases e⟩
structure Rowed (l:List TN) (T:PT):Prop where
 get:∀n,T.get n=zdv l n
 nod:(T.nodes.map (·.1)).Nodup
 many:T.nodes.length≤l.length+2
 ids:T.ids=[]
 last:T.last=0
 each:∀r∈l,0<r.node∧zas ⟨#[]⟩ r.attrs=true∧zbc r.node=(decide (r.parent=0)&&decide (r.name=⟨#[]⟩))∧(zbc r.node=true∨zcW r.name=true)
theorem zfi {l:List TN} {T:PT} (h:zeJ T0 0 l= .some T):Rowed l T:=by
 have hg:=zrD h (fun n _=>rfl)
 obtain ⟨h1,h2,h3,h4⟩:=zpK h (by decide)
 refine ⟨fun n=> ?_,h1,by have:T0.nodes.length=2:=rfl;omega,h3,h4,fun r hr=>⟨ziz h r hr,zpP h r hr⟩⟩
 rw [hg]
 split
 ·rename_i e
  exact (zeq fun r hr=>by have:=ziz h r hr;omega).symm
 ·rfl
theorem Rowed.ok {l:List TN} {T:PT} {k:Nat} (h:Rowed l T) (hk:l.length≤k) (ha:∀r∈l,r.attrs.length≤k) (hw:∀r∈l,(Lit.int .i64 r.node).wf=true):T.ok k:=by
 refine ⟨h.nod,by have:=h.many;omega,by rw [h.last];omega,by rw [h.last];omega,by rw [h.ids];simp,fun n x hx=> ?_,fun n x hx=> ?_⟩
 ·rw [h.get]at hx
  rcases zeu hx with ⟨r,hr,rfl,_⟩|e
  ·exact hw r hr
  ·exact T0_ok.keys n x e
 ·rw [h.get]at hx
  rcases zeu hx with ⟨r,hr,rfl,rfl⟩|e
  ·obtain ⟨h1,h2,_⟩:=ztZ (h.each r hr).2.1
   exact ⟨h1,Nat.le_trans h2 (ha r hr)⟩
  ·rw [zsT e];exact ⟨AttrOk.nil,by simp [PN.bare]⟩
theorem Rowed.good {l:List TN} {T:PT} (h:Rowed l T) (hl:T.led):VGood T.view:=by
 have hc:∀n a,T.view n= .some a→(∃r∈l,r.node=n∧a=(zsL r).view)∨T0.view n= .some a:=fun n a ha=>by
  obtain ⟨x,hx,rfl⟩:=zbk ha
  rw [h.get]at hx
  rcases zeu hx with ⟨r,hr,e,rfl⟩|e
  ·exact .inl ⟨r,hr,e,rfl⟩
  ·exact .inr (PT.view_get e)
 have there:∀n,T0.get n≠ .none→T.view n≠ .none:=fun n hn e=>by
  rw [PT.view_none,h.get]at e
  have:∀(l:List TN),zdv l n= .none→T0.get n= .none:=by
   intro l
   induction l with
   |nil=>exact id
   |cons r l ih=>
    intro e
    rw [zdv]at e
    split at e
    ·cases e
    ·exact ih e
  exact hn (this l e)
 refine ⟨fun n a ha=> ?_,there 1 (by decide),there 2 (by decide),fun n a ha ht=> ?_,fun n a ha ht=> ?_,fun n a k w ha hk=> ?_,hl⟩
 ·rcases hc n a ha with ⟨r,hr,rfl,_⟩|e
  ·exact (h.each r hr).1
  ·exact T0_good.pos n a e
 ·rcases hc n a ha with ⟨r,hr,rfl,rfl⟩|e
  ·have:=(h.each r hr).2.2.1
   rw [ht]at this
   have:=this.symm
   simp only [Bool.and_eq_true,decide_eq_true_eq]at this
   exact this
  ·exact T0_good.top n a e ht
 ·rcases hc n a ha with ⟨r,hr,rfl,rfl⟩|e
  ·exact (h.each r hr).2.2.2.resolve_left (by rw [ht];simp)
  ·exact T0_good.name n a e ht
 ·rcases hc n a ha with ⟨r,hr,rfl,rfl⟩|e
  ·obtain ⟨h1,_,h3⟩:=ztZ (h.each r hr).2.1
   exact ⟨h3 k w hk,h1.val k w hk⟩
  ·exact T0_good.pairs n a k w e hk
structure KidsUp (T1 T:PT) (s:List Int):Prop where
 keys:T.nodes.map (·.1)=T1.nodes.map (·.1)
 ids:T.ids=T1.ids
 last:T.last=T1.last
 non:∀n,T1.get n= .none→T.get n= .none
 get:∀n x,T1.get n= .some x→∃ks:List Int,T.get n= .some {x with kids:=ks}∧ks.Nodup∧∀c,c∈ks↔c∈s∧zbc c=false∧∃y,T1.get c= .some y∧y.parent=n
theorem KidsUp.begin {T:PT} (h:∀n x,T.get n= .some x→x.kids=[]):KidsUp T T []:=
 ⟨rfl,rfl,rfl,fun _ h=>h,fun n x hx=>⟨[],by rw [hx];have:=h n x hx;cases x;simp only at this;subst this;rfl,List.nodup_nil,fun c=>by simp⟩⟩
theorem KidsUp.top {T1 T:PT} {s:List Int} {c:Int} (h:KidsUp T1 T s) (hc:zbc c=true):KidsUp T1 T (s++[c]):=by
 refine ⟨h.keys,h.ids,h.last,h.non,fun n x hx=> ?_⟩
 obtain ⟨ks,h1,h2,h3⟩:=h.get n x hx
 refine ⟨ks,h1,h2,fun d=> ?_⟩
 rw [h3,List.mem_append,List.mem_singleton]
 constructor
 ·rintro ⟨a,b⟩;exact ⟨.inl a,b⟩
 ·rintro ⟨a|rfl,b,q⟩
  ·exact ⟨a,b,q⟩
  ·rw [hc]at b;cases b
theorem KidsUp.kid {T1 T:PT} {s:List Int} {c:Int} {y:PN} (h:KidsUp T1 T s) (hc:zbc c=false) (hy:T1.get c= .some y) (hs:c∉s):KidsUp T1 (T.kid y.parent c) (s++[c]):=by
 refine ⟨by rw [←h.keys];exact zsN _ _ _,h.ids,h.last,fun n hn=> ?_,fun n x hx=> ?_⟩
 ·rw [zxI,h.non n hn];simp
 ·obtain ⟨ks,h1,h2,h3⟩:=h.get n x hx
  rw [zxI,h1]
  by_cases e:n=y.parent
  ·refine ⟨zmD ks c,by rw [if_pos e];rfl,zwy h2 c,fun d=> ?_⟩
   rw [zAz,h3,List.mem_append,List.mem_singleton]
   constructor
   ·rintro (rfl|⟨a,b⟩)
    ·exact ⟨.inr rfl,hc,y,hy,e.symm⟩
    ·exact ⟨.inl a,b⟩
   ·rintro ⟨a|a,b⟩
    ·exact .inr ⟨a,b⟩
    ·exact .inl a
  ·refine ⟨ks,by rw [if_neg e],h2,fun d=> ?_⟩
   rw [h3,List.mem_append,List.mem_singleton]
   constructor
   ·rintro ⟨a,b⟩;exact ⟨.inl a,b⟩
   ·rintro ⟨a|rfl,b,z,hz,q⟩
    ·exact ⟨a,b,z,hz,q⟩
    ·rw [hy]at hz;cases hz;exact absurd q.symm e
theorem KidsUp.view {T1 T:PT} {s:List Int} (h:KidsUp T1 T s):T.view=T1.view:=by
 funext n
 cases hg:T1.get n with
 |none=>rw [PT.view_none.2 hg,PT.view_none.2 (h.non n hg)]
 |some x=>
  obtain ⟨ks,h1,_⟩:=h.get n x hg
  rw [PT.view_get hg,PT.view_get h1];rfl
theorem KidsUp.back {T1 T:PT} {s:List Int} (h:KidsUp T1 T s) {n:Int} {x:PN} (hx:T.get n= .some x):∃y,T1.get n= .some y∧y.parent=x.parent∧y.attrs=x.attrs:=by
 cases hg:T1.get n with
 |none=>rw [h.non n hg]at hx;cases hx
 |some y=>
  obtain ⟨ks,h1,_⟩:=h.get n y hg
  rw [h1]at hx;cases hx
  exact ⟨y,rfl,rfl,rfl⟩
theorem KidsUp.ok {T1 T:PT} {s:List Int} {k:Nat} (h:KidsUp T1 T s) (hk:T1.ok k):T.ok k:=by
 have hl:T.nodes.length=T1.nodes.length:=by simpa using congrArg List.length h.keys
 refine ⟨by rw [h.keys];exact hk.nod,by rw [hl];exact hk.many,by rw [h.last];exact hk.last0,by rw [h.last];exact hk.lastk,by rw [h.ids];exact hk.ids,fun n x hx=> ?_,fun n x hx=> ?_⟩
 ·obtain ⟨y,hy,_⟩:=h.back hx
  exact hk.keys n y hy
 ·obtain ⟨y,hy,_,e⟩:=h.back hx
  rw [←e];exact hk.attrs n y hy
theorem KidsUp.kids {T1 T:PT} {s:List Int} (h:KidsUp T1 T s) (hs:∀c y,T1.get c= .some y→c∈s):T.kidsOk:=by
 refine ⟨fun n x hx=> ?_,fun n x c hx=> ?_⟩
 ·obtain ⟨y,hy,_⟩:=h.back hx
  obtain ⟨ks,h1,h2,_⟩:=h.get n y hy
  rw [h1]at hx;cases hx
  exact h2
 ·obtain ⟨y,hy,_⟩:=h.back hx
  obtain ⟨ks,h1,h2,h3⟩:=h.get n y hy
  rw [h1]at hx;cases hx
  show c∈ks↔_
  rw [h3]
  constructor
  ·rintro ⟨_,b,z,hz,q⟩
   obtain ⟨kz,g1,_⟩:=h.get c z hz
   exact ⟨b,_,g1,q⟩
  ·rintro ⟨b,z,hz,q⟩
   obtain ⟨z',hz',e,_⟩:=h.back hz
   exact ⟨hs c z' hz',b,z',hz',e.trans q⟩
structure Met (T:PT) (vis wait:List Int):Prop where
 nod:(vis++wait).Nodup
 one:(1:Int)∈vis++wait
 two:(2:Int)∈vis++wait
 led:∀n∈vis++wait,∃k,LeadsN T.view k n
 there:∀n∈vis++wait,∃x,T.get n= .some x
 kids:∀n∈vis,∀x,T.get n= .some x→∀c∈x.kids,c∈vis++wait
 from_:∀n∈vis++wait,zbc n=true∨∃p∈vis,∃x,T.get p= .some x∧n∈x.kids
theorem Met.few {T:PT} {vis wait:List Int} (h:Met T vis wait):vis.length+wait.length≤T.nodes.length:=by
 have:=zdk (b:=T.nodes.map (·.1)) h.nod fun m hm=>Classical.byContradiction fun hc=>by
  obtain ⟨x,hx⟩:=h.there m hm
  rw [show T.get m= .none from zct.2 hc]at hx;cases hx
 simpa using this
theorem Met.begin {T:PT} (h1:T.get 1≠ .none) (h2:T.get 2≠ .none):Met T [] [1,2]:=by
 refine ⟨by decide,by simp,by simp,fun n hn=>⟨0, ?_⟩,fun n hn=> ?_,by simp,fun n hn=> .inl ?_⟩
 ·simp at hn;exact zeC.2 hn
 ·simp at hn
  rcases hn with rfl|rfl
  ·exact Option.ne_none_iff_exists'.1 h1
  ·exact Option.ne_none_iff_exists'.1 h2
 ·simp at hn;exact zeC.2 hn
theorem Met.step {T:PT} {vis wait:List Int} {n:Int} {x:PN} {ks:List Int} (hk:T.kidsOk) (h:Met T vis (n::wait)) (hx:T.get n= .some x) (hp:ks.Perm x.kids):Met T (vis++[n]) (wait++ks):=by
 have e:vis++[n]++(wait++ks)=(vis++n::wait)++ks:=by simp
 have hkm:∀c,c∈ks↔c∈x.kids:=fun c=>hp.mem_iff
 obtain ⟨kn,hkn⟩:=h.led n (by simp)
 refine ⟨?_, ?_, ?_, ?_, ?_, ?_, ?_⟩
 ·rw [e,List.nodup_append]
  refine ⟨h.nod,hp.nodup_iff.2 (hk.nod n x hx),fun a ha b hb hab=> ?_⟩
  subst hab
  obtain ⟨h1,y,hy,hpar⟩:=(hk.mem n x a hx).1 ((hkm a).1 hb)
  rcases h.from_ a ha with ht|⟨p,hp',z,hz,hc⟩
  ·rw [ht]at h1;cases h1
  ·obtain ⟨_,y',hy',hpar'⟩:=(hk.mem p z a hz).1 hc
   rw [hy]at hy';cases hy'
   have:p=n:=hpar'.symm.trans hpar
   subst this
   have:=(List.nodup_append.1 h.nod).2.2 p hp' p (by simp)
   exact this rfl
 ·rw [e];exact List.mem_append_left _ h.one
 ·rw [e];exact List.mem_append_left _ h.two
 ·intro a ha
  rw [e]at ha
  rcases List.mem_append.1 ha with ha|ha
  ·exact h.led a ha
  ·obtain ⟨h1,y,hy,hpar⟩:=(hk.mem n x a hx).1 ((hkm a).1 ha)
   exact ⟨kn+1,h1,y.view,PT.view_get hy,by show LeadsN T.view kn y.parent;rw [hpar];exact hkn⟩
 ·intro a ha
  rw [e]at ha
  rcases List.mem_append.1 ha with ha|ha
  ·exact h.there a ha
  ·obtain ⟨h1,y,hy,hpar⟩:=(hk.mem n x a hx).1 ((hkm a).1 ha)
   exact ⟨y,hy⟩
 ·intro a ha y hy c hc
  rw [e]
  rcases List.mem_append.1 ha with ha|ha
  ·exact List.mem_append_left _ (h.kids a ha y hy c hc)
  ·simp only [List.mem_singleton]at ha
   subst ha
   rw [hx]at hy;cases hy
   exact List.mem_append_right _ ((hkm c).2 hc)
 ·intro a ha
  rw [e]at ha
  rcases List.mem_append.1 ha with ha|ha
  ·rcases h.from_ a ha with ht|⟨p,hp',r⟩
   ·exact .inl ht
   ·exact .inr ⟨p,by simp [hp'],r⟩
  ·exact .inr ⟨n,by simp,x,hx,(hkm a).1 ha⟩
theorem Met.all {T:PT} {vis:List Int} (hk:T.kidsOk) (hn:(T.nodes.map (·.1)).Nodup) (h:Met T vis []):vis.length=T.nodes.length↔T.led:=by
 have hin:∀m,m∈T.nodes.map (·.1)↔∃x,T.get m= .some x:=fun m=>by
  rw [←Option.ne_none_iff_exists']
  have:=zct (l:=T.nodes) (j:=m)
  unfold PT.get
  rw [Ne,this]
  simp
 have hsub:∀m∈vis,m∈T.nodes.map (·.1):=fun m hm=>(hin m).2 (h.there m (by simpa using hm))
 have hnd:vis.Nodup:=by simpa using h.nod
 constructor
 ·intro hl n hv
  have:∀m∈T.nodes.map (·.1),m∈vis:=by
   intro m hm
   refine Classical.byContradiction fun hc=> ?_
   have:=zdk (a:=m::vis) (b:=T.nodes.map (·.1)) (List.nodup_cons.2 ⟨hc,hnd⟩) fun y hy=>by
    rcases List.mem_cons.1 hy with rfl|hy
    ·exact hm
    ·exact hsub y hy
   simp at this
   omega
  have hget:T.get n≠ .none:=fun e=>hv (PT.view_none.2 e)
  exact h.led n (by simpa using this n ((hin n).2 (Option.ne_none_iff_exists'.1 hget)))
 ·intro hl
  have:∀k n,LeadsN T.view k n→T.get n≠ .none→n∈vis:=by
   intro k
   induction k with
   |zero=>
    intro n hn _
    rcases zeC.1 hn with rfl|rfl
    ·simpa using h.one
    ·simpa using h.two
   |succ k ih=>
    rintro n ⟨ht,a,ha,hp⟩ _
    obtain ⟨y,hy,rfl⟩:=zbk ha
    have hpv:T.get y.parent≠ .none:=by
     cases k with
     |zero=>
      rcases zeC.1 (show zbc y.parent=true from hp)with e|e
      ·rw [e]
       obtain ⟨z,hz⟩:=h.there 1 h.one
       rw [hz];simp
      ·rw [e]
       obtain ⟨z,hz⟩:=h.there 2 h.two
       rw [hz];simp
     |succ k=>
      obtain ⟨_,b,hb,_⟩:=hp
      obtain ⟨z,hz,_⟩:=zbk hb
      intro e
      have hz':T.get y.parent= .some z:=hz
      rw [e]at hz';cases hz'
    have hm:=ih y.parent hp hpv
    obtain ⟨z,hz⟩:=Option.ne_none_iff_exists'.1 hpv
    have:=h.kids y.parent hm z hz n ((hk.mem _ z n hz).2 ⟨ht,y,hy,rfl⟩)
    simpa using this
  have hall:∀m∈T.nodes.map (·.1),m∈vis:=fun m hm=>by
   obtain ⟨x,hx⟩:=(hin m).1 hm
   obtain ⟨k,hk⟩:=hl m (by rw [PT.view_get hx];simp)
   exact this k m hk (by rw [hx];simp)
  have h1:=zdk hnd hsub
  have h2:=zdk hn hall
  simp at h1 h2
  omega
end Go.Proofs.YtmjiojflncffeaaGreat.Vc

set_option linter.unusedVariables false
set_option maxRecDepth 100000
namespace Go.Proofs.YtmjiojflncffeaaGreat.Vc
open Go Go.Proofs
abbrev zvl:Nat:=71
def zjR:Cd:=
 (.seq (.rg [⟨none,[(some 83, .bin .lss (.t 82) (.t 81))]⟩] [4,5,8,9,16,17,18,80,81,82,83])
 (.seq (.ite (.t 83)
 .skip
 (.exit 2))
 (.seq (.block 3 (.seq (.rg [⟨none,[(some 84, .idxS (.t 80) (.t 82) 2),(some 85, .ld (.t 84) 2 true),(some 11, .new 75 (.c (.s (.string ⟨#[]⟩)) (.c (.s (.string ⟨#[]⟩)) .u))),(none, .st (.t 11) (.t 85) 2)]⟩] [4,5,8,9,11,16,17,18,80,81,82])
 (.seq (.seq (.rg [⟨none,[(some 86, .fldA (.t 11) 0 0),(some 87, .ld (.t 86) 1 false),(some 88, .mv (.t 9)),(some 89, .bin .leq (.t 87) (.t 88)),(some 90, .mv (.t 89))]⟩,⟨some (90,false),[(some 91, .fldA (.t 11) 1 1),(some 92, .ld (.t 91) 1 false),(some 93, .bin .eql (.t 92) (.c (.string ⟨#[]⟩)))]⟩,⟨none,[(some 94, .pick (.t 90) (.c (.bool true)) (.t 93)),(some 95, .mv (.t 94))]⟩,⟨some (95,false),[(some 96, .fldA (.t 11) 0 0),(some 97, .ld (.t 96) 1 false),(some 98, .fldA (.t 11) 1 1),(some 99, .ld (.t 98) 1 false),(some 100, .call 91 [(.t 97),(.t 99)]),(some 101, .un .not (.t 100))]⟩,⟨none,[(some 102, .pick (.t 95) (.c (.bool true)) (.t 101))]⟩] [4,5,8,11,16,17,18,80,81,82,102])
 (.ite (.t 102)
 (.seq (.rg [⟨none,[(some 2, .mv (.c (.pointer none))),(some 3, .mv (.c (.int .i64 121)))]⟩] [2,3])
 .ret)
 .skip))
 (.seq (.rg [⟨none,[(some 103, .fldA (.t 11) 0 0),(some 104, .ld (.t 103) 1 false),(some 9, .mv (.t 104))]⟩] [4,5,8,9,11,16,17,18,80,81,82])
 (.rgq [⟨none,[(some 105, .mv (.t 8)),(some 106, .nilc (.t 105)),(some 107, .fldA (.t 106) 1 2),(some 108, .ld (.t 107) 1 false),(some 109, .fldA (.t 11) 0 0),(some 110, .ld (.t 109) 1 false),(some 111, .fldA (.t 11) 1 1),(some 112, .ld (.t 111) 1 false)]⟩] [⟨none,[(none, .mup none (.t 108) (.t 110) (.t 112))]⟩] [4,5,8,9,16,17,18,80,81,82])))))
 (.rg [⟨none,[(some 113, .bin .add (.t 82) (.c (.int .i64 1))),(some 82, .mv (.t 113))]⟩] [4,5,8,9,16,17,18,80,81,82]))))
def zfz:Cd:=
 (.seq (.gh (.rg [⟨none,[(some 71, .mv (.t 8)),(some 72, .fldA (.t 7) 1 1),(some 73, .ld (.t 72) 1 false),(some 74, .fldA (.t 7) 2 2),(some 75, .ld (.t 74) 1 false),(some 76, .bld (.c (.s (.int .i64 0)) (.c (.s (.string ⟨#[]⟩)) .u)) [(0,(.t 73)),(1,(.t 75))]),(some 77, .nilc (.t 71)),(some 78, .fldA (.t 77) 0 0),(none, .st (.t 78) (.t 76) 2)]⟩] [4,5,7,8,16,17,18]))
 (.seq (.rg [⟨none,[(some 9, .mv (.c (.string ⟨#[]⟩)))]⟩] [4,5,7,8,9,16,17,18])
 (.seq (.rg [⟨none,[(some 79, .fldA (.t 7) 3 3),(some 80, .ld (.t 79) 1 false),(none, .gh),(some 81, .len (.t 80)),(some 82, .mv (.c (.int .i64 0)))]⟩] [4,5,8,9,16,17,18,80,81,82])
 (.block 2 (.loop zjR)))))
def zgz:Cd:=
 (.seq (.gh (.rg [⟨none,[(some 52, .fldA (.t 7) 0 0),(some 53, .ld (.t 52) 1 false),(some 5, .mv (.t 53))]⟩] [4,5,7,16,17,18]))
 (.seq (.rgq [⟨none,[(some 54, .mv (.t 4)),(some 55, .nilc (.t 54)),(some 56, .fldA (.t 55) 0 0),(some 57, .ld (.t 56) 1 false),(some 58, .fldA (.t 7) 0 0),(some 59, .ld (.t 58) 1 false)]⟩] [⟨none,[(some 60, .mlk (some .i64) (.t 57) (.t 59) (.pointer none) false),(some 8, .mv (.t 60))]⟩] [4,5,7,8,16,17,18])
 (.seq (.seq (.rg [⟨none,[(some 61, .mv (.t 8)),(some 62, .eqA false 115 (.t 61) (.c (.pointer none)))]⟩] [4,5,7,8,16,17,18,62])
 (.ite (.t 62)
 (.seq (.rg [⟨none,[(some 63, .call 66 []),(some 8, .mv (.t 63))]⟩] [4,5,7,8,16,17,18])
 (.rgq [⟨none,[(some 64, .mv (.t 4)),(some 65, .nilc (.t 64)),(some 66, .fldA (.t 65) 0 0),(some 67, .ld (.t 66) 1 false),(some 68, .fldA (.t 7) 0 0),(some 69, .ld (.t 68) 1 false),(some 70, .mv (.t 8))]⟩] [⟨none,[(none, .mup (some .i64) (.t 67) (.t 69) (.t 70))]⟩] [4,5,7,8,16,17,18]))
 .skip))
 zfz)))
def zji:Cd:=
 (.seq (.rg [⟨none,[(some 19, .bin .lss (.t 18) (.t 17))]⟩] [4,5,16,17,18,19])
 (.seq (.ite (.t 19)
 .skip
 (.exit 0))
 (.seq (.block 1 (.seq (.rg [⟨none,[(some 20, .idxS (.t 16) (.t 18) 4),(some 21, .ld (.t 20) 4 true),(some 7, .new 49 (.c (.s (.int .i64 0)) (.c (.s (.int .i64 0)) (.c (.s (.string ⟨#[]⟩)) (.c (.s (.slice none 0 0)) .u))))),(none, .st (.t 7) (.t 21) 4)]⟩] [4,5,7,16,17,18])
 (.seq (.seq (.rgq [⟨none,[(some 22, .fldA (.t 7) 0 0),(some 23, .ld (.t 22) 1 false),(some 24, .mv (.t 5)),(some 25, .bin .leq (.t 23) (.t 24)),(some 26, .mv (.t 25))]⟩,⟨some (26,false),[(some 27, .fldA (.t 7) 0 0),(some 28, .ld (.t 27) 1 false),(some 29, .call 60 [(.t 28)]),(some 30, .fldA (.t 7) 1 1),(some 31, .ld (.t 30) 1 false),(some 32, .bin .eql (.t 31) (.c (.int .i64 0)))]⟩] [⟨some (26,false),[(some 33, .mv (.t 32))]⟩,⟨some (33,true),[(some 34, .fldA (.t 7) 2 2),(some 35, .ld (.t 34) 1 false),(some 36, .bin .eql (.t 35) (.c (.string ⟨#[]⟩)))]⟩,⟨some (26,false),[(some 37, .pick (.t 33) (.t 36) (.c (.bool false))),(some 38, .eqA true 4 (.t 29) (.t 37))]⟩,⟨none,[(some 39, .pick (.t 26) (.c (.bool true)) (.t 38)),(some 40, .mv (.t 39))]⟩,⟨some (40,false),[(some 41, .fldA (.t 7) 0 0),(some 42, .ld (.t 41) 1 false),(some 43, .call 60 [(.t 42)]),(some 44, .un .not (.t 43)),(some 45, .mv (.t 44))]⟩,⟨some (45,true),[(some 46, .fldA (.t 7) 2 2),(some 47, .ld (.t 46) 1 false),(some 48, .call 89 [(.t 47)]),(some 49, .un .not (.t 48))]⟩,⟨some (40,false),[(some 50, .pick (.t 45) (.t 49) (.c (.bool false)))]⟩,⟨none,[(some 51, .pick (.t 40) (.c (.bool true)) (.t 50))]⟩] [4,7,16,17,18,51])
 (.ite (.t 51)
 (.seq (.rg [⟨none,[(some 2, .mv (.c (.pointer none))),(some 3, .mv (.c (.int .i64 121)))]⟩] [2,3])
 .ret)
 .skip))
 zgz)))
 (.rg [⟨none,[(some 114, .bin .add (.t 18) (.c (.int .i64 1))),(some 18, .mv (.t 114))]⟩] [4,5,16,17,18]))))
def zjz:Cd:=
 (.seq (.rg [⟨none,[(some 120, .nxt (.t 119)),(some 121, .ext (.t 120) 0)]⟩] [4,119,121])
 (.seq (.ite (.t 121)
 .skip
 (.exit 4))
 (.block 5 (.seq (.rg [⟨none,[(some 122, .ent (.t 119)),(some 123, .ext (.t 122) 0),(some 124, .ext (.t 122) 1),(some 12, .mv (.t 123)),(some 13, .mv (.t 124))]⟩] [4,12,13,119])
 (.seq (.seq (.rg [⟨none,[(some 125, .mv (.t 12)),(some 126, .call 60 [(.t 125)])]⟩] [4,12,13,119,126])
 (.ite (.t 126)
 (.exit 5)
 .skip))
 (.seq (.rgq [⟨none,[(some 127, .mv (.t 4)),(some 128, .nilc (.t 127)),(some 129, .fldA (.t 128) 0 0),(some 130, .ld (.t 129) 1 false),(some 131, .mv (.t 13)),(some 132, .nilc (.t 131)),(some 133, .fldA (.t 132) 0 0),(some 134, .fldA (.t 133) 0 0),(some 135, .ld (.t 134) 1 false)]⟩] [⟨none,[(some 136, .mlk (some .i64) (.t 130) (.t 135) (.pointer none) false),(some 14, .mv (.t 136))]⟩] [4,12,14,119])
 (.seq (.seq (.rg [⟨none,[(some 137, .mv (.t 14)),(some 138, .eqA false 115 (.t 137) (.c (.pointer none)))]⟩] [4,12,14,119,138])
 (.ite (.t 138)
 (.seq (.rg [⟨none,[(some 2, .mv (.c (.pointer none))),(some 3, .mv (.c (.int .i64 121)))]⟩] [2,3])
 .ret)
 .skip))
 (.rg [⟨none,[(some 139, .mv (.t 14)),(some 140, .nilc (.t 139)),(some 141, .fldA (.t 140) 2 3),(some 142, .ld (.t 141) 1 false),(some 143, .mv (.t 12)),(none, .mup (some .i64) (.t 142) (.t 143) (.c (.int .i64 1)))]⟩] [4,119]))))))))
def zod:Cd:=
 (.seq (.rg [⟨none,[(some 2, .mv (.c (.pointer none))),(some 3, .mv (.c (.int .i64 0)))]⟩] [0])
 (.seq (.rg [⟨none,[(some 15, .call 34 []),(some 4, .mv (.t 15))]⟩] [0,4])
 (.seq (.rg [⟨none,[(some 5, .mv (.c (.int .i64 0)))]⟩] [0,4,5])
 (.seq (.seq (.rg [⟨none,[(some 16, .mv (.t 0)),(some 17, .len (.t 16)),(some 18, .mv (.c (.int .i64 0)))]⟩] [4,5,16,17,18])
 (.block 0 (.loop zji)))
 (.seq (.seq (.rg [⟨none,[(some 115, .mv (.t 4)),(some 116, .nilc (.t 115)),(some 117, .fldA (.t 116) 0 0),(some 118, .ld (.t 117) 1 false),(some 119, .rng (some .i64) (.t 118))]⟩] [4,119])
 (.block 4 (.loop zjz)))
 (.seq (.seq (.rg [⟨none,[(some 144, .mv (.t 4)),(some 145, .call 99 [(.t 144)]),(some 146, .un .not (.t 145))]⟩] [4,146])
 (.ite (.t 146)
 (.seq (.rg [⟨none,[(some 2, .mv (.c (.pointer none))),(some 3, .mv (.c (.int .i64 121)))]⟩] [2,3])
 .ret)
 .skip))
 (.seq (.rg [⟨none,[(some 147, .mv (.t 4)),(some 2, .mv (.t 147)),(some 3, .mv (.c (.int .i64 0)))]⟩] [2,3])
 .ret)))))))
theorem zuj:Ok Tryz.prog 71 zod 148 [(6,11),(9,6),(12,7),(21,8),(28,9)] [.tmp 2, .tmp 3]:=Ok.mk' Tryz.func71 (by kernel_rfl) (by kernel_rfl) (by kernel_rfl)
abbrev zgV:Nat:=99
def zfm:Cd:=
 (.seq (.rg [⟨none,[(some 28, .nxt (.t 27)),(some 29, .ext (.t 28) 0)]⟩] [0,3,4,27,29])
 (.seq (.ite (.t 29)
 .skip
 (.exit 2))
 (.block 3 (.seq (.rg [⟨none,[(some 30, .ent (.t 27)),(some 31, .ext (.t 30) 0),(some 6, .mv (.t 31))]⟩] [0,3,4,6,27])
 (.rg [⟨none,[(some 32, .mv (.t 4)),(some 33, .mv (.t 6)),(some 34, .bldS 2 1 (.s (.int .i64 0)) [(.t 33)]),(some 35, .app 2 1 8 (.s (.int .i64 0)) (.t 32) (.t 34)),(some 4, .mv (.t 35))]⟩] [0,3,4,27])))))
def zdu:Cd:=
 (.seq (.seq (.rg [⟨none,[(some 8, .mv (.t 4)),(some 9, .len (.t 8)),(some 10, .bin .gtr (.t 9) (.c (.int .i64 0)))]⟩] [0,3,4,10])
 (.ite (.t 10)
 .skip
 (.exit 0)))
 (.block 1 (.seq (.rgq [⟨none,[(some 11, .mv (.t 0)),(some 12, .nilc (.t 11)),(some 13, .fldA (.t 12) 0 0),(some 14, .ld (.t 13) 1 false),(some 15, .mv (.t 4)),(some 16, .idxS (.t 15) (.c (.int .i64 0)) 1),(some 17, .ld (.t 16) 1 false)]⟩] [⟨none,[(some 18, .mlk (some .i64) (.t 14) (.t 17) (.pointer none) false),(some 5, .mv (.t 18))]⟩] [0,3,4,5])
 (.seq (.rg [⟨none,[(some 19, .mv (.t 4)),(some 20, .sl 1 (.t 19) (some (.c (.int .i64 1))) none),(some 4, .mv (.t 20))]⟩] [0,3,4,5])
 (.seq (.rg [⟨none,[(some 21, .mv (.t 3)),(some 22, .bin .add (.t 21) (.c (.int .i64 1))),(some 3, .mv (.t 22))]⟩] [0,3,4,5])
 (.seq (.rg [⟨none,[(some 23, .mv (.t 5)),(some 24, .nilc (.t 23)),(some 25, .fldA (.t 24) 2 3),(some 26, .ld (.t 25) 1 false),(some 27, .rng (some .i64) (.t 26))]⟩] [0,3,4,27])
 (.block 2 (.loop zfm))))))))
def zhc:Cd:=
 (.seq (.rg [⟨none,[(some 2, .mv (.c (.bool false)))]⟩] [0])
 (.seq (.rg [⟨none,[(some 3, .mv (.c (.int .i64 0)))]⟩] [0,3])
 (.seq (.rg [⟨none,[(some 7, .bldS 2 1 (.s (.int .i64 0)) [(.c (.int .i64 1)),(.c (.int .i64 2))]),(none, .gh),(some 4, .mv (.t 7))]⟩] [0,3,4])
 (.seq (.block 0 (.loop zdu))
 (.seq (.rg [⟨none,[(some 36, .mv (.t 3)),(some 37, .mv (.t 0)),(some 38, .nilc (.t 37)),(some 39, .fldA (.t 38) 0 0),(some 40, .ld (.t 39) 1 false),(some 41, .mln (some .i64) (.t 40)),(some 42, .bin .eql (.t 36) (.t 41)),(some 2, .mv (.t 42))]⟩] [2])
 .ret)))))
theorem zlO:Ok Tryz.prog 99 zhc 43 [(4,7)] [.tmp 2]:=Ok.mk' Tryz.func99 (by kernel_rfl) (by kernel_rfl) (by kernel_rfl)
end Go.Proofs.YtmjiojflncffeaaGreat.Vc

set_option linter.unusedVariables false
set_option linter.unusedSimpArgs false
set_option maxRecDepth 100000
namespace Go.Proofs.YtmjiojflncffeaaGreat.Vc
open Go Go.Proofs
theorem SlO.drop1 {u:PH} {b o n c:Nat} {e:TypeId} {z:Nat} {x:GV} {xs:List GV} (h:SlO u (.slice (.some ⟨b,o,none⟩) n c) e z (x::xs)):SlO u (.slice (.some ⟨b,if c=1 then o else o+1*z,none⟩) (n - 1) (c - 1)) e z xs:=by
 obtain ⟨hels,⟨h1,h2⟩|⟨a,c',h1,h2,h3⟩⟩:=h
 ·cases h2
 ·simp only [Value.slice.injEq,Option.some.injEq]at h1
  obtain ⟨rfl,rfl,rfl⟩:=h1
  refine ⟨fun y hy=>hels y (List.mem_cons_of_mem _ hy), .inr ⟨⟨b,if c=1 then o else o+1*z,none⟩,c - 1,by simp,by simp at h2;omega,fun hc=> ?_⟩⟩
  obtain ⟨cs,g1,g2,g3,g4⟩:=h3 (by omega)
  have hz:=(hels x (by simp)).2
  have hfl:x.flat.length=z:=by rw [←hz];exact GV.flat_len x (hels x (by simp)).1
  simp only at g1 g2 g3 g4
  rw [if_neg (by omega)]
  refine ⟨cs,rfl, ?_,g3,fun j v hj=> ?_⟩
  ·obtain ⟨k,rfl⟩:∃k,c=k+1:=⟨c - 1,by omega⟩
   simp only [Nat.add_sub_cancel]
   rw [Nat.add_mul]at g2
   omega
  ·have:=g4 (z+j) v (by
    rw [zaa,List.flatMap_cons,List.getElem?_append_right (by omega),hfl]
    rw [Nat.add_sub_cancel_left];exact hj)
   rw [Nat.one_mul,Nat.add_assoc];exact this
theorem zbZ (r:Nat) (a b:Obj) (m:PH):(uni (one r a) m).upd r b=uni (one r b) m:=by
 funext j
 by_cases h:j=r
 ·subst h;simp [PH.upd,uni,one]
 ·simp [PH.upd,uni,one,h]
theorem zel {r:Nat} {a b:Obj} {m:PH} (h:dis (one r a) m):dis (one r b) m:=fun j=>by
 by_cases e:j=r
 ·subst e
  rcases h j with q|q
  ·simp [one]at q
  ·exact .inr q
 ·exact .inl (by simp [one,e])
theorem zis (r:Nat) (a:Obj) (m:PH):uni (one r a) m r=some a:=by simp [uni,one]
theorem zAH {T:PT} (hk:T.kidsOk) {n:Int} {x:PN} (hx:T.get n=some x):x.kids.length≤T.nodes.length:=by
 have:=zdk (b:=T.nodes.map (·.1)) (hk.nod n x hx) fun c hc=>Classical.byContradiction fun hn=>by
  obtain ⟨_,y,hy,_⟩:=(hk.mem n x c hx).1 hc
  rw [show T.get c=none from zct.2 hn]at hy;cases hy
 simpa using this
theorem zqw {it mo:Obj} {b:Nat} {ks ls:List Int} (h:IterM it mo b (zfv ks)) (hm:zcE (some .i64) mo (zfv ls)) (hn:ls.Nodup):ks.length≤ls.length:=by
 have:=h.le hm
 simpa [zfv]using this
theorem zvX (w:World) (u:PH) (hu:u.le w) (L:Lay) (T:PT) (hT:TM u L T) (hk:T.kidsOk) (h1:T.get 1≠none) (h2:T.get 2≠none) (hlen:T.nodes.length<1099511627776):
  Spec Tryz.prog zgV [ptr (L .t)] PH.no w fun rs _=>∃b,rs=[.s (.bool b)]∧(b=true↔T.led):=by
 refine zbE zlO (Qf:=fun rs=>∃b,rs=[.s (.bool b)]∧(b=true↔T.led)) [.g (.s (ptr (L .t)))] (by simp) (by simp [AV.ok,GV.ok,Value.oneCell',ptr]) ?_
 have hk':∀{l:List PH},KN (⟨Tryz.prog,43,w,PH.no⟩:Ctx).u0 l u:=zdy hu
 simp (maxSteps:=2000000) only [zhc,zi,zm,zf,zc,zb,zh,ze,za,zj,ev,evL,gvL,look,zZ,zd,zg,zk,GV.sz,Value.oneCell',cond_true,Nat.reduceAdd,↓reduceIte,reduceCtorEq,Nat.zero_add,Bool.and_true,Bool.true_and,true_and,and_true,zak,zaK,Option.map_some,zcO,List.length_cons,List.length_nil,Int.reduceAdd,ptr]
 refine zfB 7 7 2 rfl rfl rfl fun v0 m0 hv0 hs0 hd0=> ?_
 simp (maxSteps:=2000000) only [zi,zB,zf,zc,zb,ze,za,zj,ev,look,zd,zg,zk,cond_true,cond_false,Nat.reduceEqDiff,↓reduceIte,reduceCtorEq,BEq.rfl,zbA,SV.mentions]
 refine zaP (ι:=List Int×List Int×Value×PH×PH) (fun q=>⟨[(0, .g (.s (.pointer (some ⟨L .t,0,none⟩)))),(3, .g (.s (.int .i64 (q.1.length)))),(4, .g (.s q.2.2.1))],[],[],uni q.2.2.2.1 q.2.2.2.2⟩)
  (fun q=>Met T q.1 q.2.1∧SlO q.2.2.2.1 q.2.2.1 2 1 (q.2.1.map gi)∧dis q.2.2.2.1 q.2.2.2.2) (fun q=>T.nodes.length - q.1.length) ([],[1,2],v0,m0,PH.no) ⟨Met.begin h1 h2,hs0,zdW _⟩ (zR ?_ ?_ rfl rfl rfl) ?_
 ·simp [zaf,look]
 ·simp [zam,look]
 rintro ⟨vis,wait,v,mw,mg⟩ ⟨hM,hS,hD⟩
 simp only at hM hS hD
 generalize hQ:loopQ _ _ _ _ _=Q
 have hfew:=hM.few
 cases wait with
 |nil=>
  obtain ⟨a,c,rfl⟩:∃a c,v= .slice a 0 c:=by
   rcases hS.2 with ⟨rfl,_⟩|⟨ad,c,rfl,_⟩
   ·exact ⟨none,0,rfl⟩
   ·exact ⟨some ad,c,rfl⟩
  simp (maxSteps:=2000000) only [zdu,zu,zau,zi,zB,zm,zbh,zq,zf,zay,zc,zb,zh,ze,za,zaq,zw,zX,zj,zaD,ev,look,zd,zg,zk,zO,zP,Value.oneCell',cond_true,Nat.reduceEqDiff,↓reduceIte,reduceCtorEq,Nat.add_zero,Bool.true_and,true_and,decide_eq_true_eq,decide_eq_false_iff_not,zax]
  refine ⟨fun h=>absurd h (by simp),fun _=> ?_⟩
  subst hQ
  simp (maxSteps:=2000000) only [zi,zm,zf,zat,zaQ,zh,za,zj,ev,look,zd,↓reduceIte,reduceCtorEq,Nat.add_zero]
  refine zJ _ (hT.s_map hk') rfl ?_
  simp (maxSteps:=2000000) only [za,zj,ev,look,zd,↓reduceIte]
  refine hT.len hk' ?_
  simp (maxSteps:=2000000) only [zx,zf,zc,zb,ze,za,zj,ev,look,zd,zg,zk,zO,zP,Nat.reduceEqDiff,↓reduceIte,Bool.true_and,true_and,zD,zal,zC]
  refine ⟨_,rfl, ?_⟩
  rw [←hM.all hk hT.nod]
  simp only [beq_iff_eq]
  omega
 |cons n ws=>
  obtain ⟨x,hx⟩:=hM.there n (by simp)
  obtain ⟨b,o,c,hvv,hc,hseen⟩:∃b o c,v= .slice (some ⟨b,o,none⟩) (ws.length+1) c∧ws.length+1≤c∧∀{C:Ctx} {ph:List PH} {m:PH},KN C.u0 (m::ph) mw→∀i y,((n::ws).map gi)[i]? =some y→zce C ph m b (o+i*1) y:=by
   rcases hS.toR.shape with ⟨h,_⟩|⟨_,b,o,c,h3,h4,h5⟩
   ·cases h
   ·exact ⟨b,o,c,by simpa using h3,by simpa using h4,h5⟩
  subst hvv
  have hknw:∀{C:Ctx} {ph:List PH},KN C.u0 (uni mw mg::ph) mw:=fun {C ph} j ob hj=> .inr ⟨uni mw mg,by simp,zV _ _ j ob hj⟩
  have hkf:=zAH hk hx
  simp only [List.length_cons]at hfew
  simp (maxSteps:=2000000) only [zdu,zu,zau,zi,zB,zm,zbh,zq,zf,zay,zc,zb,zh,ze,za,zaq,zw,zX,zj,zaD,ev,look,zd,zg,zk,zO,zP,Value.oneCell',cond_true,Nat.reduceEqDiff,↓reduceIte,reduceCtorEq,Nat.add_zero,Bool.true_and,true_and,decide_eq_true_eq,decide_eq_false_iff_not,zax]
  refine ⟨fun _=> ?_,fun h=>absurd h (by omega)⟩
  refine zJ _ (hT.s_map hk') rfl ?_
  simp (maxSteps:=2000000) only [zw,zX,zj,zaD,ev,look,zd,Value.oneCell',cond_true,Nat.reduceEqDiff,Nat.reduceMul,↓reduceIte,reduceCtorEq,Nat.add_zero,Bool.true_and,true_and,Int.reduceToNat,Int.reduceLE]
  refine ⟨by omega,zJ _ (by have:=hseen (C:=⟨Tryz.prog,43,w,PH.no⟩) (ph:=[]) (m:=uni mw mg) hknw 0 (gi n) rfl;simpa using this) rfl ?_⟩
  simp (maxSteps:=2000000) only [zh,za,zM,zU,zj,ev,look,zd,Nat.reduceEqDiff,↓reduceIte]
  refine hT.lk hk' n ?_
  rw [hx]
  simp (maxSteps:=2000000) only [zi,zm,zf,zc,zb,zh,ze,za,zj,ev,look,zd,zg,zk,zdA,zO,zP,Value.oneCell',cond_true,Nat.reduceEqDiff,Nat.reduceMul,↓reduceIte,reduceCtorEq,Nat.zero_add,Bool.true_and,true_and,Int.toNat_natCast,Int.reduceToNat,Int.reduceLE,zcf]
  refine ⟨by omega, ?_⟩
  rw [zaN (by omega)]
  refine zJ _ (hT.s_node hk' hx).2.2.2.1 rfl ?_
  simp (maxSteps:=2000000) only [za,zj,ev,look,zd,↓reduceIte]
  obtain ⟨ok,idsV,e1,e2⟩:=hT.at (.kb n) ⟨x,hx⟩
  have hmap:zcE (some .i64) ok (zfv x.kids):=e2 x hx
  have hsee:∀{m:PH},zdX ⟨Tryz.prog,43,w,PH.no⟩ [] m (L (.kb n)) ok:=fun {m}=>zsY hk' e1
  refine ⟨ok,_,hsee,hmap,fun r it hit hdr=> ?_⟩
  have hS2:SlO mw (.slice (some ⟨b,if c=1 then o else o+1,none⟩) (ws.length+1 - 1) (c - 1)) 2 1 (ws.map gi):=by
   have:=hS.drop1
   simpa using this
  generalize Value.slice (some ⟨b,if c=1 then o else o+1,none⟩) (ws.length+1 - 1) (c - 1)=v2 at hS2 ⊢
  simp (maxSteps:=2000000) only [zB,zf,zc,zb,ze,look,zd,zg,zk,Nat.reduceEqDiff,↓reduceIte,reduceCtorEq]
  refine zaP (ι:=List Int×Value×PH×Obj×PH) (fun q=>⟨[(0, .g (.s (.pointer (some ⟨L .t,0,none⟩)))),(3, .g (.s (.int .i64 ((vis.length+1:Nat))))),(4, .g (.s q.2.1)),(27, .g (.s (.pointer (some ⟨r,0,none⟩))))],[],[],uni (one r q.2.2.2.1) (uni q.2.2.1 q.2.2.2.2)⟩)
   (fun q=>IterM q.2.2.2.1 ok (L (.kb n)) (zfv q.1)∧SlO q.2.2.1 q.2.1 2 1 ((ws++q.1).map gi)∧dis q.2.2.1 q.2.2.2.2∧dis (one r q.2.2.2.1) (uni q.2.2.1 q.2.2.2.2)) (fun q=>x.kids.length - q.1.length) ([],v2,mw,it,mg) ⟨hit,by simpa using hS2,hD,hdr⟩ (zR ?_ ?_ rfl rfl rfl) ?_
  ·simp [zaf,look]
  ·simp [zam,look]
  clear hS hS2 hit hdr hD hseen hknw
  rintro ⟨ks,v3,mw,it,mg⟩ ⟨hI,hS,hD,hdr⟩
  simp only at hI hS hD hdr
  have hlk:=zqw hI hmap (hk.nod n x hx)
  generalize hQ2:loopQ _ _ _ _ _=Q2
  simp (maxSteps:=2000000) only [zfm,zi,zm,zh,za,zj,ev,look,Nat.reduceEqDiff,↓reduceIte,reduceCtorEq]
  refine ⟨it,_,ok,_,_,_,zis _ _ _,hsee,hmap,hI,fun hp=> ?_,fun p it' hp hps hit'=> ?_⟩
  ·simp (maxSteps:=2000000) only [List.getElem?_cons_zero,zau,zi,zq,zf,zay,zc,zb,ze,za,zj,ev,look,zd,zg,zk,Nat.reduceEqDiff,↓reduceIte,reduceCtorEq,↓zN]
   subst hQ2
   simp (maxSteps:=2000000) only [zT,zat,zaQ,↓reduceIte]
   subst hQ;simp only [zaB]
   have hp':=zzg hp
   have e1:uni (one r it) (uni mw mg)=uni mw (uni (one r it) mg):=by
    rw [←zbs,zbU (zA hdr).1,zbs]
   refine ⟨(vis++[n],ws++ks,v3,mw,uni (one r it) mg),⟨hM.step hk hx hp',hS,zad (zG (zA hdr).1) hD⟩, ?_,zR ?_ ?_ rfl rfl e1.symm⟩
   ·simp only [List.length_append,List.length_cons,List.length_nil];omega
   ·simp [zaf,look]
   ·simp [zam,look]
  ·obtain ⟨c,hc,rfl⟩:=zzk hp
   have hit2:IterM it' ok (L (.kb n)) (zfv (ks++[c])):=by
    have e:zfv (ks++[c])=zfv ks++[(.int .i64 c, .int .i64 1)]:=by simp [zfv]
    rw [e];exact hit'
   have hlen2:=zqw hit2 hmap (hk.nod n x hx)
   simp only [List.length_append,List.length_cons,List.length_nil]at hlen2
   simp (maxSteps:=2000000) only [List.getElem?_cons_zero,zu,zi,zB,zm,zq,zf,zc,zb,zh,ze,za,zj,ev,look,zd,zg,zk,Nat.reduceEqDiff,↓reduceIte,reduceCtorEq,↓zL]
   refine ⟨it',_,ok,_,_,_,_, .inl (zft _ _ _),hsee,hmap,hit', ?_⟩
   simp (maxSteps:=2000000) only [List.getElem?_cons_zero,zm,zf,zc,zb,zh,ze,za,zj,ev,evL,gvL,look,zZ,zd,zg,zk,zaF,GV.sz,Nat.reduceEqDiff,↓reduceIte,reduceCtorEq,Nat.zero_add,Bool.and_true,Bool.true_and,true_and,and_true,Option.map_some,zcO,List.length_cons,List.length_nil,List.drop_zero,List.take_succ_cons,List.take_zero]
   rw [zbZ]
   have hdr':dis (one r it') (uni mw mg):=zel hdr
   obtain ⟨hd1,hd2⟩:=zA hdr'
   refine znH rfl rfl mw (uni (one r it') mg) ((ws++ks).map gi) hS (by rw [←zbs,zbU hd1,zbs]) (zad (zG hd1) hD) (by simp only [List.length_map,List.length_append,List.length_cons,List.length_nil];omega) fun v' u' hv' hs' hd'=> ?_
   simp (maxSteps:=2000000) only [zT,zc,zb,ze,za,zj,ev,look,zd,zg,zk,Nat.reduceEqDiff,↓reduceIte,reduceCtorEq]
   subst hQ2;simp only [zaB]
   obtain ⟨g1,g2⟩:=zA hd'
   refine ⟨(ks++[c],v',u',it',mg),⟨hit2,by simp only;rw [←List.append_assoc,List.map_append];exact hs',g2,zad (zG g1) hd2⟩, ?_,zR ?_ ?_ rfl rfl (by rw [←zbs,zbU (zG g1),zbs])⟩
   ·simp only [List.length_append,List.length_cons,List.length_nil];omega
   ·simp [zaf,look]
   ·simp [zam,look]
end Go.Proofs.YtmjiojflncffeaaGreat.Vc

set_option linter.unusedVariables false
set_option linter.unusedSimpArgs false
set_option maxRecDepth 100000
namespace Go.Proofs.YtmjiojflncffeaaGreat.Vc
open Go Go.Proofs
theorem TreeM.ne {e:TypeId} {m:PH} {L:Lay} {T:PT} (h:TreeM e m L T) {r s:Role} (hr:act T r) (hs:act T s) (hne:r≠s):L r≠L s:=by
 obtain ⟨mi,mt,idsV,rfl,hd,hi,ht⟩:=h
 exact fun q=>hne (ht.sep r s trivial trivial hr hs q)
theorem TreeM.kidAt {e:TypeId} {m:PH} {L:Lay} {T:PT} {k n:Int} {x:PN} (h:TreeM e m L T) (hx:T.get k=some x):
  ∃o,m (L (.kb k))=some o∧zcE (some .i64) o (zfv x.kids)∧∀o',zcE (some .i64) o' (zhG (zfv x.kids) (.int .i64 n) (.int .i64 1))→TreeM e (m.upd (L (.kb k)) o') L (T.kid k n):=by
 obtain ⟨o,idsV,h1,h2⟩:=h.at (.kb k) ⟨x,hx⟩
 refine ⟨o,h1,h2 x hx,fun o' ho'=> ?_⟩
 rw [znb]at ho'
 exact h.modKids (f:=fun x=>{x with kids:=zmD x.kids n}) hx (fun y=>⟨rfl,rfl,rfl⟩) ho'
def zmF (L:Lay) (s:List Int):List (Value×Value):=s.map fun n=>(.int .i64 n,ptr (L (.nd n)))
theorem zCJ (L:Lay) (l:List (Int×PN)):zcQ L l=zmF L (l.map (·.1)):=by simp [zcQ,zmF,Function.comp_def]
theorem zyk {L:Lay} {a b:List Int} (h:(zmF L a).Perm (zmF L b)):a.Perm b:=by
 have:=h.map fun p:Value×Value=>match p.1 with| .int _ n=>n|_=>0
 simpa [zmF,List.map_map,Function.comp_def]using this
theorem zzl {L:Lay} {p:Value×Value} {l:List Int} (h:p∈zmF L l):∃c∈l,p=(.int .i64 c,ptr (L (.nd c))):=by
 obtain ⟨c,hc,rfl⟩:=List.mem_map.1 h
 exact ⟨c,hc,rfl⟩
def zdw (l:List TN) (n:Int):Option AN:=(zdv l n).map PN.view
def zeD (l:List TN):Prop:=∃T,zeJ T0 0 l=some T∧T.led
theorem Rowed.view {l:List TN} {T:PT} (h:Rowed l T):T.view=zdw l:=by
 funext n
 unfold PT.view zdw
 rw [h.get]
theorem zny:∀{l:List TN} {n:Int},zdv l n=none→T0.get n=none
 |[],_,e=>e
 |r::l,n,e=>by
  rw [zdv]at e
  split at e
  ·cases e
  ·exact zny e
theorem zwY {v:Int→Option AN} {k:Nat} {n:Int} {a:AN} (h:LeadsN v k n) (ht:zbc n=false) (ha:v n=some a) (hp:zbc a.parent=true→False) (hn:v a.parent=none):False:=by
 cases k with
 |zero=>rw [show zbc n=true from h]at ht;cases ht
 |succ k=>
  obtain ⟨_,b,h1,h2⟩:=h
  rw [ha]at h1;cases h1
  cases k with
  |zero=>exact hp h2
  |succ k=>
   obtain ⟨_,c,h3,_⟩:=h2
   rw [hn]at h3;cases h3
theorem zze (w:World) (va:Value) (ts:List TreeNode) (l:List TN) (u:PH) (hu:u.le w) (ha:SlR u va 4 (ts.map zl)) (hts:TsOk u ts l) (k:Nat) (hk:k+2<1099511627776) (hlen:l.length≤k) (hat:∀r∈l,r.attrs.length≤k)
  (hnm:∀r∈l,r.name.size≤140737488355328) (hwf:∀r∈l,(Lit.int .i64 r.node).wf=true):
  Spec Tryz.prog zvl [va] PH.no w fun rs m'=>(zeD l→∃L T,rs=[.s (ptr (L .t)), .s (.int .i64 0)]∧TM m' L T∧T.ok k∧VGood T.view∧T.kidsOk∧T.view=zdw l)∧(¬zeD l→rs=[.s (.pointer none), .s (.int .i64 121)]):=by
 refine zbb zuj [.ro va 4 (zl zTreeNode) (ts.map zl)] (by simp) (by simpa [AV.ok,zbr]using ha.up hu.sub) ?_
 have hlts:=hts.len
 simp (maxSteps:=2000000) only [zod,zi,zm,zf,zc,zb,zh,ze,za,zj,ev,look,zd,zg,zk,Value.oneCell',cond_true,↓reduceIte,reduceCtorEq,zak,zaK,List.length_map,ptr]
 refine zaJ rfl rfl (Q:=fun rs m'=>∃L,rs=[.s (ptr (L .t))]∧TM m' L T0) (fun w' vs hv hw _ _=> ?_) fun rs m1 _ hq _=> ?_
 ·obtain rfl:=zr hv
  exact zqF w'
 obtain ⟨L0,rfl,hT0⟩:=hq
 simp (maxSteps:=2000000) only [zK,zaz,zi,zB,zm,zf,zc,zb,zh,ze,za,zj,ev,look,zd,zg,zk,Value.oneCell',cond_true,Nat.reduceEqDiff,↓reduceIte,reduceCtorEq,ptr]
 refine zaP (ι:=Nat×Int×Lay×PT×PH) (fun q=>⟨[(4, .g (.s (.pointer (some ⟨L0 .t,0,none⟩)))),(5, .g (.s (.int .i64 (q.2.1)))),(16, .row 0 0 (ts.length)),(17, .g (.s (.int .i64 (ts.length)))),(18, .g (.s (.int .i64 (q.1))))],[(0, .ro 4 (zl zTreeNode) (ts.map zl))],[],q.2.2.2.2⟩)
  (fun q=>q.1≤ts.length∧q.2.2.1 .t=L0 .t∧TM q.2.2.2.2 q.2.2.1 q.2.2.2.1∧zeJ T0 0 l=zeJ q.2.2.2.1 q.2.1 (l.drop q.1)∧∀n x,q.2.2.2.1.get n=some x→q.2.1<n→T0.get n=some x) (fun q=>ts.length - q.1) (0,0,L0,T0,m1) ⟨by simp,rfl,hT0,rfl,fun n x hx _=>hx⟩ (zR ?_ ?_ rfl rfl rfl) ?_
 ·simp [zaf,look]
 ·simp [zam,look]
 rintro ⟨i,last,L,T,mA⟩ ⟨hi,hLt,hT,hrow,hnew⟩
 simp only at hi hLt hT hrow hnew
 generalize hQ:loopQ _ _ _ _ _=Q
 simp (maxSteps:=2000000) only [zji,zu,zx,zau,zi,zB,zm,zbh,zq,zf,zp,zay,zy,zc,zb,zh,zH,ze,za,zM,zaq,zcA,zU,zw,zX,zj,zaD,RO.isGh,zI,zar,ev,look,zZ,zd,zS,zg,zk,zaF,zdh,zO,zP,GV.getT,Value.oneCell',cond_true,cond_false,Nat.reduceEqDiff,↓reduceIte,reduceCtorEq,List.nil_append,Nat.zero_add,Bool.and_true,Bool.true_and,Bool.not_false,true_and,and_true,Int.toNat_natCast,decide_eq_true_eq,decide_eq_false_iff_not,↓zL,↓zbW,zax,zdE,zn,zY,zF,zai,zaY,zbR,zbQ,zaZ,zbG,zdt]
 refine ⟨fun hlt=>⟨⟨by omega,by omega⟩, ?_⟩,fun hge=> ?_⟩
 ·obtain ⟨t,ht⟩:∃t,ts.getD i zTreeNode=t:=⟨_,rfl⟩
  obtain ⟨r,hr⟩:∃r,l.getD i zTN=r:=⟨_,rfl⟩
  have hrm:r∈l:=by rw [←hr,List.getD_eq_getElem?_getD,List.getElem?_eq_getElem (by omega)];exact List.getElem_mem _
  obtain ⟨e1,e2,e3,hsl⟩:=hts.at i (by omega)
  rw [ht,hr]at e1 e2 e3 hsl
  have hdrop:l.drop i=r::l.drop (i+1):=by
   rw [←hr,List.getD_eq_getElem?_getD,List.getElem?_eq_getElem (by omega)]
   exact List.drop_eq_getElem_cons (by omega)
  rw [ht]
  have stop:(zlm last r&&zas ⟨#[]⟩ r.attrs)=false→¬zeD l:=by
   rintro hb ⟨T',h1,_⟩
   rw [hrow,hdrop,zeJ,if_neg (by rw [hb];simp)]at h1
   cases h1
  have hra:zlm last r=(!decide (t.node≤last)&&(zbc t.node==(decide (t.parent=0)&&decide (t.name=⟨#[]⟩)))&&(zbc t.node||zcW t.name)):=by rw [e1,e2,e3];rfl
  have hnb:t.name.size≤140737488355328:=by rw [e3];exact hnm r hrm
  have good:zlm last r=true→∀σ:SS,Ge σ ⟨[(4, .g (.s (.pointer (some ⟨L0 .t,0,none⟩)))),(7, .ref 7 []),(16, .row 0 0 (ts.length)),(17, .g (.s (.int .i64 (ts.length)))),(18, .g (.s (.int .i64 (i))))],[(0, .ro 4 (zl zTreeNode) (ts.map zl)),(7, .box (zl t))],[],mA⟩→
    vc ⟨Tryz.prog,148,w,PH.no⟩ zgz (blockQ 1 (thenQ (vc ⟨Tryz.prog,148,w,PH.no⟩ (.rg [⟨none,[(some 114, .bin .add (.t 18) (.c (.int .i64 1))),(some 18, .mv (.t 114))]⟩] [4,5,16,17,18]) Q) Q)) σ:=by
   intro hrA σ hσ
   unfold zgz
   rw [zi]
   refine zbu hσ ?_
   simp (maxSteps:=2000000) only [zi,zm,zbh,zf,zc,zb,zh,ze,za,zaq,zw,zX,zj,zaD,ev,look,zd,zg,zk,GV.getT,Nat.reduceEqDiff,↓reduceIte,reduceCtorEq,List.nil_append,Nat.add_zero,Bool.true_and,Bool.not_false,true_and,zn,zF,zbQ,zaZ]
   have hlast:=zhv hrA
   have hsm:zce ⟨Tryz.prog,148,w,PH.no⟩ [] mA (L0 .t) 0 (.s (.map (some (L .nb)))):=by rw [←hLt];exact hT.s_map zbY
   refine zJ _ hsm rfl ?_
   simp (maxSteps:=2000000) only [zh,za,zM,zU,zw,zX,zj,zaD,ev,look,zd,GV.getT,Nat.reduceEqDiff,↓reduceIte,reduceCtorEq,List.nil_append,Bool.true_and,Bool.not_false,true_and,zn,zF,zbQ,zaZ]
   refine hT.lk zbY _ ?_
   simp (maxSteps:=2000000) only [zi,zm,zf,zc,zb,zh,ze,za,zj,ev,look,zd,zg,zk,Value.oneCell',cond_true,Nat.reduceEqDiff,↓reduceIte]
   have rest:∀(m2:PH) (L2:Lay),L2 .t=L0 .t→TM m2 L2 (T.sure t.node)→∀σ:SS,Ge σ ⟨[(4, .g (.s (.pointer (some ⟨L0 .t,0,none⟩)))),(5, .g (.s (.int .i64 (t.node)))),(7, .ref 7 []),(8, .g (.s (.pointer (some ⟨L2 (.nd t.node),0,none⟩)))),(16, .row 0 0 (ts.length)),(17, .g (.s (.int .i64 (ts.length)))),(18, .g (.s (.int .i64 (i))))],[(0, .ro 4 (zl zTreeNode) (ts.map zl)),(7, .box (zl t))],[],m2⟩→
     vc ⟨Tryz.prog,148,w,PH.no⟩ zfz (blockQ 1 (thenQ (vc ⟨Tryz.prog,148,w,PH.no⟩ (.rg [⟨none,[(some 114, .bin .add (.t 18) (.c (.int .i64 1))),(some 18, .mv (.t 114))]⟩] [4,5,16,17,18]) Q) Q)) σ:=by
    intro m2 L2 hL2 hT2 σ hσ
    unfold zfz
    rw [zi]
    refine zbu hσ ?_
    simp (maxSteps:=2000000) only [zm,zh,za,zj,ev,evL,gvL,look,zd,GV.getT,GV.same,Nat.reduceEqDiff,↓reduceIte,reduceCtorEq,List.nil_append,Nat.add_zero,Bool.and_true,Bool.true_and,Bool.not_false,true_and,and_true,List.map_cons,List.map_nil,Option.map_some,GV.bldT,GV.bldC,zcT,zn,zF,zhb,zjm,zjF,zjK,zcL,zcc,zbC,zbt,zaX]
    obtain ⟨x2,hx2⟩:∃x2,(T.sure t.node).get t.node=some x2:=⟨_,by rw [zqd,if_pos rfl]⟩
    refine ⟨⟨rfl,rfl⟩,hT2.place (p:=⟨t.parent,t.name⟩) hx2 fun m3 hT3=> ?_⟩
    simp (maxSteps:=2000000) only [zi,zm,zf,zc,zb,zh,ze,za,zj,ev,look,zd,zS,zg,zk,GV.getT,Value.oneCell',cond_true,Nat.reduceEqDiff,↓reduceIte,reduceCtorEq,List.nil_append,Bool.true_and,Bool.not_false,true_and,zn,zF,zaV,zaG]
    refine zog 80 80 (zap zcU) rfl rfl hsl (zdy hu) ?_
    simp (maxSteps:=2000000) only [List.length_map,zB,zf,zc,zb,ze,za,zj,ev,look,zd,zg,zk,Value.oneCell',cond_true,Nat.reduceEqDiff,↓reduceIte,List.length_map]
    have hal:=hat r hrm
    have hT3':TM m3 L2 (T.row r):=by rw [PT.row,←e1,←e2,←e3];exact hT3
    refine zaP (ι:=Nat×ByteArray×PH) (fun q=>⟨[(4, .g (.s (.pointer (some ⟨L0 .t,0,none⟩)))),(5, .g (.s (.int .i64 (t.node)))),(8, .g (.s (.pointer (some ⟨L2 (.nd t.node),0,none⟩)))),(9, .g (.s (.string (q.2.1)))),(16, .row 0 0 (ts.length)),(17, .g (.s (.int .i64 (ts.length)))),(18, .g (.s (.int .i64 (i)))),(80, .row 80 0 (r.attrs.length)),(81, .g (.s (.int .i64 (r.attrs.length)))),(82, .g (.s (.int .i64 (q.1))))],[(0, .ro 4 (zl zTreeNode) (ts.map zl)),(80, .ro 2 (zap zcU) (r.attrs.map zap))],[],q.2.2⟩)
     (fun q=>q.1≤r.attrs.length∧TM q.2.2 L2 ((T.row r).putAll r.node (r.attrs.take q.1))∧zas ⟨#[]⟩ r.attrs=zas q.2.1 (r.attrs.drop q.1)) (fun q=>r.attrs.length - q.1) (0,⟨#[]⟩,m3) ⟨by simp,by simpa [PT.putAll]using hT3',rfl⟩ (zR ?_ ?_ rfl rfl rfl) ?_
    ·simp [zaf,look]
    ·simp [zam,look]
    rintro ⟨j,key,mB⟩ ⟨hj,hTB,hkey⟩
    simp only at hj hTB hkey
    generalize hQ2:loopQ _ _ _ _ _=Q2
    simp (maxSteps:=2000000) only [zjR,zpC,zu,zx,zau,zi,zB,zm,zq,zf,zp,zay,zy,zc,zb,zh,zH,ze,za,zj,RO.isGh,zI,zar,ev,look,zZ,zd,zS,zg,zk,zaF,zdh,zO,zP,GV.getT,Value.oneCell',cond_true,cond_false,Nat.reduceEqDiff,↓reduceIte,reduceCtorEq,List.nil_append,Nat.zero_add,Bool.and_true,Bool.true_and,Bool.not_false,true_and,and_true,Int.toNat_natCast,decide_eq_true_eq,decide_eq_false_iff_not,↓zL,↓zbW,↓zN,zax,zdE,zn,zY,zF,zeI,zhY,zxj,zgh,zeU,zlq,zim,zlf]
    refine ⟨fun hlt2=>⟨⟨by omega,by omega⟩, ?_⟩,fun hge2=> ?_⟩
    ·obtain ⟨at_,hat_⟩:∃a,r.attrs.getD j zcU=a:=⟨_,rfl⟩
     have hdropA:r.attrs.drop j=at_::r.attrs.drop (j+1):=by
      rw [←hat_,List.getD_eq_getElem?_getD,List.getElem?_eq_getElem (by omega)]
      exact List.drop_eq_getElem_cons (by omega)
     have htakeA:r.attrs.take (j+1)=r.attrs.take j++[at_]:=by
      rw [List.take_add_one,←hat_,List.getD_eq_getElem?_getD,List.getElem?_eq_getElem (by omega)];rfl
     rw [hat_]
     rw [hdropA,zas]at hkey
     have stopA:(!leB at_.key key&& !decide (at_.value=⟨#[]⟩)&&zcl at_.key at_.value)=false→¬zeD l:=fun h=>stop (by rw [hkey,h,Bool.false_and,Bool.and_false])
     refine ⟨fun h1=>⟨fun h2=> ?_,fun h2=> ?_⟩,fun h1=> ?_⟩
     ·refine zac (zxs at_.key at_.value) rfl rfl rfl fun _=> ?_
      simp (maxSteps:=2000000) only [zK,zu,zx,zi,zm,zbh,zq,zf,zp,zy,zc,zb,zh,ze,za,zaq,zw,zX,zj,zaD,ev,look,zd,zg,zk,unV,GV.getT,Value.oneCell',cond_true,Nat.reduceEqDiff,↓reduceIte,reduceCtorEq,List.nil_append,Nat.zero_add,Bool.true_and,Bool.not_false,true_and,↓zN,zax,zn,zF,zgh,zeU]
      refine ⟨fun h3=> ?_,fun h3=> ?_⟩
      ·subst hQ2;subst hQ
       simp (maxSteps:=2000000) only [zp,zy,zah,zab]
       exact zcB rfl ⟨fun h=>absurd h (stopA (by rw [show zcl at_.key at_.value=false by simpa using h3,Bool.and_false])),fun _=>rfl⟩
      ·have hpp:zcl at_.key at_.value=true:=by simpa using h3
       have hr0:((T.row r).putAll r.node (r.attrs.take j)).get t.node≠none:=by
        rw [zkV,e1,if_pos rfl,PT.row,zkt,if_pos rfl,zqd,if_pos rfl]
        simp
       obtain ⟨xb,hxb⟩:=Option.ne_none_iff_exists'.1 hr0
       refine zJ _ (hTB.s_node zbY hxb).2.2.1 rfl ?_
       simp (maxSteps:=2000000) only [zh,za,zM,zU,zw,zX,zj,zaD,ev,look,zd,GV.getT,Nat.reduceEqDiff,↓reduceIte,reduceCtorEq,List.nil_append,Bool.true_and,Bool.not_false,true_and,zn,zF,zgh,zeU,zlq,zim]
       refine hTB.attrPut h2 hxb fun mC hTC=> ?_
       simp (maxSteps:=2000000) only [zm,zf,zT,zc,zb,zh,ze,za,zj,ev,look,zd,zS,zg,zk,zO,zP,Value.oneCell',cond_true,Nat.reduceEqDiff,↓reduceIte,Bool.true_and,true_and]
       subst hQ2;simp only [zaB]
       refine ⟨(j+1,at_.key,mC),⟨by simp only;omega, ?_, ?_⟩, ?_,zR ?_ ?_ rfl rfl rfl⟩
       ·simp only
        rw [e1]at hTC
        rw [htakeA,show (T.row r).putAll r.node (r.attrs.take j++[at_])=((T.row r).putAll r.node (r.attrs.take j)).attr r.node at_.key at_.value from by simp [PT.putAll]]
        exact hTC
       ·simp only
        rw [hkey,show leB at_.key key=false from h1,decide_eq_false h2,hpp];rfl
       ·simp only;omega
       ·simp only [zaf,look,Nat.reduceEqDiff,↓reduceIte,Bool.and_true,Bool.true_and,true_and,and_true]
        rw [zaN (by omega)]
        try simp
       ·simp [zam,look]
     ·subst hQ2;subst hQ
      simp (maxSteps:=2000000) only [zp,zy,zah,zab]
      exact zcB rfl ⟨fun h=>absurd h (stopA (by rw [decide_eq_true h2,Bool.not_true,Bool.and_false,Bool.false_and])),fun _=>rfl⟩
     ·subst hQ2;subst hQ
      simp (maxSteps:=2000000) only [zp,zy,zah,zab]
      exact zcB rfl ⟨fun h=>absurd h (stopA (by rw [show leB at_.key key=true from h1,Bool.not_true,Bool.false_and,Bool.false_and])),fun _=>rfl⟩
    ·subst hQ2
     simp (maxSteps:=2000000) only [zm,zf,zT,zat,zc,zaQ,zb,zh,ze,za,zj,ev,look,zd,zg,zk,zO,zP,Value.oneCell',cond_true,Nat.reduceEqDiff,↓reduceIte,Bool.true_and,true_and]
     have hj':j=r.attrs.length:=by omega
     subst hj'
     rw [List.take_length]at hTB
     rw [List.drop_length]at hkey
     have hgr:=fun q=>zxS (T:=T) (r:=r) (fun x hx=>by
      have:=hnew _ x hx hlast
      rw [zsT this];exact ⟨rfl,rfl⟩) q
     subst hQ;simp only [zaB];refine ⟨(i+1,t.node,L2,(T.row r).putAll r.node r.attrs,mB), ?_, ?_,zR ?_ ?_ rfl rfl rfl⟩
     ·refine ⟨by simp only;omega,hL2,hTB, ?_,fun n x hx hn=> ?_⟩
      ·simp only
       rw [hrow,hdrop,zeJ,if_pos (by rw [hrA,hkey];rfl),e1]
      ·simp only at hx hn
       rw [hgr,if_neg (by omega)]at hx
       exact hnew n x hx (by omega)
     ·simp only;omega
     ·simp only [zaf,look,Nat.reduceEqDiff,↓reduceIte,Bool.and_true,Bool.true_and,true_and,and_true]
      rw [zaN (by omega)]
      try simp
     ·simp [zam,look]
   cases hg:T.get t.node with
   |some x=>
    simp (maxSteps:=2000000) only [zcf]
    refine zcH (zqH _) ?_
    simp (maxSteps:=2000000) only [zu,zq,zf,zc,zb,ze,ev,look,zd,zg,zk,Nat.reduceEqDiff,↓reduceIte,↓zN,Bool.bne_false]
    exact rest mA L hLt (by rw [PT.sure,hg];exact hT) _ (zR (by simp [zaf,look]) (by simp [zam,look]) rfl rfl rfl)
   |none=>
    simp (maxSteps:=2000000) only [zhC]
    refine zcH zly ?_
    simp (maxSteps:=2000000) only [zi,zm,zq,zf,zc,zb,zh,ze,za,zj,ev,look,zd,zg,zk,Nat.reduceEqDiff,↓reduceIte,↓zL,Bool.bne_false]
    refine zaJ rfl rfl (Q:=fun rs m'=>∃b a k,rs=[.s (ptr b)]∧BareM m' b a k) (fun w' vs hv hw _ _=>by obtain rfl:=zr hv;exact zku w') fun rs mb _ hq hdb=> ?_
    obtain ⟨b,a,kk,rfl,hbm⟩:=hq
    simp (maxSteps:=2000000) only [zK,zbh,zf,zc,zb,ze,za,zaq,zw,zX,zj,zaD,ev,look,zd,zg,zk,Nat.reduceEqDiff,↓reduceIte,Nat.add_zero,Bool.true_and,true_and,ptr]
    refine zJ _ (by rw [←hLt];exact hT.s_map (zlh hdb)) rfl ?_
    simp (maxSteps:=2000000) only [zh,za,zM,zU,zw,zX,zj,zaD,ev,look,zd,GV.getT,Nat.reduceEqDiff,↓reduceIte,reduceCtorEq,List.nil_append,Bool.true_and,Bool.not_false,true_and,zn,zF,zbQ,zaZ]
    refine hT.mupAdd hbm hdb hg rfl fun m3 hT3=> ?_
    simp (maxSteps:=2000000) only [zf,zc,zb,ze,look,zS,zg,zk,Nat.reduceEqDiff,↓reduceIte]
    exact rest m3 (L.add t.node b a kk) hLt (by rw [PT.sure,hg];exact hT3) _ (zR (by simp [zaf,look,Lay.add]) (by simp [zam,look]) rfl rfl rfl)
  have bad:zlm last r=false→znm ⟨Tryz.prog,148,w,PH.no⟩ [.tmp 2, .tmp 3] (fun rs m'=>(zeD l→∃L T,rs=[.s (.pointer (some ⟨L .t,0,none⟩)), .s (.int .i64 0)]∧TM m' L T∧T.ok k∧VGood T.view∧T.kidsOk∧T.view=zdw l)∧(¬zeD l→rs=[.s (.pointer none), .s (.int .i64 121)])) .ret ⟨[(2, .g (.s (.pointer none))),(3, .g (.s (.int .i64 (121))))],[(0, .ro 4 (zl zTreeNode) (ts.map zl)),(7, .box (zl t))],[],mA⟩:=by
   intro hrA
   simp (maxSteps:=2000000) only [zab]
   exact zcB rfl ⟨fun h=>absurd h (stop (by rw [hrA];rfl)),fun _=>rfl⟩
  refine ⟨fun k1=> ?_,fun k1=> ?_⟩
  ·refine zhw (zmW t.node) rfl rfl rfl ?_
   simp (maxSteps:=2000000) only [zH,ze,za,zM,zU,zw,zX,zj,zaD,RO.isGh,zI,zar,ev,look,zd,zO,zP,GV.getT,Value.oneCell',cond_true,cond_false,Nat.reduceEqDiff,↓reduceIte,reduceCtorEq,List.nil_append,Bool.true_and,Bool.not_true,Bool.not_false,true_and,↓zL,↓zbi,↓zN,zax,zn,zF,zcc,zbC,zbt,zaX]
   rw [decide_eq_false k1]at hra
   rw [←zbc]
   have hpb:(t.parent==0)=decide (t.parent=0):=rfl
   rw [hpb]
   cases htop:zbc t.node<;>cases hp:decide (t.parent=0)<;>cases hd:decide (t.name=⟨#[]⟩)<;>rw [htop,hp,hd]at hra
   all_goals
    simp (maxSteps:=2000000) only [Bool.and_true,Bool.true_and,true_and,and_true,true_imp_iff,false_imp_iff,Bool.true_eq_false,Bool.false_eq_true]
    refine zcH (zup Tryz.underlying4 _ _) ?_
    simp (maxSteps:=2000000) only [beq_self_eq_true,show (false==true)=false from rfl,show (true==false)=false from rfl,zx,zi,zm,zq,zf,zp,zy,zc,zb,zh,zH,ze,za,zj,RO.isGh,zI,zar,ev,look,zd,zg,zk,GV.getT,Value.oneCell',cond_true,cond_false,Nat.reduceEqDiff,↓reduceIte,reduceCtorEq,List.nil_append,Bool.true_and,Bool.not_true,Bool.not_false,true_and,↓zL,↓zbi,↓zbW,↓zN,Bool.bne_true,zn,zF,zbQ,zaZ]
   all_goals first
    |(subst hQ;simp (maxSteps:=2000000) only [zp,zy,zah,zab];exact zcB rfl ⟨fun h=>absurd h (stop (by rw [hra];rfl)),fun _=>rfl⟩)
    |(refine zac (zmW t.node) rfl rfl rfl fun _=> ?_;rw [←zbc,htop];simp (maxSteps:=2000000) only [zK,zu,zq,zf,zc,zb,zh,zH,ze,za,zj,RO.isGh,zI,zar,ev,look,zd,zg,zk,unV,GV.getT,Value.oneCell',cond_true,cond_false,Nat.reduceEqDiff,↓reduceIte,reduceCtorEq,List.nil_append,Bool.true_and,Bool.not_true,Bool.not_false,true_and,↓zL,↓zbi,↓zN,zn,zF,zbt,zaX])
   all_goals first
    |exact good hra _ (zR (by simp [zaf,look]) (by simp [zam,look]) rfl rfl rfl)
    |(refine zac (zqG t.name hnb) rfl rfl rfl fun _=> ?_;simp (maxSteps:=2000000) only [zK,zu,zx,zi,zm,zq,zf,zp,zy,zc,zb,zh,zH,ze,za,zj,ev,look,zd,zg,zk,unV,Value.oneCell',cond_true,Nat.reduceEqDiff,↓reduceIte,↓zL,↓zbi,↓zN,zax])
   all_goals
    refine ⟨fun kn=> ?_,fun kn=>good (by rw [hra];simpa using kn) _ (zR (by simp [zaf,look]) (by simp [zam,look]) rfl rfl rfl)⟩
    subst hQ;simp (maxSteps:=2000000) only [zp,zy,zah,zab]
    exact zcB rfl ⟨fun h=>absurd h (stop (by rw [hra,show zcW t.name=false by simpa using kn];rfl)),fun _=>rfl⟩
  ·subst hQ
   simp (maxSteps:=2000000) only [zp,zy,zah,zab]
   refine zcB rfl ⟨fun h=>absurd h (stop ?_),fun _=>rfl⟩
   rw [hra,decide_eq_true k1];rfl
 ·subst hQ
  simp (maxSteps:=2000000) only [zi,zm,zf,zat,zaQ,zh,za,zj,ev,look,zd,↓reduceIte,Nat.add_zero]
  have hi':i=l.length:=by omega
  subst hi'
  rw [List.drop_length,zeJ]at hrow
  have hR:=zfi hrow
  have hok:=hR.ok hlen hat hwf
  have hsm:zce ⟨Tryz.prog,148,w,PH.no⟩ [] mA (L0 .t) 0 (.s (.map (some (L .nb)))):=by rw [←hLt];exact hT.s_map zbY
  refine zJ _ hsm rfl ?_
  simp (maxSteps:=2000000) only [za,zj,ev,look,zd,↓reduceIte]
  obtain ⟨ob,idsV,hob,hmap⟩:=hT.at .nb trivial
  have hmap:zcE (some .i64) ob (zmF L (T.nodes.map (·.1))):=by rw [←zCJ];exact hmap
  refine ⟨ob,_, .inl hob,hmap,fun rr it hit hdr=> ?_⟩
  simp (maxSteps:=2000000) only [zB,zf,zc,zb,ze,look,zd,zg,zk,Nat.reduceEqDiff,↓reduceIte]
  refine zaP (ι:=List Int×Obj×PT×PH) (fun q=>⟨[(4, .g (.s (.pointer (some ⟨L0 .t,0,none⟩)))),(119, .g (.s (.pointer (some ⟨rr,0,none⟩))))],[(0, .ro 4 (zl zTreeNode) (ts.map zl))],[],uni (one rr q.2.1) q.2.2.2⟩)
   (fun q=>IterM q.2.1 ob (L .nb) (zmF L q.1)∧q.2.2.2 (L .nb)=some ob∧TM q.2.2.2 L q.2.2.1∧KidsUp T q.2.2.1 q.1∧dis (one rr q.2.1) q.2.2.2) (fun q=>T.nodes.length - q.1.length) ([],it,T,mA) ⟨hit,hob,hT,KidsUp.begin fun n x hx=> ?_,hdr⟩ (zR ?_ ?_ rfl rfl rfl) ?_
  ·rw [hR.get]at hx
   rcases zeu hx with ⟨q,_,_,rfl⟩|e
   ·rfl
   ·rw [zsT e];rfl
  ·simp [zaf,look]
  ·simp [zam,look]
  clear hT hob hit hdr hsm
  rintro ⟨s,it,T2,mB⟩ ⟨hI,hob,hT,hU,hdr⟩
  simp only at hI hob hT hU hdr
  generalize hQ:loopQ _ _ _ _ _=Q
  simp (maxSteps:=2000000) only [zjz,zi,zm,zh,za,zj,ev,look,Nat.reduceEqDiff,↓reduceIte]
  refine ⟨it,_,ob,_,_,_,zis _ _ _, .inl ((zfg hdr hob).1),hmap,hI,fun hp=> ?_,fun p it' hp hps hit'=> ?_⟩
  ·simp (maxSteps:=2000000) only [List.getElem?_cons_zero,zau,zi,zq,zf,zay,zc,zb,ze,za,zj,ev,look,zd,zg,zk,Nat.reduceEqDiff,↓reduceIte,↓zN]
   subst hQ
   simp (maxSteps:=2000000) only [zi,zm,zf,zat,zaQ,zh,za,zj,ev,look,zd,↓reduceIte]
   have hperm:=zyk hp
   have hin:∀c y,T.get c=some y→c∈s:=fun c y hy=>hperm.mem_iff.2 (List.mem_map.2 ⟨(c,y),zgd hy,rfl⟩)
   have hkids:=hU.kids hin
   have hok2:=hU.ok hok
   have hone:∀n,T0.get n≠none→T2.get n≠none:=fun n hn e=>by
    rw [←PT.view_none,hU.view,PT.view_none,hR.get]at e
    exact hn (zny e)
   have hfew:=hok2.many
   have hW:∀w':World,mB.le w'→Spec Tryz.prog zgV [ptr (L0 .t)] PH.no w' fun rs _=>∃b,rs=[.s (.bool b)]∧(b=true↔T2.led):=fun w' hw'=>by
    have:=zvX w' mB hw' L T2 hT hkids (hone 1 (by decide)) (hone 2 (by decide)) (by omega)
    rw [hLt]at this
    exact this
   have hled:T2.led↔T.led:=by unfold PT.led;rw [hU.view]
   by_cases hl:T2.led
   ·refine zaM _ [.s (.bool true)] rfl rfl (fun w' vs hv _ _ hm=> ?_) ?_
    ·obtain ⟨vs,rfl,_,hv⟩:=zt hv
     obtain rfl:=zr hv
     refine (hW w' fun b o h=>hm b o (zao hdr b o h)).mono fun rs m' h=> ?_
     obtain ⟨b,rfl,hb⟩:=h
     rw [hb.2 hl]
    simp (maxSteps:=2000000) only [zK,zu,zx,zi,zm,zq,zf,zc,zab,zb,zh,ze,za,zj,ev,look,zd,zg,zk,unV,Value.oneCell',cond_true,Nat.reduceEqDiff,↓reduceIte,Bool.not_true,↓zN]
    have hl':=hled.1 hl
    refine zbq mB rfl (zao hdr) ⟨fun _=>⟨L,T2,by rw [hLt],hT,hok2, ?_,hkids, ?_⟩,fun h=>absurd ⟨T,hrow,hl'⟩ h⟩
    ·rw [hU.view];exact hR.good hl'
    ·rw [hU.view];exact hR.view
   ·refine zaM _ [.s (.bool false)] rfl rfl (fun w' vs hv _ _ hm=> ?_) ?_
    ·obtain ⟨vs,rfl,_,hv⟩:=zt hv
     obtain rfl:=zr hv
     refine (hW w' fun b o h=>hm b o (zao hdr b o h)).mono fun rs m' h=> ?_
     obtain ⟨b,rfl,hb⟩:=h
     cases b with
     |false=>rfl
     |true=>exact absurd (hb.1 rfl) hl
    simp (maxSteps:=2000000) only [zK,zx,zi,zm,zq,zf,zp,zc,zab,zb,zh,ze,za,zj,ev,look,zd,zg,zk,unV,Value.oneCell',cond_true,Nat.reduceEqDiff,↓reduceIte,Bool.not_false,↓zL]
    refine zcB rfl ⟨fun h=> ?_,fun _=>rfl⟩
    obtain ⟨T',h1,h2⟩:=h
    rw [hrow]at h1
    cases h1
    exact absurd (hled.2 h2) hl
  ·obtain ⟨c,hc,rfl⟩:=zzl hp
   obtain ⟨⟨c',x⟩,hcx,hcc⟩:=List.mem_map.1 hc
   simp only at hcc
   subst hcc
   have hx:T.get c'=some x:=zol hok.nod hcx
   have hcs:c'∉s:=fun h=>hps (List.mem_map.2 ⟨c',h,rfl⟩)
   have hit2:IterM it' ob (L .nb) (zmF L (s++[c'])):=by
    have e:zmF L (s++[c'])=zmF L s++[(.int .i64 c',ptr (L (.nd c')))]:=by simp [zmF]
    rw [e];exact hit'
   have hlen2:=hit2.le hmap
   simp only [zmF,List.length_map,List.length_append,List.length_cons,List.length_nil]at hlen2
   have hdr':dis (one rr it') mB:=zel hdr
   simp (maxSteps:=2000000) only [List.getElem?_cons_zero,zu,zi,zB,zm,zq,zf,zc,zb,zh,ze,za,zj,ev,look,zd,zg,zk,Nat.reduceEqDiff,↓reduceIte,↓zL,ptr]
   rw [zbZ]
   refine ⟨it',_,ob,_,_,_,_, .inl (zis _ _ _), .inl ((zfg hdr' hob).1),hmap,hit', ?_⟩
   simp (maxSteps:=2000000) only [List.getElem?_cons_zero,List.getElem?_cons_succ,zi,zm,zf,zc,zb,zh,ze,za,zj,ev,look,zd,zg,zk,Nat.reduceEqDiff,↓reduceIte,ptr]
   refine zac (zmW c') rfl rfl rfl fun _=> ?_
   rw [←zbc]
   simp (maxSteps:=2000000) only [zK,zu,zau,zi,zbh,zq,zf,zay,zat,zc,zb,ze,zaq,zw,zX,zj,zaD,ev,look,zd,zg,zk,Nat.reduceEqDiff,↓reduceIte,Nat.add_zero,Bool.true_and,true_and,zax]
   refine ⟨fun htop=> ?_,fun htop=> ?_⟩
   ·subst hQ;simp only [zaB];refine ⟨(s++[c'],it',T2,mB), ?_, ?_,zR ?_ ?_ rfl rfl rfl⟩
    ·exact ⟨hit2,hob,hT,hU.top htop,hdr'⟩
    ·simp only [List.length_append,List.length_cons,List.length_nil];omega
    ·simp [zaf,look]
    ·simp [zam,look]
   ·obtain ⟨ks,hx2,_⟩:=hU.get c' x hx
    refine zJ _ (by rw [←hLt];exact hT.s_map (zlh hdr')) rfl ?_
    simp (maxSteps:=2000000) only [zw,zX,zj,zaD,ev,look,zd,Nat.reduceEqDiff,↓reduceIte,Nat.add_zero,Bool.true_and,true_and]
    refine zJ _ (hT.s_node (zlh hdr') hx2).1 rfl ?_
    simp (maxSteps:=2000000) only [zh,za,zM,zU,zj,ev,look,zd,Nat.reduceEqDiff,↓reduceIte]
    refine hT.lk (zlh hdr') _ ?_
    cases hg:T2.get x.parent with
    |none=>
     simp (maxSteps:=2000000) only [zi,zm,zf,zc,zb,zh,ze,za,zj,ev,look,zd,zg,zk,Value.oneCell',cond_true,Nat.reduceEqDiff,↓reduceIte,zhC]
     refine zcH zly ?_
     simp (maxSteps:=2000000) only [zx,zi,zm,zq,zf,zp,zy,zc,zb,zh,ze,za,zj,ev,look,zd,zg,zk,Value.oneCell',cond_true,Nat.reduceEqDiff,↓reduceIte,↓zL,Bool.bne_false]
     subst hQ
     simp (maxSteps:=2000000) only [zp,zy,zah,zab]
     refine zcB rfl ⟨fun h=> ?_,fun _=>rfl⟩
     obtain ⟨T',h1,h2⟩:=h
     rw [hrow]at h1
     cases h1
     obtain ⟨kk,hkk⟩:=h2 c' (by rw [PT.view_get hx];simp)
     have hpn:T.view x.parent=none:=by rw [←hU.view,PT.view_none];exact hg
     exact (zwY hkk htop (PT.view_get hx) (fun ht=>by
      rw [PT.view_none,hR.get]at hpn
      have:=zny hpn
      rcases zeC.1 ht with e|e<;>rw [show (PN.view x).parent=x.parent from rfl]at e<;>rw [e]at this<;>cases this) hpn).elim
    |some y=>
     simp (maxSteps:=2000000) only [zi,zm,zf,zc,zb,zh,ze,za,zj,ev,look,zd,zg,zk,Value.oneCell',cond_true,Nat.reduceEqDiff,↓reduceIte,zcf]
     refine zcH (zqH _) ?_
     simp (maxSteps:=2000000) only [zu,zm,zq,zf,zc,zb,zh,ze,za,zj,ev,look,zd,zg,zk,Nat.reduceEqDiff,↓reduceIte,Nat.zero_add,↓zN,Bool.bne_false]
     refine zJ _ (hT.s_node (zlh hdr') hg).2.2.2.1 rfl ?_
     simp (maxSteps:=2000000) only [za,zj,ev,look,zd,Value.oneCell',cond_true,Nat.reduceEqDiff,↓reduceIte]
     obtain ⟨ok,ho1,ho2,ho3⟩:=hT.kidAt (n:=c') hg
     refine ⟨ok,_,(zfg hdr' ho1).1,ho2,rfl,fun o' ho'=> ?_⟩
     have hone:one rr it' (L (.kb x.parent))=none:=(zfg hdr' ho1).2
     rw [zdm hone]
     simp (maxSteps:=2000000) only [zT,zc,zb,ze,look,zS,zg,zk,Nat.reduceEqDiff,↓reduceIte]
     subst hQ;simp only [zaB];refine ⟨(s++[c'],it',T2.kid x.parent c',mB.upd (L (.kb x.parent)) o'), ?_, ?_,zR ?_ ?_ rfl rfl rfl⟩
     ·refine ⟨hit2, ?_,ho3 o' ho',hU.kid htop hx hcs,zig hdr' hone⟩
      simp only
      rw [zjc (hT.ne (r:= .nb) (s:= .kb x.parent) trivial ⟨y,hg⟩ (by simp))]
      exact hob
     ·simp only [List.length_append,List.length_cons,List.length_nil];omega
     ·simp [zaf,look]
     ·simp [zam,look]
end Go.Proofs.YtmjiojflncffeaaGreat.Vc

set_option linter.unusedVariables false
set_option linter.unusedSimpArgs false
namespace Go.Proofs.YtmjiojflncffeaaGreat.Vc
open Go
theorem zcZ:∀(x y:List UInt8),_root_.Go.Op.bytesLess x y=decide (x<y)
 |[],[]=>by simp [_root_.Go.Op.bytesLess]
 |_::_,[]=>by simp [_root_.Go.Op.bytesLess]
 |[],_::_=>by simp [_root_.Go.Op.bytesLess]
 |a::x,b::y=>by
  rw [_root_.Go.Op.bytesLess,zcZ x y]
  simp only [List.cons_lt_cons_iff]
  by_cases h1:a<b<;>by_cases h2:a=b<;>by_cases h3:x<y<;>simp [h1,h2,h3]
theorem zjH {a b:List UInt8} (h:a≤b) (hn:a≠b):a<b:=
 Classical.byContradiction fun hc=>hn (List.le_antisymm h (show b≤a from hc))
theorem zoA {x:PN} (h:AttrOk x.attrs):(zbd x).Pairwise (· < ·):=by
 have tr:∀a b c:List UInt8,decide (a≤b)=true→decide (b≤c)=true→decide (a≤c)=true:=fun a b c h1 h2=>by simp only [decide_eq_true_eq]at*;exact List.le_trans h1 h2
 have to:∀a b:List UInt8,(decide (a≤b)||decide (b≤a))=true:=fun a b=>by simp only [Bool.or_eq_true,decide_eq_true_eq];exact List.le_total a b
 have h1:=List.pairwise_mergeSort tr to (x.attrs.map fun p=>p.1.data.toList)
 have h2:(zbd x).Nodup:=by
  refine (List.mergeSort_perm _ _).nodup_iff.2 ?_
  have:=h.nod
  rw [List.Nodup,List.pairwise_map]at this ⊢
  refine this.imp fun {a b} hab e=>hab ?_
  have:a.1.data=b.1.data:=Array.toList_inj.1 e
  exact ByteArray.ext this
 have h1:(zbd x).Pairwise fun a b=>decide (a≤b)=true:=h1
 refine (h1.and h2).imp fun {a b} hab=>zjH (of_decide_eq_true hab.1) hab.2
theorem zme {x:PN} {k:List UInt8}:k∈zbd x↔∃v,zbv x.attrs (mkS k)=some v:=by
 have h1:k∈zbd x↔k∈x.attrs.map fun p=>p.1.data.toList:=(List.mergeSort_perm _ _).mem_iff
 rw [h1]
 have h2:=zjZ (l:=x.attrs) (j:=mkS k)
 constructor
 ·intro h
  obtain ⟨p,hp,rfl⟩:=List.mem_map.1 h
  rw [←Option.ne_none_iff_exists']
  intro e
  refine h2.1 e (List.mem_map.2 ⟨p,hp, ?_⟩)
  exact ByteArray.ext (by simp [mkS])
 ·rintro ⟨v,hv⟩
  refine Classical.byContradiction fun hc=> ?_
  rw [h2.2 fun h=>hc ?_]at hv
  ·cases hv
  ·obtain ⟨p,hp,e⟩:=List.mem_map.1 h
   exact List.mem_map.2 ⟨p,hp,by rw [e];simp [mkS]⟩
theorem zrO {f:List UInt8→Attr}:∀(keys:List (List UInt8)) (prev:ByteArray),(∀k∈keys,(f k).key.data.toList=k)→keys.Pairwise (· < ·)→(∀k∈keys,prev.data.toList<k)→(∀k∈keys,(f k).value≠⟨#[]⟩∧zcl (f k).key (f k).value=true)→zas prev (keys.map f)=true
 |[],_,_,_,_,_=>rfl
 |k::l,prev,h1,h2,h3,h4=>by
  rw [List.pairwise_cons]at h2
  have e1:=h1 k (by simp)
  have e3:=h3 k (by simp)
  have e4:=h4 k (by simp)
  have ih:=zrO (f:=f) l (f k).key (fun q hq=>h1 q (by simp [hq])) h2.2 (fun q hq=>by rw [e1];exact h2.1 q hq) (fun q hq=>h4 q (by simp [hq]))
  rw [List.map_cons,zas,ih,e4.2,decide_eq_false e4.1]
  have:leB (f k).key prev=false:=by
   rw [leB,zcZ,e1,decide_eq_false (List.lt_asymm e3),decide_eq_false]
   ·rfl
   ·intro e
    rw [←e,e1]at e3
    exact List.lt_irrefl _ e3
  rw [this];rfl
def zca:List Attr→ByteArray→Option ByteArray
 |[],_=>none
 |a::l,j=>if a.key=j then some a.value else zca l j
theorem zbX:∀{l:List Attr} {k:ByteArray},zas k l=true→∀a∈l,k.data.toList<a.key.data.toList
 |[],_,_,a,ha=>by simp at ha
 |b::l,k,h,a,ha=>by
  obtain ⟨h1,_,_,h4⟩:=zcs h
  have hb:k.data.toList<b.key.data.toList:=by
   rw [leB,zcZ,Bool.or_eq_false_iff]at h1
   refine zjH (show ¬b.key.data.toList<k.data.toList from of_decide_eq_false h1.1) fun e=> ?_
   exact of_decide_eq_false h1.2 (ByteArray.ext (Array.toList_inj.1 e.symm))
  rcases List.mem_cons.1 ha with rfl|ha
  ·exact hb
  ·exact List.lt_trans hb (zbX h4 a ha)
theorem zqE:∀{l:List Attr} {j:ByteArray},(∀a∈l,a.key≠j)→zca l j=none
 |[],_,_=>rfl
 |a::l,j,h=>by rw [zca,if_neg (h a (by simp))];exact zqE fun a ha=>h a (by simp [ha])
theorem zso:∀(l:List Attr) (s:List (ByteArray×ByteArray)) (k:ByteArray),AttrOk s→zas k l=true→∀j,zbv (l.foldl (fun s a=>zkx s a.key a.value) s) j=(zca l j).or (zbv s j)
 |[],s,k,_,_,j=>by simp [zca]
 |a::l,s,k,hs,h,j=>by
  obtain ⟨_,hv,hp,h4⟩:=zcs h
  have hk:a.key.size≤255:=by
   simp only [zcl,Bool.and_eq_true,decide_eq_true_eq]at hp
   exact hp.1.2
  rw [List.foldl_cons,zso l (zkx s a.key a.value) a.key (hs.set hk) h4 j,zlI hs,zca]
  by_cases e:a.key=j
  ·subst e
   rw [zqE fun b hb e=>by
    have:=zbX h4 b hb
    rw [e]at this
    exact List.lt_irrefl _ this]
   rw [if_pos rfl,if_pos rfl,if_neg (show ¬a.value=empty from hv)];rfl
  ·rw [if_neg (fun q=>e q.symm),if_neg e]
theorem zsi {l:List Attr} (h:zas ⟨#[]⟩ l=true) (j:ByteArray):zbv (zpY l) j=zca l j:=by
 have:=zso l [] ⟨#[]⟩ AttrOk.nil h j
 rw [zpY,this]
 cases zca l j<;>rfl
theorem zrw {g:List UInt8→ByteArray}:∀(keys:List (List UInt8)) (j:ByteArray),zca (keys.map fun k=>⟨mkS k,g k⟩) j=if j.data.toList∈keys then some (g j.data.toList)else none
 |[],j=>by simp [zca]
 |k::l,j=>by
  rw [List.map_cons,zca,zrw l j]
  by_cases e:mkS k=j
  ·subst e;simp [mkS]
  ·have:¬j.data.toList=k:=fun q=>e (ByteArray.ext (by rw [←q];simp [mkS]))
   rw [if_neg e]
   simp [this]
theorem zuZ (j:ByteArray):mkS j.data.toList=j:=ByteArray.ext (by simp [mkS])
theorem zfT (x:PN) (j:ByteArray):zca (zaR x) j=zbv x.attrs j:=by
 rw [zaR,zrw]
 have:=zme (x:=x) (k:=j.data.toList)
 rw [zuZ]at this
 split
 ·rename_i h
  obtain ⟨v,hv⟩:=this.1 h
  rw [zuZ,hv];rfl
 ·rename_i h
  cases hg:zbv x.attrs j with
  |none=>rfl
  |some v=>exact absurd (this.2 ⟨v,hg⟩) h
theorem zkS {x:PN} (h:AttrOk x.attrs) (hp:∀k w,zbv x.attrs k=some w→zcl k w=true∧w≠empty):zas ⟨#[]⟩ (zaR x)=true:=by
 have hk:∀k∈zbd x,∃w,zbv x.attrs (mkS k)=some w∧zcl (mkS k) w=true∧w≠empty:=fun k hk=>by
  obtain ⟨v,hv⟩:=zme.1 hk
  exact ⟨v,hv,hp _ _ hv⟩
 refine zrO (f:=fun k=>⟨mkS k,(zbv x.attrs (mkS k)).getD ⟨#[]⟩⟩) (zbd x) ⟨#[]⟩ (fun k _=>by simp [mkS]) (zoA h) (fun k hk'=> ?_) fun k hk'=> ?_
 ·obtain ⟨w,_,h2,_⟩:=hk k hk'
  cases k with
  |nil=>simp [zcl,mkS]at h2
  |cons a l=>simp
 ·obtain ⟨w,h1,h2,h3⟩:=hk k hk'
  simp only [h1,Option.getD_some]
  exact ⟨h3,h2⟩
theorem zpF:∀{l:List TN} {T:PT} {last:Int},l.Pairwise (fun a b=>a.node<b.node)→(∀r∈l,last<r.node)→
  (∀r∈l,zas ⟨#[]⟩ r.attrs=true∧zbc r.node=(decide (r.parent=0)&&decide (r.name=⟨#[]⟩))∧(zbc r.node=true∨zcW r.name=true))→∃T',zeJ T last l=some T'
 |[],T,last,_,_,_=>⟨T,rfl⟩
 |r::l,T,last,h1,h2,h3=>by
  rw [List.pairwise_cons]at h1
  obtain ⟨e1,e2,e3⟩:=h3 r (by simp)
  have e0:=h2 r (by simp)
  obtain ⟨T',hT'⟩:=zpF (l:=l) (T:=(T.row r).putAll r.node r.attrs) (last:=r.node) h1.2 h1.1 fun q hq=>h3 q (by simp [hq])
  refine ⟨T', ?_⟩
  rw [zeJ,if_pos,hT']
  rw [e1,Bool.and_true,zlm,decide_eq_false (by omega),e2,beq_self_eq_true,←e2]
  rcases e3 with e|e<;>simp [e]
theorem znh:∀{l:List TN} {r:TN},l.Pairwise (fun a b=>a.node<b.node)→r∈l→zdv l r.node=some (zsL r)
 |[],r,_,h=>by simp at h
 |q::l,r,h1,h=>by
  rw [List.pairwise_cons]at h1
  rcases List.mem_cons.1 h with rfl|h
  ·rw [zdv,if_pos rfl]
  ·have:=h1.1 r h
   rw [zdv,if_neg (by omega)]
   exact znh h1.2 h
theorem zkM {T:PT} (h:(T.nodes.map (·.1)).Nodup):(zbz T).Pairwise (· < ·):=by
 have tr:∀a b c:Int,decide (a≤b)=true→decide (b≤c)=true→decide (a≤c)=true:=fun a b c h1 h2=>by simp only [decide_eq_true_eq]at*;omega
 have to:∀a b:Int,(decide (a≤b)||decide (b≤a))=true:=fun a b=>by simp only [Bool.or_eq_true,decide_eq_true_eq];omega
 have h1:(zbz T).Pairwise fun a b=>decide (a≤b)=true:=List.pairwise_mergeSort tr to (T.nodes.map fun p:Int×PN=>p.1)
 have h2:(zbz T).Nodup:=(List.mergeSort_perm _ _).nodup_iff.2 h
 refine (h1.and h2).imp fun {a b} hab=> ?_
 have:=of_decide_eq_true hab.1
 have:=hab.2
 omega
theorem zgk {T:PT} {l:List Int} {t:TN} (h:t∈zhP T l):∃n∈l,∃x,T.get n=some x∧t=zbw n x:=by
 obtain ⟨n,hn,h2⟩:=List.mem_filterMap.1 (List.mem_filter.1 h).1
 cases hx:T.get n with
 |none=>rw [hx]at h2;cases h2
 |some x=>rw [hx]at h2;exact ⟨n,hn,x,hx,by simpa using h2.symm⟩
theorem zhX {T:PT}:∀{l:List Int},l.Pairwise (· < ·)→(zhP T l).Pairwise (fun a b=>a.node<b.node)
 |[],_=>List.Pairwise.nil
 |n::l,h=>by
  rw [List.pairwise_cons]at h
  have ih:=zhX (T:=T) h.2
  unfold zhP at ih ⊢
  rw [List.filterMap_cons]
  cases hx:T.get n with
  |none=>exact ih
  |some x=>
   simp only [Option.map_some]
   rw [List.filter_cons]
   split
   ·rw [List.pairwise_cons]
    refine ⟨fun t ht=> ?_,ih⟩
    obtain ⟨m,hm,y,_,rfl⟩:=zgk (T:=T) (l:=l) ht
    exact h.1 m hm
   ·exact ih
theorem zlW {T:PT} {n:Int} {x:PN} (hx:T.get n=some x):zbw n x∈zae T↔(zbw n x).shown=true:=by
 unfold zae zhP
 rw [List.mem_filter]
 refine ⟨fun h=>h.2,fun h=>⟨List.mem_filterMap.2 ⟨n, ?_,by rw [hx];rfl⟩,h⟩⟩
 exact (List.mergeSort_perm _ _).mem_iff.2 (List.mem_map.2 ⟨(n,x),zgd hx,rfl⟩)
theorem zye {T:PT} {k:Nat} (hok:T.ok k) (hg:VGood T.view):zeD (zae T)∧zdw (zae T)=T.view:=by
 have hs:=zhX (T:=T) (zkM hok.nod)
 have hat:∀n x,T.get n=some x→zas ⟨#[]⟩ (zaR x)=true:=fun n x hx=>zkS (hok.attrs n x hx).1 fun k w h=>hg.pairs n _ k w (PT.view_get hx) h
 have heach:∀t∈zae T,∃n x,T.get n=some x∧t=zbw n x:=fun t ht=>by
  obtain ⟨n,_,x,hx,e⟩:=zgk ht
  exact ⟨n,x,hx,e⟩
 obtain ⟨T',hT'⟩:=zpF (l:=zae T) (T:=T0) (last:=0) hs (fun r hr=>by
  obtain ⟨n,x,hx,rfl⟩:=heach r hr
  exact hg.pos n _ (PT.view_get hx)) fun r hr=>by
  obtain ⟨n,x,hx,rfl⟩:=heach r hr
  refine ⟨hat n x hx, ?_, ?_⟩
  ·show zbc n=_
   cases ht:zbc n with
   |true=>
    obtain ⟨e1,e2⟩:=hg.top n _ (PT.view_get hx) ht
    have e1:x.parent=0:=e1
    have e2:x.name=⟨#[]⟩:=e2
    simp [zbw,e1,e2]
   |false=>
    have:=hg.name n _ (PT.view_get hx) ht
    have hne:x.name≠⟨#[]⟩:=fun e=>by
     have this:zcW x.name=true:=this
     rw [e]at this
     exact absurd this (by decide)
    simp [zbw,hne]
  ·show zbc n=true∨_
   cases ht:zbc n with
   |true=>exact .inl rfl
   |false=>exact .inr (hg.name n _ (PT.view_get hx) ht)
 have hR:=zfi hT'
 have hv:zdw (zae T)=T.view:=by
  funext n
  unfold zdw
  cases hx:T.get n with
  |none=>
   rw [PT.view_none.2 hx,zeq fun r hr e=> ?_]
   ·cases h0:T0.get n with
    |none=>rfl
    |some y=>
     have:=(zmc (PT.view_get h0)).1
     have hv:=PT.view_none.2 hx
     rcases zeC.1 this with e|e
     ·rw [e]at hv;exact absurd hv hg.one
     ·rw [e]at hv;exact absurd hv hg.two
   ·obtain ⟨m,x,hx',rfl⟩:=heach r hr
    have e:m=n:=e
    rw [e,hx]at hx';cases hx'
  |some x=>
   rw [PT.view_get hx]
   by_cases hsh:(zbw n x).shown=true
   ·have:=znh hs ((zlW hx).2 hsh)
    rw [show (zbw n x).node=n from rfl]at this
    have h2:zdv (zae T) n=some (zsL (zbw n x)):=this
    rw [h2]
    simp only [Option.map_some,PN.view,zsL,zbw,Option.some.injEq,AN.mk.injEq,true_and]
    funext j
    rw [zsi (hat n x hx),zfT]
   ·simp only [TN.shown,Bool.or_eq_true,Bool.not_eq_true',decide_eq_true_eq,not_or]at hsh
    have ht:zbc n=true:=by
     have:=hsh.1
     simpa [zbw]using this
    have hl:(zaR x).length=0:=by
     have:=hsh.2
     simp only [zbw]at this
     omega
    have hno:∀r∈zae T,r.node≠n:=fun r hr e=>by
     obtain ⟨m,y,hy,rfl⟩:=heach r hr
     have e':m=n:=e
     rw [e']at hr hy
     rw [hx]at hy;cases hy
     have:=(zlW hx).1 hr
     rw [TN.shown,Bool.or_eq_true,Bool.not_eq_true']at this
     rcases this with q|q
     ·rw [show (zbw n x).node=n from rfl,ht]at q;cases q
     ·have q':0<(zaR x).length:=of_decide_eq_true q
      omega
    rw [zeq hno]
    have h0:T0.get n=some PN.bare:=by
     rcases zeC.1 ht with e|e<;>rw [e]<;>rfl
    rw [h0]
    obtain ⟨e1,e2⟩:=hg.top n _ (PT.view_get hx) ht
    have e1:x.parent=0:=e1
    have e2:x.name=⟨#[]⟩:=e2
    simp only [Option.map_some,PN.view,PN.bare,Option.some.injEq,AN.mk.injEq,e1,e2,true_and]
    funext j
    rw [←zfT x j,List.length_eq_zero_iff.1 hl];rfl
 refine ⟨⟨T',hT', ?_⟩,hv⟩
 unfold PT.led
 rw [hR.view,hv]
 exact hg.led
end Go.Proofs.YtmjiojflncffeaaGreat.Vc

set_option linter.unusedVariables false
set_option linter.unusedSimpArgs false
set_option maxRecDepth 100000
namespace Go.Proofs.YtmjiojflncffeaaGreat.Vc
open Go Go.Proofs
theorem zfc {a b c:PH} (h:dis a b):uni a (uni b c)=uni b (uni a c):=by rw [←zbs,zbU h,zbs]
def zeL (L Lb:Lay) (fr:Int) (ov:Value) (red:Int) (e:TypeId):Obj:= .cells #[ptr (L .t),ptr (Lb .t), .int .i64 fr,ov, .int .i64 red] e (0,0)
structure LogP (b:Nat) (L Lb:Lay) (p:PL) (ov:Value) (e:TypeId) (mo mT mB:PH):Prop where
 d1:dis (one b (zeL L Lb p.fr ov p.red e)) (uni mo (uni mT mB))
 d2:dis mo (uni mT mB)
 d3:dis mT mB
 ops:SlO mo ov 97 22 (p.ds.map zan)
 tree:TM mT L p.T
 base:TM mB Lb p.B
def LogM (m:PH) (b:Nat) (L Lb:Lay) (p:PL):Prop:=∃ov e mo mT mB,m=uni (one b (zeL L Lb p.fr ov p.red e)) (uni mo (uni mT mB))∧LogP b L Lb p ov e mo mT mB
theorem SlO.one {u:PH} {v:Value} {e:TypeId} {z:Nat} {xs:List GV} (h:SlO u v e z xs):v.oneCell'=true:=by
 rcases h.2 with ⟨h,_⟩|⟨a,c,h,_⟩<;>rw [h]<;>rfl
section
variable {m:PH} {b:Nat} {L Lb:Lay} {p:PL}
theorem LogM.look (h:LogM m b L Lb p):∃ov mT mB,SlR m ov 22 (p.ds.map zan)∧(PH.sub mT m∧TM mT L p.T)∧(PH.sub mB m∧TM mB Lb p.B)∧∀{C:Ctx} {ph:List PH} {m':PH},KN C.u0 (m'::ph) m→
  zce C ph m' b 0 (.s (ptr (L .t)))∧zce C ph m' b 1 (.s (ptr (Lb .t)))∧zce C ph m' b 2 (.s (.int .i64 p.fr))∧zce C ph m' b 3 (.s ov)∧zce C ph m' b 4 (.s (.int .i64 p.red)):=by
 obtain ⟨ov,e,mo,mT,mB,rfl,q⟩:=h
 have s1:PH.sub (uni mo (uni mT mB)) (uni (one b (zeL L Lb p.fr ov p.red e)) (uni mo (uni mT mB))):=zao q.d1
 have s2:=PH.sub_trans (zao q.d2) s1
 refine ⟨ov,mT,mB,q.ops.toR.up (PH.sub_trans (zV _ _) s1),⟨PH.sub_trans (zV _ _) s2,q.tree⟩,⟨PH.sub_trans (zao q.d3) s2,q.base⟩,fun hk=> ?_⟩
 have hb:uni (one b (zeL L Lb p.fr ov p.red e)) (uni mo (uni mT mB)) b=some (zeL L Lb p.fr ov p.red e):=zV _ _ _ _ (zaE _ _)
 exact ⟨zaC hk hb rfl rfl,zaC hk hb rfl rfl,zaC hk hb rfl rfl,zaC hk hb rfl q.ops.one,zaC hk hb rfl rfl⟩
theorem LogM.tree (h:LogM m b L Lb p):∃mT mr,m=uni mT mr∧dis mT mr∧TM mT L p.T∧∀{L':Lay} {T':PT} {mT':PH},L' .t=L .t→TM mT' L' T'→dis mT' mr→LogM (uni mT' mr) b L' Lb {p with T:=T'}:=by
 obtain ⟨ov,e,mo,mT,mB,rfl,q⟩:=h
 obtain ⟨d1,d2⟩:=zA q.d1
 obtain ⟨d3,d4⟩:=zA d2
 obtain ⟨d5,d6⟩:=zA q.d2
 refine ⟨mT,uni (one b (zeL L Lb p.fr ov p.red e)) (uni mo mB), ?_,zad (zG d3) (zad (zG d5) q.d3),q.tree,fun {L' T' mT'} hL hT hd=> ?_⟩
 ·rw [zfc d5,zfc d3]
 ·obtain ⟨g1,g2⟩:=zA hd
  obtain ⟨g3,g4⟩:=zA g2
  have hlog:zeL L' Lb p.fr ov p.red e=zeL L Lb p.fr ov p.red e:=by unfold zeL;rw [hL]
  refine ⟨ov,e,mo,mT',mB, ?_,⟨?_,zad (zG g3) d6,g4,q.ops,hT,q.base⟩⟩
  ·show _=uni (one b (zeL L' Lb p.fr ov p.red e)) _
   rw [hlog,zfc (b:=mT') (zG g3),zfc (zG g1)]
  ·show dis (one b (zeL L' Lb p.fr ov p.red e)) _
   rw [hlog]
   exact zad d1 (zad (zG g1) d4)
theorem LogM.base (h:LogM m b L Lb p):∃mB mr,m=uni mB mr∧dis mB mr∧TM mB Lb p.B∧∀{L':Lay} {T':PT} {mB':PH},L' .t=Lb .t→TM mB' L' T'→dis mB' mr→LogM (uni mB' mr) b L L' {p with B:=T'}:=by
 obtain ⟨ov,e,mo,mT,mB,rfl,q⟩:=h
 obtain ⟨d1,d2⟩:=zA q.d1
 obtain ⟨d3,d4⟩:=zA d2
 obtain ⟨d5,d6⟩:=zA q.d2
 refine ⟨mB,uni (one b (zeL L Lb p.fr ov p.red e)) (uni mo mT), ?_,zad (zG d4) (zad (zG d6) (zG q.d3)),q.base,fun {L' T' mT'} hL hT hd=> ?_⟩
 ·rw [zbU q.d3,zfc d6,zfc d4]
 ·obtain ⟨g1,g2⟩:=zA hd
  obtain ⟨g3,g4⟩:=zA g2
  have hlog:zeL L L' p.fr ov p.red e=zeL L Lb p.fr ov p.red e:=by unfold zeL;rw [hL]
  refine ⟨ov,e,mo,mT,mT', ?_,⟨?_,zad d5 (zG g3),zG g4,q.ops,q.tree,hT⟩⟩
  ·show _=uni (one b (zeL L L' p.fr ov p.red e)) _
   rw [hlog,zbU (a:=mT) (b:=mT') (zG g4),zfc (b:=mT') (zG g3),zfc (zG g1)]
  ·show dis (one b (zeL L L' p.fr ov p.red e)) _
   rw [hlog]
   exact zad d1 (zad d3 (zG g1))
theorem LogM.list (h:LogM m b L Lb p):∃ov e mo mr,m=uni mo mr∧dis mo mr∧SlO mo ov 97 22 (p.ds.map zan)∧mr b=some (zeL L Lb p.fr ov p.red e)∧(∀{C:Ctx} {ph:List PH} {m':PH},KN C.u0 (m'::ph) m→zce C ph m' b 3 (.s ov))∧
  ∀{v':Value} {mo':PH} {ds':List Done} {fr' red':Int},SlO mo' v' 97 22 (ds'.map zan)→dis mo' mr→LogM (uni mo' (mr.upd b (zeL L Lb fr' v' red' e))) b L Lb {p with ds:=ds',fr:=fr',red:=red'}:=by
 obtain ⟨ov,e,mo,mT,mB,rfl,q⟩:=h
 obtain ⟨d1,d2⟩:=zA q.d1
 have hb:uni (one b (zeL L Lb p.fr ov p.red e)) (uni mo (uni mT mB)) b=some (zeL L Lb p.fr ov p.red e):=zV _ _ _ _ (zaE _ _)
 refine ⟨ov,e,mo,uni (one b (zeL L Lb p.fr ov p.red e)) (uni mT mB),zfc d1,zad (zG d1) q.d2,q.ops,zV _ _ _ _ (zaE _ _),fun hk=>zaC hk hb rfl q.ops.one,fun {v' mo' ds' fr' red'} hv hd=> ?_⟩
 obtain ⟨g1,g2⟩:=zA hd
 have hone:∀{x:PH} {o o':Obj},dis (one b o) x→dis (one b o') x:=fun {x o o'} h j=>by
  rcases h j with h1|h1
  ·left
   simp only [Vc.one]at h1 ⊢
   split at h1
   ·cases h1
   ·rename_i hj;rw [if_neg hj]
  ·exact .inr h1
 refine ⟨v',e,mo',mT,mB, ?_,⟨hone (zad (zG g1) d2),g2,q.d3,hv,q.tree,q.base⟩⟩
 rw [zbZ,zfc (b:=one b (zeL L Lb fr' v' red' e)) (zG (hone (zG g1)))]
end
theorem SlR.cutAt {u:PH} {b o n c:Nat} {z:Nat} {xs:List GV} (h:SlR u (.slice (some ⟨b,o,none⟩) n c) z xs) {lo hi:Nat} (h1:lo≤hi) (h2:hi≤n):SlR u (.slice (some ⟨b,if c=lo then o else o+lo*z,none⟩) (hi - lo) (c - lo)) z ((xs.drop lo).take (hi - lo)):=by
 obtain ⟨hels,⟨h3,rfl⟩|⟨a,c',h3,h4,h5⟩⟩:=h
 ·simp at h3
 ·simp only [Value.slice.injEq,Option.some.injEq]at h3
  obtain ⟨rfl,rfl,rfl⟩:=h3
  refine ⟨hels.part _ _, .inr ⟨⟨b,if c=lo then o else o+lo*z,none⟩,c - lo,by rw [List.length_take,List.length_drop];congr 1;omega,by rw [List.length_take,List.length_drop];omega,fun hc=> ?_⟩⟩
  obtain ⟨cs,e,fz,g1,g2,g3⟩:=h5 (by omega)
  simp only at g2 g3 ⊢
  rw [if_neg (by omega)]
  refine ⟨cs,e,fz,trivial,g2,fun j v hj=> ?_⟩
  rw [Nat.add_assoc]
  exact g3 _ _ (zeV hels (by omega) j v hj)
theorem zAJ {C:Ctx} {σ:SS} {t z:Nat} {x:Opd} {lo hi:Option Opd} {r:List (Option Nat×RO)} {K:KT} {v:Value} {u:PH} {xs:List GV} {l h:Nat} (hx:ev σ x=some (.g (.s v))) (hs:SlR u v z xs) (hlo:zdA σ lo 0=some l) (hhi:∀d:Nat,d=xs.length→zdA σ hi d=some h)
  (h1:l≤h) (h2:h≤xs.length) (hK:∀v',v'.oneCell'=true→SlR u v' z ((xs.drop l).take (h - l))→zcw C r K (σ.put (some t) (.g (.s v')))):zcw C ((some t, .sl z x lo hi)::r) K σ:=by
 rw [za]
 simp only [zj,hx]
 have hw:=hs
 obtain ⟨hels,⟨rfl,rfl⟩|⟨⟨b,o,sp⟩,c,rfl,hc,hs⟩⟩:=hs
 ·obtain rfl:h=0:=by simpa using h2
  obtain rfl:l=0:=by omega
  simp only [hlo,hhi 0 rfl]
  exact ⟨⟨rfl,rfl⟩,hK _ rfl (by simpa using hw)⟩
 ·cases sp with
  |none=>
   simp only [hlo,hhi _ rfl]
   refine ⟨⟨hc,by omega,by omega,by omega⟩, ?_⟩
   simp only [Int.toNat_natCast]
   exact hK _ rfl (SlR.cutAt hw h1 h2)
  |some sp=>
   have hc0:c=0:=by
    rcases Nat.eq_zero_or_pos c with h|h
    ·exact h
    ·obtain ⟨_,_,_,g,_⟩:=hs h
     cases g
   subst hc0
   have hx0:xs=[]:=List.length_eq_zero_iff.1 (by omega)
   subst hx0
   obtain rfl:h=0:=by simpa using h2
   obtain rfl:l=0:=by omega
   simp only [hlo,hhi 0 rfl,List.length_nil]
   exact ⟨⟨rfl,rfl⟩,hK _ rfl (by simpa using hw)⟩
end Go.Proofs.YtmjiojflncffeaaGreat.Vc

set_option linter.unusedVariables false
set_option linter.unusedSimpArgs false
set_option maxRecDepth 100000
namespace Go.Proofs.YtmjiojflncffeaaGreat.Vc
open Go Go.Proofs
theorem zzY (b:Nat):EqG Tryz.prog 27 (.s (ptr b)) (.s (.pointer none)) false:=zpd (e:=81) (by kernel_rfl) _
section
variable {w:World} {u:PH} {b:Nat} {L Lb:Lay} {p:PL}
theorem zcG (hu:u.le w) (h:LogM u b L Lb p):Spec Tryz.prog zmG [ptr b] PH.no w fun rs _=>rs=[.s (.bool false)]:=by
 refine zbE znk (Qf:=fun rs=>rs=[.s (.bool false)]) [.g (.s (ptr b))] (by simp) (by simp [AV.ok,GV.ok,Value.oneCell',ptr]) ?_
 obtain ⟨ov,mT,mB,hS,hT,hB,hs⟩:=h.look
 simp (maxSteps:=2000000) only [zhJ,ptr,zi,zm,zf,zc,zb,zh,ze,za,zj,ev,look,zd,zg,zk,Value.oneCell',cond_true,↓reduceIte,reduceCtorEq,zak,zaK,ptr]
 refine zcH (zzY b) ?_
 simp (maxSteps:=2000000) only [zH,ze,za,zj,ev,look,zd,↓reduceIte,reduceCtorEq,Nat.zero_add,↓zbi,Bool.bne_false]
 refine zJ _ (hs (zdy hu)).2.1 rfl ?_
 simp (maxSteps:=2000000) only [ptr,za,zj,ev,look,zd,Value.oneCell',cond_true,↓reduceIte,ptr]
 refine zcH (ztu _) ?_
 simp (maxSteps:=2000000) only [zx,zf,zc,zb,zh,ze,za,zj,ev,look,zd,zg,zk,Value.oneCell',cond_true,Nat.reduceEqDiff,↓reduceIte,zD,zal,zC,↓zN,Bool.bne_false]
theorem ztS (w:World) (v:Value) (ops:List Op) (hb:ops.length≤1099511627776) (u:PH) (hu:u.le w) (h:SlR u v 8 (ops.map gOp)):
  Spec Tryz.prog 37 [v] PH.no w fun rs m'=>∃v',rs=[.s v']∧SlO m' v' 26 8 (ops.map gOp):=by
 refine zbb zoV [.ro v 8 (gOp zOp) (ops.map gOp)] (by simp) (by simpa [AV.ok,zbr]using h.up hu.sub) ?_
 simp (maxSteps:=2000000) only [ziW,zu,zx,zi,zm,zq,zf,zp,zc,zab,zb,zh,ze,za,zj,ev,evL,gvL,look,zZ,zd,zg,zk,zaF,Value.oneCell',cond_true,cond_false,Nat.reduceEqDiff,Nat.reduceBEq,↓reduceIte,reduceCtorEq,List.nil_append,Nat.zero_add,Bool.and_true,Bool.true_and,BEq.rfl,true_and,and_true,zak,zaK,zcO,List.length_nil,zbA,SV.mentions,ne_eq,not_false_eq_true,List.drop_zero,zax,Bool.bne_false,List.length_map,zaU,zcx]
 refine ⟨⟨26,by kernel_rfl⟩,fun r hr=>⟨fun h1=> ?_,fun h1=>⟨by omega, ?_⟩⟩⟩
 ·have:ops=[]:=by
   cases ops with
   |nil=>rfl
   |cons b bs=>have:=hr (by simp);rw [h1]at this;cases this
  subst this
  exact zbq PH.no rfl (fun _ _ h=>by cases h) ⟨_,rfl,⟨fun x hx=>by simp at hx, .inl ⟨rfl,rfl⟩⟩⟩
 ·rw [show List.take ops.length (ops.map gOp)=ops.map gOp by rw [List.take_of_length_le (by simp)]]
  refine zfB 2 5 _ rfl rfl (by simp) fun v' u' ho hs hd=> ?_
  simp (maxSteps:=2000000) only [zx,zf,zc,zab,zb,ze,look,zg,zk,cond_true,cond_false,Nat.reduceBEq,↓reduceIte,BEq.rfl,zbA,SV.mentions]
  exact zbq u' rfl (by rw [zaz];exact fun _ _ h=>h) ⟨v',rfl,hs⟩
theorem zjN (w:World) (v:Value) (ds:List Done) (hb:ds.length≤549755813888) (u:PH) (hu:u.le w) (h:SlR u v 22 (ds.map zan)):
  Spec Tryz.prog 43 [v] PH.no w fun rs m'=>∃v',rs=[.s v']∧SlO m' v' 97 22 (ds.map zan):=by
 refine zbb zoH [.ro v 22 (zan zbe) (ds.map zan)] (by simp) (by simpa [AV.ok,zbr]using h.up hu.sub) ?_
 simp (maxSteps:=2000000) only [ziX,zu,zx,zi,zm,zq,zf,zp,zc,zab,zb,zh,ze,za,zj,ev,evL,gvL,look,zZ,zd,zg,zk,zaF,Value.oneCell',cond_true,cond_false,Nat.reduceEqDiff,Nat.reduceBEq,↓reduceIte,reduceCtorEq,List.nil_append,Nat.zero_add,Bool.and_true,Bool.true_and,BEq.rfl,true_and,and_true,zak,zaK,zcO,List.length_nil,zbA,SV.mentions,ne_eq,not_false_eq_true,List.drop_zero,zax,Bool.bne_false,List.length_map,zaU,zcx,zcL,zee,ziy]
 refine ⟨⟨97,by kernel_rfl⟩,fun r hr=>⟨fun h1=> ?_,fun h1=>⟨by omega, ?_⟩⟩⟩
 ·have:ds=[]:=by
   cases ds with
   |nil=>rfl
   |cons b bs=>have:=hr (by simp);rw [h1]at this;cases this
  subst this
  exact zbq PH.no rfl (fun _ _ h=>by cases h) ⟨_,rfl,⟨fun x hx=>by simp at hx, .inl ⟨rfl,rfl⟩⟩⟩
 ·rw [show List.take ds.length (ds.map zan)=ds.map zan by rw [List.take_of_length_le (by simp)]]
  refine zfB 2 5 _ rfl rfl (by simp) fun v' u' ho hs hd=> ?_
  simp (maxSteps:=2000000) only [zx,zf,zc,zab,zb,ze,look,zg,zk,cond_true,cond_false,Nat.reduceBEq,↓reduceIte,BEq.rfl,zbA,SV.mentions]
  exact zbq u' rfl (by rw [zaz];exact fun _ _ h=>h) ⟨v',rfl,hs⟩
theorem zop (w:World):Spec Tryz.prog zuA [] PH.no w fun rs m'=>∃b L Lb,rs=[.s (ptr b)]∧LogM m' b L Lb PL.new:=by
 refine zbb zvk [] (by simp) (by simp [AV.ok]) ?_
 simp (maxSteps:=2000000) only [zos,zi,zm,zf,zc,zb,zh,ze,za,zj,ev,zd,zg,zk,Value.oneCell',cond_true,zak,zaK,ptr]
 refine zaJ rfl rfl (Q:=fun rs m'=>∃L,rs=[.s (ptr (L .t))]∧TM m' L T0) (fun w' vs hv hw _ _=> ?_) fun rs mT _ hq _=> ?_
 ·obtain rfl:=zr hv
  exact zqF w'
 obtain ⟨L,rfl,hT⟩:=hq
 simp (maxSteps:=2000000) only [zK,zaz,za,zj,ev,evL,gvL,look,zd,GV.getT,GV.same,GV.setT,↓reduceIte,Bool.and_true,and_true,List.map_cons,List.map_nil,Option.map_some,GV.bldT,GV.bldC,ptr]
 refine ⟨rfl, ?_⟩
 refine zaJ rfl rfl (Q:=fun rs m'=>∃L,rs=[.s (ptr (L .t))]∧TM m' L T0) (fun w' vs hv hw _ _=> ?_) fun rs mB _ hq hd=> ?_
 ·obtain rfl:=zr hv
  exact zqF w'
 obtain ⟨Lb,rfl,hB⟩:=hq
 simp (maxSteps:=2000000) only [zK,GV.bldC,GV.bldT,za,zj,ev,evL,gvL,look,zZ,zd,GV.getT,GV.same,GV.setT,Nat.reduceEqDiff,↓reduceIte,Bool.and_true,Bool.true_and,true_and,and_true,List.map_cons,List.map_nil,Option.map_some,GV.bldT,GV.bldC,ptr]
 refine ⟨⟨rfl,rfl⟩,zcu 5 5 rfl rfl fun v u hv hp hd2=> ?_⟩
 obtain ⟨hok,b,e,rfl,rfl⟩:=hp
 have hd:dis mB mT:=hd
 have hd2:dis (one b (zeL L Lb 0 (.slice none 0 0) 0 e)) (uni mB mT):=hd2
 simp (maxSteps:=2000000) only [zx,zf,zc,zab,zb,ze,za,zj,ev,look,zd,zg,zk,cond_true,cond_false,↓reduceIte,BEq.rfl,zbA,SV.mentions]
 refine zbq _ rfl (fun _ _ h=>h) ⟨b,L,Lb,rfl, ?_⟩
 have em:uni mB mT=uni PH.no (uni mT mB):=by rw [zeX,zbU hd]
 show LogM (uni (one b (zeL L Lb 0 (.slice none 0 0) 0 e)) (uni mB mT)) b L Lb PL.new
 rw [em]at hd2 ⊢
 exact ⟨.slice none 0 0,e,PH.no,mT,mB,rfl,⟨hd2,zgC _,zG hd,⟨fun x hx=>by simp [PL.new]at hx, .inl ⟨rfl,rfl⟩⟩,hT,hB⟩⟩
theorem zjh (hu:u.le w) (h:LogM u b L Lb p):Spec Tryz.prog zoJ [ptr b] PH.no w fun rs _=>rs=[.s (.int .i64 p.ds.length)]:=by
 refine zbE zoD (Qf:=fun rs=>rs=[.s (.int .i64 p.ds.length)]) [.g (.s (ptr b))] (by simp) (by simp [AV.ok,GV.ok,Value.oneCell',ptr]) ?_
 obtain ⟨ov,mT,mB,hS,hT,hB,hs⟩:=h.look
 simp (maxSteps:=2000000) only [ziE,ptr,zi,zm,zf,zc,zb,zh,ze,za,zj,ev,look,zd,zg,zk,Value.oneCell',cond_true,↓reduceIte,reduceCtorEq,zak,zaK,ptr]
 refine zaM _ [.s (.bool false)] rfl rfl (fun w' vs hv hw _ _=> ?_) ?_
 ·obtain ⟨vs,rfl,_,hv⟩:=zt hv
  obtain rfl:=zr hv
  exact zcG (fun b o h=>hw b o (by rw [zbr];exact hu b o h)) h
 simp (maxSteps:=2000000) only [zK,zu,zi,zm,zq,zf,zc,zb,zh,ze,za,zj,ev,look,zd,zg,zk,↓reduceIte,reduceCtorEq,Nat.zero_add,↓zN]
 refine zJ _ (hs (zdy hu)).2.2.2.1 rfl ?_
 obtain ⟨a,c,rfl⟩:=zch hS
 simp (maxSteps:=2000000) only [List.length_map,zx,zf,zc,zb,ze,za,zj,ev,look,zd,zg,zk,↓reduceIte,zD,zal,zC,List.length_map]
theorem znI (hu:u.le w) (h:LogM u b L Lb p):Spec Tryz.prog zjn [ptr b] PH.no w fun rs _=>rs=[.s (.int .i64 p.fr)]:=by
 refine zbE zjr (Qf:=fun rs=>rs=[.s (.int .i64 p.fr)]) [.g (.s (ptr b))] (by simp) (by simp [AV.ok,GV.ok,Value.oneCell',ptr]) ?_
 obtain ⟨ov,mT,mB,hS,hT,hB,hs⟩:=h.look
 simp (maxSteps:=2000000) only [zfl,ptr,zi,zm,zf,zc,zb,zh,ze,za,zj,ev,look,zd,zg,zk,Value.oneCell',cond_true,↓reduceIte,reduceCtorEq,zak,zaK,ptr]
 refine zaM _ [.s (.bool false)] rfl rfl (fun w' vs hv hw _ _=> ?_) ?_
 ·obtain ⟨vs,rfl,_,hv⟩:=zt hv
  obtain rfl:=zr hv
  exact zcG (fun b o h=>hw b o (by rw [zbr];exact hu b o h)) h
 simp (maxSteps:=2000000) only [zK,zu,zi,zm,zq,zf,zc,zb,zh,ze,za,zj,ev,look,zd,zg,zk,↓reduceIte,reduceCtorEq,Nat.zero_add,↓zN]
 refine zJ _ (hs (zdy hu)).2.2.1 rfl ?_
 simp (maxSteps:=2000000) only [zx,zf,zc,zb,ze,za,zj,ev,look,zd,zg,zk,↓reduceIte,zD,zal,zC]
end
end Go.Proofs.YtmjiojflncffeaaGreat.Vc

set_option linter.unusedVariables false
set_option linter.unusedSimpArgs false
set_option maxRecDepth 100000
namespace Go.Proofs.YtmjiojflncffeaaGreat.Vc
open Go Go.Proofs
def cnt (ks:List (Int×Int)):List ((Int×Int)×Value):=ks.map fun k=>(k, .int .i64 1)
theorem zmm:∀(ks:List (Int×Int)) (k:Int×Int),zbO (cnt ks) k=if k∈ks then some (.int .i64 1)else none
 |[],_=>rfl
 |j::ks,k=>by
  have ih:=zmm ks k
  show (if j=k then some (.int .i64 1)else zbO (cnt ks) k)=_
  rw [ih]
  by_cases h:j=k
  ·subst h;simp
  ·simp [h,Ne.symm h]
theorem ztH (v:Value):∀(ks:List (Int×Int)) (k:Int×Int),k∉ks→zcP (cnt ks) k v=cnt ks++[(k,v)]
 |[],_,_=>rfl
 |j::ks,k,h=>by
  have h1:j≠k:=fun e=>h (by simp [e])
  show (if j=k then (k,v)::cnt ks else (j, .int .i64 1)::zcP (cnt ks) k v)=_
  rw [if_neg h1,ztH v ks k fun hm=>h (List.mem_cons_of_mem _ hm)]
  rfl
theorem zrH (v:Value):∀(l:List ((Int×Int)×Value)) (k:Int×Int),zbO (zcP l k v) k=some v
 |[],k=>by simp [zcP,zbO]
 |(j,u)::l,k=>by
  by_cases h:j=k
  ·simp [zcP,zbO,h]
  ·simp only [zcP,if_neg h,zbO]
   exact zrH v l k
theorem zAM {o:Obj} {kd:Option IntKind} (h:zcE kd o []):znA o []:=by
 obtain ⟨es,cl,rfl,h1,h2,_⟩:=h
 exact ⟨es,cl,rfl,by simpa using h1,h2,by simp⟩
def zqk (ks:List (Int×Int)) (k:Int×Int):Int:=if k∈ks then 2 else 1
theorem zxV (ks:List (Int×Int)) (k:Int×Int):(zbO (cnt ks) k).getD (.int .i64 0)= .int .i64 (zqk ks k - 1):=by
 rw [zmm,zqk];split<;>rfl
theorem zun (ks:List (Int×Int)) (k:Int×Int):IntKind.i64.wrap (zqk ks k - 1+1)=zqk ks k:=by
 rw [zqk];split<;>decide
theorem zpl {ks:List (Int×Int)} {k:Int×Int} (h:k∉ks):zcP (cnt ks) k (.int .i64 (zqk ks k))=cnt (ks++[k]):=by
 rw [ztH _ _ _ h,zqk,if_neg h];simp [cnt]
def zbl (ds:List Done) (fr:Int):List (Int×Int)→List Op→Int
 |_,[]=>0
 |ks,op::l=>if zaO op≠0 then zaO op else if op.stamp.time≤fr then 130 else if zgM ds op.k=true∨op.k∈ks then 5 else zbl ds fr (ks++[op.k]) l
theorem zhg {ds:List Done} {fr:Int} {ks:List (Int×Int)} {op:Op} {l:List Op} (h:zaO op≠0):zbl ds fr ks (op::l)=zaO op:=if_pos h
theorem zkn {ds:List Done} {fr:Int} {ks:List (Int×Int)} {op:Op} {l:List Op} (h:zaO op=0) (h2:op.stamp.time≤fr):zbl ds fr ks (op::l)=130:=by
 rw [zbl,if_neg (by simp [h]),if_pos h2]
theorem zep {ds:List Done} {fr:Int} {ks:List (Int×Int)} {op:Op} {l:List Op} (h:zaO op=0) (h2:¬op.stamp.time≤fr) (h3:zgM ds op.k=true∨op.k∈ks):zbl ds fr ks (op::l)=5:=by
 rw [zbl,if_neg (by simp [h]),if_neg h2,if_pos h3]
theorem zgv {ds:List Done} {fr:Int} {ks:List (Int×Int)} {op:Op} {l:List Op} (h:zaO op=0) (h2:¬op.stamp.time≤fr) (h3:¬(zgM ds op.k=true∨op.k∈ks)):zbl ds fr ks (op::l)=zbl ds fr (ks++[op.k]) l:=by
 rw [zbl,if_neg (by simp [h]),if_neg h2,if_neg h3]
theorem zya {α:Type} {l:List α} {i:Nat} (h:i<l.length) (z:α):l.drop i=l.getD i z::l.drop (i+1):=by
 rw [List.drop_eq_getElem_cons h,List.getD_eq_getElem?_getD,List.getElem?_eq_getElem h];rfl
theorem zfb {α:Type} {l:List α} {i:Nat} (h:i<l.length) (z:α):l.take (i+1)=l.take i++[l.getD i z]:=by
 rw [List.take_add_one,List.getD_eq_getElem?_getD,List.getElem?_eq_getElem h];rfl
def zqn (ops:List Op):Prop:=ops.length≤1048576∧∀op∈ops,OpIn op∧zeP op
theorem zyC (w:World) (u:PH) (hu:u.le w) (b:Nat) (L Lb:Lay) (p:PL) (hL:LogM u b L Lb p) (hof:∀d∈p.ds,d.undo.of.oneCell'=true) (hr:Rising (p.ds.map Done.k)) (hl:p.ds.length≤1099511627776) (v:Value) (ops:List Op) (hops:zqn ops) (hS:SlR w.ph v 8 (ops.map gOp)):
  Spec Tryz.prog zns [ptr b,v] PH.no w fun rs _=>rs=[.s (.int .i64 (zbl p.ds p.fr [] ops))]:=by
 refine zbE znF (Qf:=fun rs=>rs=[.s (.int .i64 (zbl p.ds p.fr [] ops))]) [.g (.s (ptr b)), .ro v 8 (gOp zOp) (ops.map gOp)] (by simp) (by simpa [AV.ok,zbr,GV.ok,Value.oneCell',ptr]using hS) ?_
 obtain ⟨ov,mT,mB,hSo,_,_,hs⟩:=hL.look
 simp (maxSteps:=2000000) only [zht,ptr,zi,zm,zf,zc,zb,zh,ze,za,zj,ev,look,zd,zg,zk,Value.oneCell',cond_true,Nat.reduceEqDiff,↓reduceIte,reduceCtorEq,Nat.zero_add,zak,zaK,List.length_map,ptr]
 intro bm om hom _
 simp (maxSteps:=2000000) only [zaz,zi,zB,zm,zf,zc,zb,zh,ze,za,zj,ev,look,zd,zg,zk,Value.oneCell',cond_true,Nat.reduceEqDiff,↓reduceIte,reduceCtorEq]
 refine zaP (ι:=Nat×Obj) (fun q=>⟨[(0, .g (.s (.pointer (some ⟨b,0,none⟩)))),(5, .g (.s (.map (some bm)))),(12, .row 1 0 (ops.length)),(13, .g (.s (.int .i64 (ops.length)))),(14, .g (.s (.int .i64 (q.1))))],[(1, .ro 8 (gOp zOp) (ops.map gOp))],[],one bm q.2⟩)
  (fun q=>q.1≤ops.length∧znA q.2 (cnt ((ops.take q.1).map Op.k))∧zbl p.ds p.fr [] ops=zbl p.ds p.fr ((ops.take q.1).map Op.k) (ops.drop q.1)) (fun q=>ops.length - q.1) (0,om) ⟨by simp,zAM (hom none),rfl⟩ (zR ?_ ?_ rfl rfl rfl) ?_
 ·simp [zaf,look]
 ·simp [zam,look]
 rintro ⟨i,o⟩ ⟨hi,hm,he⟩
 simp only at hi hm he
 generalize hQ:loopQ _ _ _ _ _=Q
 simp (maxSteps:=2000000) only [zfM,zu,zau,zi,zB,zm,zq,zf,zay,zc,zb,zh,ze,za,zj,ev,look,zZ,zd,zS,zg,zk,zaF,zdh,zO,zP,Nat.reduceEqDiff,↓reduceIte,reduceCtorEq,Nat.zero_add,Bool.and_true,Bool.true_and,true_and,and_true,Int.toNat_natCast,decide_eq_true_eq,decide_eq_false_iff_not,zax,zn,zY,zaU,zbM,zbp,zfs,zcx,zdY]
 refine ⟨fun hlt=>⟨⟨by omega,by omega⟩, ?_⟩,fun hge=> ?_⟩
 case refine_2=>
  subst hQ
  simp (maxSteps:=2000000) only [zx,zi,zm,zf,zat,zc,zaQ,zb,zh,ze,za,zj,ev,look,zd,zg,zk,Value.oneCell',cond_true,↓reduceIte,zD,zal,zC]
  rw [he,List.drop_eq_nil_of_le (by omega)]
  rfl
 have hlt':i<ops.length:=by omega
 obtain ⟨op,hop⟩:∃op,ops.getD i zOp=op:=⟨_,rfl⟩
 obtain ⟨hin,hok⟩:=hops.2 op (hop▸getD_in hlt' zOp)
 have hd:=zya hlt' zOp
 rw [hop]at hd ⊢
 rw [hd]at he
 refine zac (zpH op hin) rfl rfl rfl fun _=> ?_
 by_cases hc:zaO op=0
 case neg=>
  simp (maxSteps:=2000000) only [zK,bne_iff_ne.2 hc,zx,zi,zm,zq,zf,zp,zy,zc,zb,zh,ze,za,zj,ev,look,zd,zg,zk,zO,zP,Value.oneCell',cond_true,Nat.reduceEqDiff,↓reduceIte,reduceCtorEq,Bool.true_and,true_and,↓zL]
  subst hQ
  simp (maxSteps:=2000000) only [zp,zy,zah,look,↓reduceIte,zD,zal,zC]
  rw [he,zhg hc]
 simp (maxSteps:=2000000) only [zK,hc,zu,zx,zi,zm,zeS,zq,zf,zp,zy,zc,zb,zh,ze,za,zbI,zeG,zj,ev,look,zd,zg,zk,zO,zP,Value.oneCell',cond_true,Nat.reduceEqDiff,↓reduceIte,reduceCtorEq,List.nil_append,Bool.true_and,true_and,zax,zn,zag,zcb,zbL]
 generalize hks:(ops.take i).map Op.k=ks at*
 refine (fun (tail:∀o',znA o' (zcP (cnt ks) op.k (.int .i64 (zqk ks op.k)))→∀σ:SS,Ge σ ⟨[(0, .g (.s (.pointer (some ⟨b,0,none⟩)))),(5, .g (.s (.map (some bm)))),(7, .ref 7 []),(12, .row 1 0 (ops.length)),(13, .g (.s (.int .i64 (ops.length)))),(14, .g (.s (.int .i64 (i))))],[(1, .ro 8 (gOp zOp) (ops.map gOp)),(7, .box (gOp op))],[],one bm o'⟩→
  vc ⟨Tryz.prog,59,w,PH.no⟩ zdS (blockQ 1 (thenQ (vc ⟨Tryz.prog,59,w,PH.no⟩ (.rg [⟨none,[(some 58, .bin .add (.t 14) (.c (.int .i64 1))),(some 14, .mv (.t 58))]⟩] [0,5,12,13,14]) Q) Q)) σ)=> ?main) ?pf
 case main=>
  simp (maxSteps:=2000000) only [Int.reduceBNe,Bool.true_and,true_and,true_imp_iff,false_imp_iff,Bool.false_eq_true]
  have hg:=zxV ks op.k
  have hw:=zun ks op.k
  have ge7:∀{m:PH} {fr:List (Nat×SV)},zaf fr [(0, .g (.s (.pointer (some ⟨b,0,none⟩)))),(5, .g (.s (.map (some bm)))),(7, .ref 7 []),(12, .row 1 0 (ops.length)),(13, .g (.s (.int .i64 (ops.length)))),(14, .g (.s (.int .i64 (i))))]→Ge ⟨fr,[(1, .ro 8 (gOp zOp) (ops.map gOp)),(7, .box (gOp op))],[],m⟩ ⟨[(0, .g (.s (.pointer (some ⟨b,0,none⟩)))),(5, .g (.s (.map (some bm)))),(7, .ref 7 []),(12, .row 1 0 (ops.length)),(13, .g (.s (.int .i64 (ops.length)))),(14, .g (.s (.int .i64 (i))))],[(1, .ro 8 (gOp zOp) (ops.map gOp)),(7, .box (gOp op))],[],m⟩:=fun hf=>zR hf (by simp [zam,look]) rfl rfl rfl
  refine ⟨⟨op.k,o,_,rfl, .inl (zaE _ _),hm, ?_⟩, ?_⟩
  ·simp (maxSteps:=2000000) only [zsu,hg,zb,zh,ze,za,zbI,zj,ev,look,zd,zO,zP,Value.oneCell',cond_true,cond_false,Nat.reduceEqDiff,↓reduceIte,Bool.true_and,true_and]
   refine ⟨op.k,o,_,rfl,zaE _ _,hm,fun o1 β ho1 hb1=> ?_⟩
   simp (maxSteps:=2000000) only [zlD,List.getElem?_cons_succ,List.getElem?_cons_zero,zb,zh,ze,za,zbI,zj,ev,look,zd,Nat.reduceEqDiff,↓reduceIte]
   refine ⟨op.k,o1,_,β,rfl,zaE _ _,ho1,hb1,fun o2 ho2=> ?_⟩
   rw [zkm,hw]at ho2
   simp (maxSteps:=2000000) only [zlD,zf,zc,zb,ze,zdn,look,zS,zg,zk,Nat.reduceEqDiff,↓reduceIte,reduceCtorEq]
   exact tail o2 ho2 _ (ge7 (by simp [zaf,look]))
  ·refine ⟨op.k,o,_,rfl,zaE _ _,hm,fun o1 β ho1 hb1=> ?_⟩
   simp (maxSteps:=2000000) only [zlD,List.getElem?_cons_succ,List.getElem?_cons_zero,zb,zh,ze,za,zbI,zj,ev,look,zd,Nat.reduceEqDiff,↓reduceIte]
   refine ⟨op.k,o1,_,rfl, .inl (zaE _ _),ho1, ?_⟩
   simp (maxSteps:=2000000) only [zsu,zrv,hg,zb,zh,ze,za,zbI,zj,ev,look,zd,zO,zP,Value.oneCell',cond_true,cond_false,Nat.reduceEqDiff,↓reduceIte,Bool.true_and,true_and]
   refine ⟨op.k,o1,_,β,rfl,zaE _ _,ho1,hb1,fun o2 ho2=> ?_⟩
   rw [zkm,hw]at ho2
   simp (maxSteps:=2000000) only [zlD,zf,zc,zb,ze,zdn,look,zS,zg,zk,Nat.reduceEqDiff,↓reduceIte,reduceCtorEq]
   exact tail o2 ho2 _ (ge7 (by simp [zaf,look]))
 case pf=>
  intro o' ho' σ hσ
  unfold zdS
  rw [zi]
  refine zbu hσ ?_
  simp (maxSteps:=2000000) only [zeS,zb,zh,ze,za,zbI,zeG,zj,ev,look,zd,Nat.reduceEqDiff,↓reduceIte,reduceCtorEq,List.nil_append,Nat.zero_add,Bool.true_and,true_and,zn,zag,zcb,zbL]
  have hS3:=(hs (C:=⟨Tryz.prog,59,w,PH.no⟩) (ph:=[]) (m':=one bm o') (zdy hu)).2.2.2.1
  have hS2:=(hs (C:=⟨Tryz.prog,59,w,PH.no⟩) (ph:=[]) (m':=one bm o') (zdy hu)).2.2.1
  refine ⟨zJ _ hS3 rfl ?_,zJ _ hS3 rfl ?_⟩
  all_goals
   simp (maxSteps:=2000000) only [zb,zh,ze,za,zbI,zj,ev,look,zd,Nat.reduceEqDiff,↓reduceIte,Bool.true_and,true_and,zn,zag,zbL]
   refine zaM _ [.s (.int .i64 (zno p.ds op.k)), .s (.bool (zgM p.ds op.k))] rfl rfl (fun w' vs hv hw' _ _=> ?_) ?_
   ·obtain ⟨vs,rfl,_,hv⟩:=zt hv
    obtain ⟨vs,rfl,_,hv⟩:=zt hv
    obtain ⟨vs,rfl,_,hv⟩:=zt hv
    obtain rfl:=zr hv
    exact znM w' ov p.ds u (fun b o h=>hw' b o (by rw [zbr];exact hu b o h)) hSo hof op.stamp hl hr
   simp (maxSteps:=2000000) only [zK,List.getElem?_cons_succ,List.getElem?_cons_zero,zi,zB,zbh,zf,zc,zb,zh,ze,za,zaq,zw,zdn,zbI,zX,zj,zaD,ev,look,zd,zg,zk,GV.getT,Nat.reduceEqDiff,↓reduceIte,reduceCtorEq,List.nil_append,List.cons_append,Nat.zero_add,Bool.true_and,Bool.not_false,true_and,zn,zF,zdq,zcr,zcb,zbL]
   refine zJ _ hS2 rfl ?_
   simp (maxSteps:=2000000) only [zx,zi,zm,zq,zf,zp,zy,zc,zb,zh,zH,ze,za,zM,zU,zj,RO.isGh,zI,zar,ev,look,zd,zg,zk,zO,zP,Value.oneCell',cond_true,cond_false,Nat.reduceEqDiff,↓reduceIte,reduceCtorEq,List.nil_append,Bool.true_and,Bool.not_false,true_and,decide_eq_true_eq,decide_eq_false_iff_not,↓zL,zax,zdE,zn,zag,zcb,zbL]
   refine ⟨fun h=> ?_,fun h=> ?_⟩
   ·subst hQ
    simp (maxSteps:=2000000) only [zp,zy,zah,look,↓reduceIte,zD,zal,zC]
    rw [he,zkn hc h]
   cases hh:zgM p.ds op.k with
   |true=>
    simp (maxSteps:=2000000) only [false_imp_iff,Bool.true_eq_false,Bool.true_and,true_and,true_imp_iff,false_imp_iff,Bool.true_eq_false]
    subst hQ
    simp (maxSteps:=2000000) only [zp,zy,zah,look,↓reduceIte,zD,zal,zC]
    rw [he,zep hc h (.inl hh)]
   |false=>
    simp (maxSteps:=2000000) only [Bool.false_eq_true,Bool.and_true,and_true,true_imp_iff,false_imp_iff,Bool.false_eq_true]
    refine ⟨op.k,o',_,rfl, .inl (zaE _ _),ho', ?_⟩
    simp (maxSteps:=2000000) only [zsu,zrH,Option.getD_some,zu,zx,zi,zm,zq,zf,zp,zT,zy,zc,zb,zh,ze,za,zj,ev,look,zd,zg,zk,zO,zP,Value.oneCell',cond_true,cond_false,Nat.reduceEqDiff,↓reduceIte,reduceCtorEq,Bool.true_and,true_and,decide_eq_true_eq,decide_eq_false_iff_not,↓zN,zax]
    by_cases hk:op.k∈ks
    ·simp (maxSteps:=2000000) only [zqk,if_pos hk,Int.reduceGT,Bool.and_true,and_true,true_imp_iff,false_imp_iff,not_true_eq_false]
     subst hQ
     simp (maxSteps:=2000000) only [zp,zy,zah,look,↓reduceIte,zD,zal,zC]
     rw [he,zep hc h (.inr hk)]
    ·simp (maxSteps:=2000000) only [zqk,if_neg hk,Int.reduceGT,Bool.true_and,true_and,true_imp_iff,false_imp_iff,not_false_eq_true]
     rw [zpl hk]at ho'
     subst hQ;simp only [zaB];refine ⟨(i+1,o'), ?_, ?_,zR ?_ ?_ rfl rfl rfl⟩
     ·refine ⟨by simp only;omega, ?_, ?_⟩
      ·simp only
       rw [zfb hlt' zOp,hop,List.map_append,hks]
       exact ho'
      ·simp only
       rw [he,zgv hc h (by rw [hh];simpa using hk),zfb hlt' zOp,hop,List.map_append,hks]
       rfl
     ·simp only;omega
     ·simp only [zaf,look,Nat.reduceEqDiff,↓reduceIte,reduceCtorEq,Bool.and_true,Bool.true_and,true_and,and_true]
      rw [zaN (by have:=hops.1;omega)]
      try simp
     ·simp [zam,look]
end Go.Proofs.YtmjiojflncffeaaGreat.Vc

set_option linter.unusedVariables false
set_option linter.unusedSimpArgs false
namespace Go.Proofs.YtmjiojflncffeaaGreat.Vc
open Go Go.Proofs
def zeE (ds:List Done):List Op→Nat
 |[]=>ds.length
 |op::_=>zno ds op.k
theorem zyA (ds:List Done) (news:List Op):zeE ds news≤ds.length:=by
 cases news with
 |nil=>exact Nat.le_refl _
 |cons op l=>exact zBN ds op.k
theorem zvK {ds:List Done} {s:Int×Int} {d:Done} (h:d∈ds.take (zno ds s)):ltK d.k s:=by
 have e:ds.take (zno ds s)=ds.takeWhile fun d=>decide (ltK d.k s):=(List.prefix_iff_eq_take.1 (List.takeWhile_prefix _)).symm
 rw [e]at h
 have:=List.all_takeWhile (p:=fun d:Done=>decide (ltK d.k s)) (l:=ds)
 rw [List.all_eq_true]at this
 simpa using this d h
theorem zAj {ds:List Done} {s:Int×Int} (h:∀d∈ds,ltK d.k s):zno ds s=ds.length:=by
 refine zsU (Nat.le_refl _) (fun j hj=>h _ (getD_in hj zbe)) fun hlt=>by omega
theorem zwV {ds:List Done} {news:List Op} (h:∀op∈news,∀d∈ds,ltK d.k op.k):zeE ds news=ds.length:=by
 cases news with
 |nil=>rfl
 |cons op l=>exact zAj (h op (by simp))
def fresh (op:Op):Done:={zbe with op:=op}
theorem zBp (op:Op):(fresh op).k=op.k:=rfl
structure Looked (ds:List Done) (fr:Int) (ks:List (Int×Int)) (ops:List Op):Prop where
 check:∀op∈ops,zaO op=0
 above:∀op∈ops,fr<op.stamp.time
 new:∀op∈ops,op.k∉ds.map Done.k∧op.k∉ks
 nod:(ops.map Op.k).Nodup
theorem zzH:∀{ops:List Op} {ds:List Done} {fr:Int} {ks:List (Int×Int)},zbl ds fr ks ops=0→Looked ds fr ks ops
 |[],_,_,_,_=>⟨by simp,by simp,by simp,by simp⟩
 |op::l,ds,fr,ks,h=>by
  by_cases h1:zaO op=0
  ·by_cases h2:op.stamp.time≤fr
   ·rw [zkn h1 h2]at h;cases h
   ·by_cases h3:zgM ds op.k=true∨op.k∈ks
    ·rw [zep h1 h2 h3]at h;cases h
    ·rw [zgv h1 h2 h3]at h
     obtain ⟨g1,g2,g3,g4⟩:=zzH h
     have h4:op.k∉ds.map Done.k:=fun hm=>h3 (.inl (by rw [zgM,decide_eq_true hm]))
     refine ⟨fun x hx=> ?_,fun x hx=> ?_,fun x hx=> ?_, ?_⟩
     ·rcases List.mem_cons.1 hx with rfl|hx
      ·exact h1
      ·exact g1 x hx
     ·rcases List.mem_cons.1 hx with rfl|hx
      ·omega
      ·exact g2 x hx
     ·rcases List.mem_cons.1 hx with rfl|hx
      ·exact ⟨h4,fun hm=>h3 (.inr hm)⟩
      ·exact ⟨(g3 x hx).1,fun hm=>(g3 x hx).2 (List.mem_append_left _ hm)⟩
     ·rw [List.map_cons,List.nodup_cons]
      refine ⟨fun hm=> ?_,g4⟩
      obtain ⟨y,hy,e⟩:=List.mem_map.1 hm
      exact (g3 y hy).2 (by rw [e];simp)
  ·rw [zhg h1]at h;exact absurd h h1
theorem zuQ:∀{ops:List Op} {ds:List Done} {fr:Int} {ks:List (Int×Int)},Looked ds fr ks ops→zbl ds fr ks ops=0
 |[],_,_,_,_=>rfl
 |op::l,ds,fr,ks,h=>by
  have h3:¬(zgM ds op.k=true∨op.k∈ks):=by
   rintro (h1|h1)
   ·exact (h.new op (by simp)).1 (by simpa [zgM]using h1)
   ·exact (h.new op (by simp)).2 h1
  rw [zgv (h.check op (by simp)) (by have:=h.above op (by simp);omega) h3]
  have hn:=h.nod
  rw [List.map_cons,List.nodup_cons]at hn
  refine zuQ ⟨fun x hx=>h.check x (List.mem_cons_of_mem _ hx),fun x hx=>h.above x (List.mem_cons_of_mem _ hx),fun x hx=>⟨(h.new x (List.mem_cons_of_mem _ hx)).1,fun hm=> ?_⟩,hn.2⟩
  rcases List.mem_append.1 hm with hm|hm
  ·exact (h.new x (List.mem_cons_of_mem _ hx)).2 hm
  ·exact hn.1 (List.mem_map.2 ⟨x,hx,List.mem_singleton.1 hm⟩)
theorem zqO {ds cs:List Done} {news:List Op} (hr:Rising (ds.map Done.k)) (hn:Rising (news.map Op.k)) (hc:Rising (cs.map Done.k)) (hp:cs.Perm (ds.drop (zeE ds news)++news.map fresh)):
  Rising ((ds.take (zeE ds news)++cs).map Done.k):=by
 rw [Rising,List.map_append,List.pairwise_append]
 have h1:Rising ((ds.take (zeE ds news)++ds.drop (zeE ds news)).map Done.k):=by rw [List.take_append_drop];exact hr
 rw [Rising,List.map_append,List.pairwise_append]at h1
 refine ⟨h1.1,hc,fun x hx y hy=> ?_⟩
 obtain ⟨d,hd,rfl⟩:=List.mem_map.1 hy
 rcases List.mem_append.1 (hp.mem_iff.1 hd)with hd|hd
 ·exact h1.2.2 x hx _ (List.mem_map.2 ⟨d,hd,rfl⟩)
 ·obtain ⟨op,hop,rfl⟩:=List.mem_map.1 hd
  obtain ⟨a,ha,rfl⟩:=List.mem_map.1 hx
  cases news with
  |nil=>simp at hop
  |cons o l=>
   have h2:ltK a.k o.k:=zvK ha
   rw [zBp]
   rcases List.mem_cons.1 hop with rfl|hop
   ·exact h2
   ·rw [Rising,List.map_cons,List.pairwise_cons]at hn
    exact zfW h2 (hn.1 _ (List.mem_map.2 ⟨op,hop,rfl⟩))
theorem zux {ds cs:List Done} {news ops:List Op} (hp:cs.Perm (ds.drop (zeE ds news)++news.map fresh)) (hn:news.Perm ops):
  ((ds.take (zeE ds news)++cs).map (·.op)).Perm (ds.map (·.op)++ops):=by
 rw [List.map_append]
 have h1:=hp.map (·.op)
 rw [List.map_append,List.map_map]at h1
 have h2:news.map ((·.op) ∘ fresh)=news:=by
  rw [show ((·.op) ∘ fresh:Op→Op)=id from rfl,List.map_id]
 rw [h2]at h1
 refine (h1.append_left _).trans ?_
 rw [←List.append_assoc,←List.map_append,List.take_append_drop]
 exact hn.append_left _
theorem ztf {ds:List Done} {fr:Int} {ks:List (Int×Int)} {news ops:List Op} (hr:Rising (ds.map Done.k)) (hl:Looked ds fr ks ops) (hn:news.Perm ops) (f:Nat):((ds.drop f++news.map fresh).map Done.k).Nodup:=by
 rw [List.map_append,List.nodup_append]
 refine ⟨?_, ?_,fun a ha b hb=> ?_⟩
 ·have:(ds.map Done.k).Nodup:=hr.imp fun h e=>by rw [e]at h;exact zeR _ h
  exact (this.sublist ((List.drop_sublist f ds).map _))
 ·rw [List.map_map,show (Done.k ∘ fresh)=Op.k from rfl]
  exact (hn.map _).nodup_iff.2 hl.nod
 ·rintro rfl
  rw [List.map_map,show (Done.k ∘ fresh)=Op.k from rfl]at hb
  obtain ⟨op,hop,e⟩:=List.mem_map.1 hb
  refine (hl.new op (hn.mem_iff.1 hop)).1 ?_
  rw [e]
  obtain ⟨d,hd,rfl⟩:=List.mem_map.1 ha
  exact List.mem_map.2 ⟨d,List.mem_of_mem_drop hd,rfl⟩
structure Added (p:PL) (ops:List Op) (p':PL) (n:Int):Prop where
 perm:(p'.ds.map (·.op)).Perm (p.ds.map (·.op)++ops)
 B:p'.B=p.B
 fr:p'.fr=p.fr
 i0:p'.i0=p.i0
 red:0≤p'.red
 red0:(∀op∈ops,∀d∈p.ds,ltK d.k op.k)→p'.red=0
 n:n=((p'.ds.filter fun d=>d.taken&&decide (d.k∈ops.map Op.k)).length:Nat)
end Go.Proofs.YtmjiojflncffeaaGreat.Vc

set_option linter.unusedVariables false
set_option maxRecDepth 100000
namespace Go.Proofs.YtmjiojflncffeaaGreat.Vc
open Go Go.Proofs
abbrev zea:Nat:=14
def zgG:Cd:=
 (.seq (.seq (.rg [⟨none,[(some 59, .mv (.t 10)),(some 60, .bin .geq (.t 59) (.c (.int .i64 0)))]⟩] [0,7,8,9,10,60])
 (.ite (.t 60)
 .skip
 (.exit 0)))
 (.seq (.block 1 (.rgq [⟨none,[(some 63, .mv (.t 0)),(some 64, .nilc (.t 63)),(some 65, .fldA (.t 64) 0 0),(some 66, .fldA (.t 65) 0 0),(some 67, .ld (.t 66) 1 false),(some 68, .mv (.t 9)),(some 69, .mv (.t 10)),(some 70, .idxS (.t 68) (.t 69) 22),(some 71, .fldA (.t 70) 2 9),(some 72, .ld (.t 71) 13 true)]⟩] [⟨none,[(some 73, .call 44 [(.t 67),(.t 72)])]⟩] [0,7,8,9,10]))
 (.rg [⟨none,[(some 61, .mv (.t 10)),(some 62, .bin .sub (.t 61) (.c (.int .i64 1))),(some 10, .mv (.t 62))]⟩] [0,7,8,9,10])))
def zdT:Cd:=
 (.gh (.rg [⟨none,[(some 102, .mv (.t 9)),(some 103, .ld (.t 13) 8 true),(some 104, .bld (.c (.c (.c (.s (.int .i64 0)) (.c (.s (.int .i64 0)) .u)) (.c (.s (.int .i64 0)) (.c (.s (.int .i64 0)) (.c (.s (.int .i64 0)) (.c (.s (.string ⟨#[]⟩)) (.c (.s (.string ⟨#[]⟩)) (.c (.s (.string ⟨#[]⟩)) .u))))))) (.c (.s (.bool false)) (.c (.c (.s (.pointer none)) (.c (.s (.int .i64 0)) (.c (.c (.c (.s (.int .i64 0)) (.c (.s (.int .i64 0)) .u)) (.c (.s (.int .i64 0)) (.c (.s (.int .i64 0)) (.c (.s (.int .i64 0)) (.c (.s (.string ⟨#[]⟩)) (.c (.s (.string ⟨#[]⟩)) (.c (.s (.string ⟨#[]⟩)) .u))))))) (.c (.c (.s (.int .i64 0)) (.c (.s (.string ⟨#[]⟩)) .u)) (.c (.s (.string ⟨#[]⟩)) .u))))) .u))) [(0,(.t 103))]),(some 105, .bldS 97 22 (.c (.c (.c (.s (.int .i64 0)) (.c (.s (.int .i64 0)) .u)) (.c (.s (.int .i64 0)) (.c (.s (.int .i64 0)) (.c (.s (.int .i64 0)) (.c (.s (.string ⟨#[]⟩)) (.c (.s (.string ⟨#[]⟩)) (.c (.s (.string ⟨#[]⟩)) .u))))))) (.c (.s (.bool false)) (.c (.c (.s (.pointer none)) (.c (.s (.int .i64 0)) (.c (.c (.c (.s (.int .i64 0)) (.c (.s (.int .i64 0)) .u)) (.c (.s (.int .i64 0)) (.c (.s (.int .i64 0)) (.c (.s (.int .i64 0)) (.c (.s (.string ⟨#[]⟩)) (.c (.s (.string ⟨#[]⟩)) (.c (.s (.string ⟨#[]⟩)) .u))))))) (.c (.c (.s (.int .i64 0)) (.c (.s (.string ⟨#[]⟩)) .u)) (.c (.s (.string ⟨#[]⟩)) .u))))) .u))) [(.t 104)]),(some 106, .app 97 22 240 (.c (.c (.c (.s (.int .i64 0)) (.c (.s (.int .i64 0)) .u)) (.c (.s (.int .i64 0)) (.c (.s (.int .i64 0)) (.c (.s (.int .i64 0)) (.c (.s (.string ⟨#[]⟩)) (.c (.s (.string ⟨#[]⟩)) (.c (.s (.string ⟨#[]⟩)) .u))))))) (.c (.s (.bool false)) (.c (.c (.s (.pointer none)) (.c (.s (.int .i64 0)) (.c (.c (.c (.s (.int .i64 0)) (.c (.s (.int .i64 0)) .u)) (.c (.s (.int .i64 0)) (.c (.s (.int .i64 0)) (.c (.s (.int .i64 0)) (.c (.s (.string ⟨#[]⟩)) (.c (.s (.string ⟨#[]⟩)) (.c (.s (.string ⟨#[]⟩)) .u))))))) (.c (.c (.s (.int .i64 0)) (.c (.s (.string ⟨#[]⟩)) .u)) (.c (.s (.string ⟨#[]⟩)) .u))))) .u))) (.t 102) (.t 105)),(some 9, .mv (.t 106))]⟩] [0,9,11,89,90,91]))
def zge:Cd:=
 (.seq (.rg [⟨none,[(some 92, .bin .lss (.t 91) (.t 90))]⟩] [0,9,11,89,90,91,92])
 (.seq (.ite (.t 92)
 .skip
 (.exit 2))
 (.seq (.block 3 (.seq (.rg [⟨none,[(some 93, .idxS (.t 89) (.t 91) 8),(some 94, .ld (.t 93) 8 true),(some 13, .new 26 (.c (.c (.s (.int .i64 0)) (.c (.s (.int .i64 0)) .u)) (.c (.s (.int .i64 0)) (.c (.s (.int .i64 0)) (.c (.s (.int .i64 0)) (.c (.s (.string ⟨#[]⟩)) (.c (.s (.string ⟨#[]⟩)) (.c (.s (.string ⟨#[]⟩)) .u)))))))),(none, .st (.t 13) (.t 94) 8)]⟩] [0,9,11,13,89,90,91])
 (.seq (.rga (.op ⟨none,[(some 95, .mv (.t 11))]⟩ (.op ⟨none,[(some 96, .fldA (.t 13) 0 0)]⟩ (.op ⟨none,[(some 97, .ld (.t 96) 2 true)]⟩ (.or (.op ⟨none,[(some 98, .mlk2 (.t 95) (.t 97) (.int .i64 0) false)]⟩ (.op ⟨none,[(some 99, .bin .add (.t 98) (.c (.int .i64 1)))]⟩ (.op ⟨none,[(some 100, .men2 (.t 95) (.t 97) (.int .i64 0))]⟩ (.op ⟨none,[(some 101, .ext (.t 100) 1)]⟩ (.op ⟨none,[(none, .mes2 (.t 95) (.t 101) (.t 99))]⟩ .done))))) (.op ⟨none,[(some 100, .men2 (.t 95) (.t 97) (.int .i64 0))]⟩ (.op ⟨none,[(some 101, .ext (.t 100) 1)]⟩ (.op ⟨none,[(some 98, .mlk2 (.t 95) (.t 97) (.int .i64 0) false)]⟩ (.op ⟨none,[(some 99, .bin .add (.t 98) (.c (.int .i64 1)))]⟩ (.op ⟨none,[(none, .mes2 (.t 95) (.t 101) (.t 99))]⟩ .done))))))))) [0,9,11,13,89,90,91])
 zdT)))
 (.rg [⟨none,[(some 107, .bin .add (.t 91) (.c (.int .i64 1))),(some 91, .mv (.t 107))]⟩] [0,9,11,89,90,91]))))
def zdQ:Cd:=
 (.gh (.rga (.op ⟨none,[(some 141, .mv (.t 0))]⟩ (.op ⟨none,[(some 142, .mv (.t 0))]⟩ (.op ⟨none,[(some 143, .nilc (.t 142))]⟩ (.op ⟨none,[(some 144, .fldA (.t 143) 3 3)]⟩ (.or (.op ⟨none,[(some 145, .ld (.t 144) 1 false)]⟩ (.op ⟨none,[(some 146, .ld (.t 16) 22 true)]⟩ (.op ⟨none,[(some 147, .bldS 97 22 (.c (.c (.c (.s (.int .i64 0)) (.c (.s (.int .i64 0)) .u)) (.c (.s (.int .i64 0)) (.c (.s (.int .i64 0)) (.c (.s (.int .i64 0)) (.c (.s (.string ⟨#[]⟩)) (.c (.s (.string ⟨#[]⟩)) (.c (.s (.string ⟨#[]⟩)) .u))))))) (.c (.s (.bool false)) (.c (.c (.s (.pointer none)) (.c (.s (.int .i64 0)) (.c (.c (.c (.s (.int .i64 0)) (.c (.s (.int .i64 0)) .u)) (.c (.s (.int .i64 0)) (.c (.s (.int .i64 0)) (.c (.s (.int .i64 0)) (.c (.s (.string ⟨#[]⟩)) (.c (.s (.string ⟨#[]⟩)) (.c (.s (.string ⟨#[]⟩)) .u))))))) (.c (.c (.s (.int .i64 0)) (.c (.s (.string ⟨#[]⟩)) .u)) (.c (.s (.string ⟨#[]⟩)) .u))))) .u))) [(.t 146)])]⟩ (.op ⟨none,[(some 148, .app 97 22 240 (.c (.c (.c (.s (.int .i64 0)) (.c (.s (.int .i64 0)) .u)) (.c (.s (.int .i64 0)) (.c (.s (.int .i64 0)) (.c (.s (.int .i64 0)) (.c (.s (.string ⟨#[]⟩)) (.c (.s (.string ⟨#[]⟩)) (.c (.s (.string ⟨#[]⟩)) .u))))))) (.c (.s (.bool false)) (.c (.c (.s (.pointer none)) (.c (.s (.int .i64 0)) (.c (.c (.c (.s (.int .i64 0)) (.c (.s (.int .i64 0)) .u)) (.c (.s (.int .i64 0)) (.c (.s (.int .i64 0)) (.c (.s (.int .i64 0)) (.c (.s (.string ⟨#[]⟩)) (.c (.s (.string ⟨#[]⟩)) (.c (.s (.string ⟨#[]⟩)) .u))))))) (.c (.c (.s (.int .i64 0)) (.c (.s (.string ⟨#[]⟩)) .u)) (.c (.s (.string ⟨#[]⟩)) .u))))) .u))) (.t 145) (.t 147))]⟩ (.op ⟨none,[(some 149, .nilc (.t 141))]⟩ (.op ⟨none,[(some 150, .fldA (.t 149) 3 3)]⟩ (.op ⟨none,[(none, .st (.t 150) (.t 148) 1)]⟩ .done))))))) (.op ⟨none,[(some 146, .ld (.t 16) 22 true)]⟩ (.or (.op ⟨none,[(some 145, .ld (.t 144) 1 false)]⟩ (.op ⟨none,[(some 147, .bldS 97 22 (.c (.c (.c (.s (.int .i64 0)) (.c (.s (.int .i64 0)) .u)) (.c (.s (.int .i64 0)) (.c (.s (.int .i64 0)) (.c (.s (.int .i64 0)) (.c (.s (.string ⟨#[]⟩)) (.c (.s (.string ⟨#[]⟩)) (.c (.s (.string ⟨#[]⟩)) .u))))))) (.c (.s (.bool false)) (.c (.c (.s (.pointer none)) (.c (.s (.int .i64 0)) (.c (.c (.c (.s (.int .i64 0)) (.c (.s (.int .i64 0)) .u)) (.c (.s (.int .i64 0)) (.c (.s (.int .i64 0)) (.c (.s (.int .i64 0)) (.c (.s (.string ⟨#[]⟩)) (.c (.s (.string ⟨#[]⟩)) (.c (.s (.string ⟨#[]⟩)) .u))))))) (.c (.c (.s (.int .i64 0)) (.c (.s (.string ⟨#[]⟩)) .u)) (.c (.s (.string ⟨#[]⟩)) .u))))) .u))) [(.t 146)])]⟩ (.op ⟨none,[(some 148, .app 97 22 240 (.c (.c (.c (.s (.int .i64 0)) (.c (.s (.int .i64 0)) .u)) (.c (.s (.int .i64 0)) (.c (.s (.int .i64 0)) (.c (.s (.int .i64 0)) (.c (.s (.string ⟨#[]⟩)) (.c (.s (.string ⟨#[]⟩)) (.c (.s (.string ⟨#[]⟩)) .u))))))) (.c (.s (.bool false)) (.c (.c (.s (.pointer none)) (.c (.s (.int .i64 0)) (.c (.c (.c (.s (.int .i64 0)) (.c (.s (.int .i64 0)) .u)) (.c (.s (.int .i64 0)) (.c (.s (.int .i64 0)) (.c (.s (.int .i64 0)) (.c (.s (.string ⟨#[]⟩)) (.c (.s (.string ⟨#[]⟩)) (.c (.s (.string ⟨#[]⟩)) .u))))))) (.c (.c (.s (.int .i64 0)) (.c (.s (.string ⟨#[]⟩)) .u)) (.c (.s (.string ⟨#[]⟩)) .u))))) .u))) (.t 145) (.t 147))]⟩ (.op ⟨none,[(some 149, .nilc (.t 141))]⟩ (.op ⟨none,[(some 150, .fldA (.t 149) 3 3)]⟩ (.op ⟨none,[(none, .st (.t 150) (.t 148) 1)]⟩ .done)))))) (.op ⟨none,[(some 147, .bldS 97 22 (.c (.c (.c (.s (.int .i64 0)) (.c (.s (.int .i64 0)) .u)) (.c (.s (.int .i64 0)) (.c (.s (.int .i64 0)) (.c (.s (.int .i64 0)) (.c (.s (.string ⟨#[]⟩)) (.c (.s (.string ⟨#[]⟩)) (.c (.s (.string ⟨#[]⟩)) .u))))))) (.c (.s (.bool false)) (.c (.c (.s (.pointer none)) (.c (.s (.int .i64 0)) (.c (.c (.c (.s (.int .i64 0)) (.c (.s (.int .i64 0)) .u)) (.c (.s (.int .i64 0)) (.c (.s (.int .i64 0)) (.c (.s (.int .i64 0)) (.c (.s (.string ⟨#[]⟩)) (.c (.s (.string ⟨#[]⟩)) (.c (.s (.string ⟨#[]⟩)) .u))))))) (.c (.c (.s (.int .i64 0)) (.c (.s (.string ⟨#[]⟩)) .u)) (.c (.s (.string ⟨#[]⟩)) .u))))) .u))) [(.t 146)])]⟩ (.op ⟨none,[(some 145, .ld (.t 144) 1 false)]⟩ (.op ⟨none,[(some 148, .app 97 22 240 (.c (.c (.c (.s (.int .i64 0)) (.c (.s (.int .i64 0)) .u)) (.c (.s (.int .i64 0)) (.c (.s (.int .i64 0)) (.c (.s (.int .i64 0)) (.c (.s (.string ⟨#[]⟩)) (.c (.s (.string ⟨#[]⟩)) (.c (.s (.string ⟨#[]⟩)) .u))))))) (.c (.s (.bool false)) (.c (.c (.s (.pointer none)) (.c (.s (.int .i64 0)) (.c (.c (.c (.s (.int .i64 0)) (.c (.s (.int .i64 0)) .u)) (.c (.s (.int .i64 0)) (.c (.s (.int .i64 0)) (.c (.s (.int .i64 0)) (.c (.s (.string ⟨#[]⟩)) (.c (.s (.string ⟨#[]⟩)) (.c (.s (.string ⟨#[]⟩)) .u))))))) (.c (.c (.s (.int .i64 0)) (.c (.s (.string ⟨#[]⟩)) .u)) (.c (.s (.string ⟨#[]⟩)) .u))))) .u))) (.t 145) (.t 147))]⟩ (.op ⟨none,[(some 149, .nilc (.t 141))]⟩ (.op ⟨none,[(some 150, .fldA (.t 149) 3 3)]⟩ (.op ⟨none,[(none, .st (.t 150) (.t 148) 1)]⟩ .done))))))))))))) [0,11,14,110,111,112]))
def zdO:Cd:=
 (.seq (.seq (.gh (.rg [⟨none,[(some 129, .fldA (.t 16) 1 8),(some 130, .ld (.t 129) 1 false),(some 131, .mv (.t 130))]⟩,⟨some (131,true),[(some 132, .mv (.t 11)),(some 133, .fldA (.t 16) 0 0),(some 134, .fldA (.t 133) 0 0),(some 135, .ld (.t 134) 2 true),(some 136, .mlk2 (.t 132) (.t 135) (.int .i64 0) false),(some 137, .bin .gtr (.t 136) (.c (.int .i64 0)))]⟩,⟨none,[(some 138, .pick (.t 131) (.t 137) (.c (.bool false)))]⟩] [0,11,14,16,110,111,112,138]))
 (.ite (.t 138)
 (.rg [⟨none,[(some 139, .mv (.t 14)),(some 140, .bin .add (.t 139) (.c (.int .i64 1))),(some 14, .mv (.t 140))]⟩] [0,11,14,16,110,111,112])
 .skip))
 zdQ)
def zgn:Cd:=
 (.seq (.rg [⟨none,[(some 113, .bin .lss (.t 112) (.t 111))]⟩] [0,11,14,110,111,112,113])
 (.seq (.ite (.t 113)
 .skip
 (.exit 4))
 (.seq (.block 5 (.seq (.rg [⟨none,[(some 114, .idxS (.t 110) (.t 112) 22),(some 115, .ld (.t 114) 22 true),(some 16, .new 97 (.c (.c (.c (.s (.int .i64 0)) (.c (.s (.int .i64 0)) .u)) (.c (.s (.int .i64 0)) (.c (.s (.int .i64 0)) (.c (.s (.int .i64 0)) (.c (.s (.string ⟨#[]⟩)) (.c (.s (.string ⟨#[]⟩)) (.c (.s (.string ⟨#[]⟩)) .u))))))) (.c (.s (.bool false)) (.c (.c (.s (.pointer none)) (.c (.s (.int .i64 0)) (.c (.c (.c (.s (.int .i64 0)) (.c (.s (.int .i64 0)) .u)) (.c (.s (.int .i64 0)) (.c (.s (.int .i64 0)) (.c (.s (.int .i64 0)) (.c (.s (.string ⟨#[]⟩)) (.c (.s (.string ⟨#[]⟩)) (.c (.s (.string ⟨#[]⟩)) .u))))))) (.c (.c (.s (.int .i64 0)) (.c (.s (.string ⟨#[]⟩)) .u)) (.c (.s (.string ⟨#[]⟩)) .u))))) .u)))),(none, .st (.t 16) (.t 115) 22)]⟩] [0,11,14,16,110,111,112])
 (.seq (.rga (.op ⟨none,[(some 117, .mv (.t 0))]⟩ (.op ⟨none,[(some 118, .nilc (.t 117))]⟩ (.op ⟨none,[(some 119, .fldA (.t 118) 0 0)]⟩ (.op ⟨none,[(some 120, .fldA (.t 119) 0 0)]⟩ (.op ⟨none,[(some 122, .fldA (.t 16) 0 0)]⟩ (.or (.op ⟨none,[(some 121, .ld (.t 120) 1 false)]⟩ (.op ⟨none,[(some 123, .ld (.t 122) 8 true)]⟩ (.op ⟨none,[(some 124, .call 27 [(.t 121),(.t 123)])]⟩ (.op ⟨none,[(some 116, .mv (.t 124))]⟩ (.op ⟨none,[(some 125, .ext (.t 116) 0)]⟩ (.op ⟨none,[(some 126, .ext (.t 116) 1)]⟩ (.op ⟨none,[(some 127, .fldA (.t 16) 2 9)]⟩ (.op ⟨none,[(none, .st (.t 127) (.t 125) 13)]⟩ (.op ⟨none,[(some 128, .fldA (.t 16) 1 8)]⟩ (.op ⟨none,[(none, .st (.t 128) (.t 126) 1)]⟩ .done)))))))))) (.op ⟨none,[(some 123, .ld (.t 122) 8 true)]⟩ (.op ⟨none,[(some 121, .ld (.t 120) 1 false)]⟩ (.op ⟨none,[(some 124, .call 27 [(.t 121),(.t 123)])]⟩ (.op ⟨none,[(some 116, .mv (.t 124))]⟩ (.op ⟨none,[(some 125, .ext (.t 116) 0)]⟩ (.op ⟨none,[(some 126, .ext (.t 116) 1)]⟩ (.op ⟨none,[(some 127, .fldA (.t 16) 2 9)]⟩ (.op ⟨none,[(none, .st (.t 127) (.t 125) 13)]⟩ (.op ⟨none,[(some 128, .fldA (.t 16) 1 8)]⟩ (.op ⟨none,[(none, .st (.t 128) (.t 126) 1)]⟩ .done)))))))))))))))) [0,11,14,16,110,111,112])
 zdO)))
 (.rg [⟨none,[(some 151, .bin .add (.t 112) (.c (.int .i64 1))),(some 112, .mv (.t 151))]⟩] [0,11,14,110,111,112]))))
def zdN:Cd:=
 (.seq (.gh (.rg [⟨none,[(some 49, .mv (.t 0)),(some 50, .nilc (.t 49)),(some 51, .fldA (.t 50) 3 3),(some 52, .ld (.t 51) 1 false),(some 53, .mv (.t 8)),(none, .gh),(some 54, .sl 22 (.t 52) (some (.t 53)) none),(some 55, .call 43 [(.t 54)]),(some 9, .mv (.t 55))]⟩] [0,7,8,9]))
 (.seq (.seq (.rg [⟨none,[(none, .gh),(some 56, .mv (.t 9)),(some 57, .len (.t 56)),(some 58, .bin .sub (.t 57) (.c (.int .i64 1))),(some 10, .mv (.t 58))]⟩] [0,7,8,9,10])
 (.block 0 (.loop zgG)))
 (.seq (.rg [⟨none,[(some 74, .mv (.t 0)),(some 75, .mv (.t 0)),(some 76, .mv (.t 0)),(some 77, .nilc (.t 76)),(some 78, .fldA (.t 77) 3 3),(some 79, .ld (.t 78) 1 false),(some 80, .mv (.t 8)),(none, .gh),(some 81, .sl 22 (.t 79) none (some (.t 80))),(some 82, .mv (.t 9)),(some 83, .len (.t 82)),(some 84, .nilc (.t 74)),(some 85, .fldA (.t 84) 3 3),(none, .st (.t 85) (.t 81) 1),(some 86, .nilc (.t 75)),(some 87, .fldA (.t 86) 4 4),(none, .st (.t 87) (.t 83) 1)]⟩] [0,7,9])
 (.seq (.rg [⟨none,[(some 88, .mkm),(some 11, .mv (.t 88))]⟩] [0,7,9,11])
 (.seq (.seq (.rg [⟨none,[(some 89, .mv (.t 7)),(some 90, .len (.t 89)),(some 91, .mv (.c (.int .i64 0)))]⟩] [0,9,11,89,90,91])
 (.block 2 (.loop zge)))
 (.seq (.rg [⟨none,[(none, .gh),(some 108, .mv (.t 9)),(some 109, .call 45 [(.t 108),(.c (.func (.func 46) #[] #[]))])]⟩] [0,9,11])
 (.seq (.rg [⟨none,[(some 14, .mv (.c (.int .i64 0)))]⟩] [0,9,11,14])
 (.seq (.seq (.rg [⟨none,[(none, .gh),(some 110, .mv (.t 9)),(some 111, .len (.t 110)),(some 112, .mv (.c (.int .i64 0)))]⟩] [0,11,14,110,111,112])
 (.block 4 (.loop zgn)))
 (.seq (.rg [⟨none,[(some 152, .mv (.t 14)),(some 4, .mv (.t 152)),(some 5, .mv (.c (.int .i64 0)))]⟩] [4,5])
 .ret)))))))))
def ziQ:Cd:=
 (.seq (.rg [⟨none,[(some 4, .mv (.c (.int .i64 0))),(some 5, .mv (.c (.int .i64 0)))]⟩] [0,1])
 (.seq (.seq (.rg [⟨none,[(some 17, .mv (.t 0)),(some 18, .call 35 [(.t 17)])]⟩] [0,1,18])
 (.ite (.t 18)
 (.seq (.rg [⟨none,[(some 4, .mv (.c (.int .i64 0))),(some 5, .mv (.c (.int .i64 2)))]⟩] [4,5])
 .ret)
 .skip))
 (.seq (.seq (.rg [⟨none,[(some 19, .mv (.t 0)),(some 20, .mv (.t 1)),(some 21, .call 36 [(.t 19),(.t 20)]),(some 6, .mv (.t 21))]⟩] [0,1,6])
 (.seq (.rg [⟨none,[(some 22, .mv (.t 6)),(some 23, .bin .neq (.t 22) (.c (.int .i64 0)))]⟩] [0,1,6,23])
 (.ite (.t 23)
 (.seq (.rg [⟨none,[(some 24, .mv (.t 6)),(some 4, .mv (.c (.int .i64 0))),(some 5, .mv (.t 24))]⟩] [4,5])
 .ret)
 .skip)))
 (.seq (.rg [⟨none,[(some 25, .mv (.t 1)),(some 26, .call 37 [(.t 25)]),(some 7, .mv (.t 26))]⟩] [0,7])
 (.seq (.rg [⟨none,[(some 27, .mv (.t 7)),(some 28, .call 38 [(.t 27),(.c (.func (.func 39) #[] #[]))])]⟩] [0,7])
 (.seq (.rg [⟨none,[(none, .gh),(some 29, .mv (.t 0)),(some 30, .nilc (.t 29)),(some 31, .fldA (.t 30) 3 3),(some 32, .ld (.t 31) 1 false),(some 33, .len (.t 32)),(some 8, .mv (.t 33))]⟩] [0,7,8])
 (.seq (.seq (.rg [⟨none,[(some 34, .mv (.t 7)),(some 35, .len (.t 34)),(some 36, .bin .gtr (.t 35) (.c (.int .i64 0)))]⟩] [0,7,8,36])
 (.ite (.t 36)
 (.rga (.op ⟨none,[(some 38, .mv (.t 0))]⟩ (.op ⟨none,[(some 39, .nilc (.t 38))]⟩ (.op ⟨none,[(some 40, .fldA (.t 39) 3 3)]⟩ (.op ⟨none,[(some 42, .mv (.t 7))]⟩ (.op ⟨none,[(some 43, .idxS (.t 42) (.c (.int .i64 0)) 8)]⟩ (.op ⟨none,[(some 44, .fldA (.t 43) 0 0)]⟩ (.or (.op ⟨none,[(some 41, .ld (.t 40) 1 false)]⟩ (.op ⟨none,[(some 45, .ld (.t 44) 2 true)]⟩ (.op ⟨none,[(some 46, .call 41 [(.t 41),(.t 45),(.c (.func (.func 42) #[] #[]))])]⟩ (.op ⟨none,[(some 37, .mv (.t 46))]⟩ (.op ⟨none,[(some 47, .ext (.t 37) 0)]⟩ (.op ⟨none,[(some 48, .ext (.t 37) 1)]⟩ (.op ⟨none,[(some 8, .mv (.t 47))]⟩ .done))))))) (.op ⟨none,[(some 45, .ld (.t 44) 2 true)]⟩ (.op ⟨none,[(some 41, .ld (.t 40) 1 false)]⟩ (.op ⟨none,[(some 46, .call 41 [(.t 41),(.t 45),(.c (.func (.func 42) #[] #[]))])]⟩ (.op ⟨none,[(some 37, .mv (.t 46))]⟩ (.op ⟨none,[(some 47, .ext (.t 37) 0)]⟩ (.op ⟨none,[(some 48, .ext (.t 37) 1)]⟩ (.op ⟨none,[(some 8, .mv (.t 47))]⟩ .done)))))))))))))) [0,7,8])
 .skip))
 zdN)))))))
theorem zoN:Ok Tryz.prog 14 ziQ 153 [(10,999999),(15,10),(21,999999),(29,999999),(32,999999)] [.tmp 4, .tmp 5]:=Ok.mk' Tryz.func14 (by kernel_rfl) (by kernel_rfl) (by kernel_rfl)
abbrev ztc:Nat:=13
def zmy:Cd:=
 (.seq (.rg [⟨none,[(some 0, .mv (.c (.bool false)))]⟩] [])
 (.seq (.rg [⟨none,[(some 4, .call 12 []),(some 1, .mv (.t 4))]⟩] [1])
 (.seq (.seq (.rg [⟨none,[(some 5, .mv (.t 1)),(some 6, .eqA false 27 (.t 5) (.c (.pointer none)))]⟩] [1,6])
 (.ite (.t 6)
 (.seq (.rg [⟨none,[(some 0, .mv (.c (.bool false)))]⟩] [0])
 .ret)
 .skip))
 (.seq (.rg [⟨none,[(some 8, .mv (.t 1)),(some 9, .bld (.c (.s (.int .i64 0)) (.c (.s (.int .i64 0)) .u)) [(0,(.c (.int .i64 1)))]),(some 10, .bld (.c (.c (.s (.int .i64 0)) (.c (.s (.int .i64 0)) .u)) (.c (.s (.int .i64 0)) (.c (.s (.int .i64 0)) (.c (.s (.int .i64 0)) (.c (.s (.string ⟨#[]⟩)) (.c (.s (.string ⟨#[]⟩)) (.c (.s (.string ⟨#[]⟩)) .u))))))) [(0,(.t 9)),(1,(.c (.int .i64 1))),(2,(.c (.int .i64 24))),(3,(.c (.int .i64 1))),(4,(.c (.string ⟨#[97]⟩)))]),(some 11, .bldS 26 8 (.c (.c (.s (.int .i64 0)) (.c (.s (.int .i64 0)) .u)) (.c (.s (.int .i64 0)) (.c (.s (.int .i64 0)) (.c (.s (.int .i64 0)) (.c (.s (.string ⟨#[]⟩)) (.c (.s (.string ⟨#[]⟩)) (.c (.s (.string ⟨#[]⟩)) .u))))))) [(.t 10)]),(some 12, .call 14 [(.t 8),(.t 11)]),(some 7, .mv (.t 12)),(some 13, .ext (.t 7) 0),(some 14, .ext (.t 7) 1),(some 2, .mv (.t 13)),(some 3, .mv (.t 14))]⟩] [1,2,3])
 (.seq (.rg [⟨none,[(some 15, .mv (.t 2)),(some 16, .bin .eql (.t 15) (.c (.int .i64 1))),(some 17, .mv (.t 16))]⟩,⟨some (17,true),[(some 18, .mv (.t 3)),(some 19, .bin .eql (.t 18) (.c (.int .i64 0)))]⟩,⟨none,[(some 20, .pick (.t 17) (.t 19) (.c (.bool false))),(some 21, .mv (.t 20))]⟩,⟨some (21,true),[(some 22, .mv (.t 1)),(some 23, .call 22 [(.t 22)]),(some 24, .bin .eql (.t 23) (.c (.int .i64 1)))]⟩,⟨none,[(some 25, .pick (.t 21) (.t 24) (.c (.bool false))),(some 26, .mv (.t 25))]⟩,⟨some (26,true),[(some 27, .mv (.t 1)),(some 28, .call 23 [(.t 27),(.c (.int .i64 1))]),(some 29, .bin .eql (.t 28) (.c (.int .i64 0)))]⟩,⟨none,[(some 30, .pick (.t 26) (.t 29) (.c (.bool false))),(some 31, .mv (.t 30))]⟩,⟨some (31,true),[(some 32, .mv (.t 1)),(some 33, .call 22 [(.t 32)]),(some 34, .bin .eql (.t 33) (.c (.int .i64 0)))]⟩,⟨none,[(some 35, .pick (.t 31) (.t 34) (.c (.bool false))),(some 36, .mv (.t 35))]⟩,⟨some (36,true),[(some 37, .mv (.t 1)),(some 38, .call 28 [(.t 37)]),(some 39, .len (.t 38)),(some 40, .bin .eql (.t 39) (.c (.int .i64 1)))]⟩,⟨none,[(some 41, .pick (.t 36) (.t 40) (.c (.bool false))),(some 0, .mv (.t 41))]⟩] [0])
 .ret)))))
theorem ztC:Ok Tryz.prog 13 zmy 42 [] [.tmp 0]:=Ok.mk' Tryz.func13 (by kernel_rfl) (by kernel_rfl) (by kernel_rfl)
end Go.Proofs.YtmjiojflncffeaaGreat.Vc

set_option linter.unusedVariables false
set_option linter.unusedSimpArgs false
namespace Go.Proofs.YtmjiojflncffeaaGreat.Vc
open Go
def but (w:World) (m:PH):PH:=fun k=>if (m k).isNone then w.heap[k]? else none
theorem zsH {w:World} {m:PH} {b:Nat} {o:Obj} (h1:m b=none) (h2:w.heap[b]? =some o):but w m b=some o:=by
 unfold but;rw [h1];exact h2
theorem zwX {P:Program} {N:Nat} {w:World} {m:PH}:Ctx.u0 ⟨P,N,w,m⟩=but w m:=rfl
def ArgB (C:Ctx) (σ:SS) (w:World) (m1:PH):SV→Value→Prop
 | .g x,v=>x.ok∧v=x.val
 | .row k o n,v=>∃z xs,zaF σ.pv k=some (z,xs)∧o+n≤xs.length∧SlR (but w m1) v z ((xs.drop o).take n)
 |_,_=>True
def zkO (C:Ctx) (σ:SS) (w:World) (m1:PH):List SV→List Value→Prop
 |[],[]=>True
 |x::xs,v::vs=>ArgB C σ w m1 x v∧zkO C σ w m1 xs vs
 |_,_=>False
section
variable {C:Ctx} {σ:SS} {a:Act} {w:World} {loc:Loc}
theorem HR.u0apart (hH:HR C loc σ.pv σ.ph σ.m w) {b:Nat} {o:Obj} (hb:C.u0 b=some o):σ.m b=none:=by
 cases h1:σ.m b with
 |none=>rfl
 |some x=>
  have hmine:=hH.mmine b (by rw [h1];simp)
  unfold Ctx.u0 at hb
  split at hb
  ·rename_i h2
   have h2:C.m0 b=none:=by simpa using h2
   have hlt:b<C.w0.heap.size:=(Array.getElem?_eq_some_iff.1 hb).1
   exact (hmine.elim (fun h=>by omega) fun h=>absurd h2 h)
  ·cases hb
theorem HR.slrB (hH:HR C loc σ.pv σ.ph σ.m w) {m1:PH} (hm1:∀b,σ.m b=none→m1 b=none) {k z s n:Nat} {xs:List GV} {v:Value} (hr:zaF σ.pv k=some (z,xs)) (hn:s+n≤xs.length) (hv:zlR (loc k) z s n v):SlR (but w m1) v z ((xs.drop s).take n):=by
 have hrow:=hH.row hr
 have hlen:((xs.drop s).take n).length=n:=by simp;omega
 refine ⟨hrow.1.part s n, ?_⟩
 have hblk:∀b f c,loc k=some (b,f,c)→xs.length≤c∧(0<c→∃cs e fz,w.heap[b]? =some (.cells cs e fz)∧RowAt cs f (zaa xs)∧m1 b=none):=by
  intro b f c hc
  unfold zaF at hr
  cases hl:look σ.pv k with
  |none=>simp [hl]at hr
  |some y=>
   have hp:=hH.pvs k y hl
   cases y with
   |box g=>simp [hl]at hr
   |row e z' df xs'=>
    simp [hl]at hr
    obtain ⟨rfl,rfl⟩:=hr
    have hp2:=hp.2
    rw [hc]at hp2
    obtain ⟨cs,hb,h1,h2,h3⟩:=hp2
    exact ⟨h1,fun _=>⟨cs,e,(0,0),hb,h3,hm1 b (hH.priv k _ b f c hl rfl hc).2.1⟩⟩
   |ro z' df xs'=>
    simp [hl]at hr
    obtain ⟨rfl,rfl⟩:=hr
    have hp2:=hp.2
    rw [hc]at hp2
    obtain ⟨h1,hp3⟩:=hp2
    refine ⟨h1,fun hc0=> ?_⟩
    obtain ⟨u,cs,e,fz,hu,hb,h3⟩:=hp3 hc0
    rcases hu with rfl|hu
    ·exact ⟨cs,e,fz,hH.u0le b _ hb,h3,hm1 b (hH.u0apart hb)⟩
    ·exact ⟨cs,e,fz,(hH.phs u hu).1 b _ hb,h3,hm1 b ((hH.phs u hu).2 b (by rw [hb];simp)).2⟩
 cases hc:loc k with
 |none=>
  rw [hc]at hv hrow
  have h2:=hrow.2
  simp only at h2
  subst h2
  obtain ⟨base,hv⟩:=hv
  have hn0:n=0:=by simp at hn;omega
  subst hn0
  cases base with
  |none=>exact .inl ⟨hv,by simp⟩
  |some ad=>exact .inr ⟨ad,0,by rw [hv];simp,by simp,fun h=>absurd h (by omega)⟩
 |some L=>
  obtain ⟨b,f,c⟩:=L
  rw [hc]at hv
  obtain ⟨ad,rfl,had⟩:=hv
  obtain ⟨h1,hb0⟩:=hblk b f c hc
  refine .inr ⟨ad,c - s,by rw [hlen],by rw [hlen];omega,fun hcs=> ?_⟩
  obtain ⟨cs,e,fz,hb,hat,hm⟩:=hb0 (by omega)
  rw [had (by omega)]
  refine ⟨cs,e,fz,rfl,zsH hm hb,fun j v hj=> ?_⟩
  rw [Nat.add_assoc]
  exact hat _ _ (zeV hrow.1 hn j v hj)
theorem ztY (hF:FR loc C.N σ.fr σ.pv σ.ph a) (hH:HR C loc σ.pv σ.ph σ.m w) {m1:PH} (hm1:∀b,σ.m b=none→m1 b=none):∀{args:List Opd} {svs:List SV},evL σ args=some svs→zkO C σ w m1 svs (args.map (evO a))
 |[],svs,h=>by simp [evL]at h;subst h;trivial
 |x::l,svs,h=>by
  simp only [evL]at h
  split at h
  ·rename_i y r hy hr
   simp at h;subst h
   refine ⟨?_,ztY hF hH hm1 hr⟩
   have hs:=hF.ev rfl hy
   cases y with
   |g x=>exact hs
   |row k s n=>
    obtain ⟨z,xs,h1,h2,h3⟩:=hs
    exact ⟨z,xs,h1,h2,hH.slrB hm1 h1 h2 h3⟩
   |_=>trivial
  ·cases h
theorem zie {f:Nat} {args:List Opd} {d:Option Nat} {K:KT} {svs:List SV} {Q:List GV→PH→Prop} (m1 mr:PH) (hd:dOk d C.N=true) (ha:evL σ args=some svs) (hm:σ.m=uni m1 mr) (hdis:dis m1 mr)
  (hs:∀w vs,zkO C σ w m1 svs vs→PH.sub C.u0 (but w m1)→(∀u∈σ.ph,PH.sub u (but w m1))→PH.sub mr (but w m1)→Spec C.P f vs m1 w Q)
  (hK:∀rs m',(∀r∈rs,r.ok)→Q rs m'→dis m' mr→K ({σ with m:=uni m' mr}.put d (zK rs))):vcCall C f args d K σ:=by
 constructor
 rintro a w ⟨loc,hF,hH⟩
 have hle1:m1.le w:=fun b o hb=>hH.mle b o (by rw [hm];simp [uni,hb])
 have hm1:∀b,σ.m b=none→m1 b=none:=fun b hb=>by
  rw [hm]at hb
  cases h1:m1 b with
  |none=>rfl
  |some o=>simp [uni,h1]at hb
 refine (hs w _ (ztY hF hH hm1 ha) (fun b o h=>zsH (hm1 b (hH.u0apart h)) (hH.u0le b o h)) (fun u hu b o h=>zsH (hm1 b ((hH.phs u hu).2 b (by rw [h];simp)).2) ((hH.phs u hu).1 b o h)) (fun b o h=> ?_) hle1).mono fun e w' he=> ?_
 ·refine zsH ?_ (hH.mle b o (by rw [hm];exact zao hdis b o h))
  rcases hdis b with h1|h1
  ·exact h1
  ·rw [h1]at h;cases h
 obtain ⟨rs,m',rfl,hrs,hq,hle,hdom,hk⟩:=he
 refine ⟨_,rfl, ?_⟩
 obtain ⟨h1,h2,h3,hdd⟩:=hH.after hm hdis hle hdom hk
 obtain ⟨q1,q2,q3⟩:=({σ with m:=uni m' mr}:SS).put_pv d (zK rs)
 exact ⟨_,hK rs m' hrs hq hdd,loc,by rw [q1,q2];exact hF.put (σ:={σ with m:=uni m' mr}) (zcz hd) rfl (zpg hrs),by rw [q1,q2,q3];exact h1⟩
theorem zkd {w:World} {m1:PH} {vs:List Value} (h:zkO C σ w m1 [] vs):vs=[]:=by
 cases vs with
 |nil=>rfl
 |cons v vs=>exact h.elim
theorem zlJ {w:World} {m1:PH} {x:GV} {svs:List SV} {vs:List Value} (h:zkO C σ w m1 (.g x::svs) vs):∃vs',vs=x.val::vs'∧x.ok∧zkO C σ w m1 svs vs':=by
 cases vs with
 |nil=>exact h.elim
 |cons v vs=>exact ⟨vs,by rw [h.1.2],h.1.1,h.2⟩
theorem zwQ {w:World} {m1:PH} {k n o z:Nat} {xs:List GV} {svs:List SV} {vs:List Value} (hr:zaF σ.pv k=some (z,xs)) (h:zkO C σ w m1 (.row k o n::svs) vs):∃v vs',vs=v::vs'∧SlR (but w m1) v z ((xs.drop o).take n)∧zkO C σ w m1 svs vs':=by
 cases vs with
 |nil=>exact h.elim
 |cons v vs=>
  obtain ⟨⟨z',xs',h1,h2,h3⟩,h4⟩:=h
  rw [hr]at h1
  simp only [Option.some.injEq,Prod.mk.injEq]at h1
  obtain ⟨rfl,rfl⟩:=h1
  exact ⟨v,vs,rfl,h3,h4⟩
theorem zmN {w:World} {m1:PH} {k n z:Nat} {xs:List GV} {svs:List SV} {vs:List Value} (hr:zaF σ.pv k=some (z,xs)) (hn:n=xs.length) (h:zkO C σ w m1 (.row k 0 n::svs) vs):∃v vs',vs=v::vs'∧SlR (but w m1) v z xs∧zkO C σ w m1 svs vs':=by
 obtain ⟨v,vs',h1,h2,h3⟩:=zwQ hr h
 refine ⟨v,vs',h1, ?_,h3⟩
 rwa [List.drop_zero,hn,List.take_length]at h2
end
end Go.Proofs.YtmjiojflncffeaaGreat.Vc

set_option linter.unusedVariables false
set_option linter.unusedSimpArgs false
set_option maxRecDepth 100000
namespace Go.Proofs.YtmjiojflncffeaaGreat.Vc
open Go Go.Proofs
theorem zBv:EqG Tryz.prog 71 (zaH zdJ) (zaH zdJ) true:=fun x y w=>⟨by kernel_rfl,by kernel_rfl⟩
theorem zzc (w:World) (m:PH) (L:Lay) (T:PT) (hT:TM m L T):Spec Tryz.prog zeZ [ptr (L .t),(zaH zdJ).val] m w fun rs m'=>rs=[.s (.int .i64 0)]∧TM m' L T:=by
 refine zbb zhD [.g (.s (ptr (L .t))), .g (zaH zdJ)] (by simp) (by simp [AV.ok,GV.ok,Value.oneCell',ptr,zlN zdJ rfl]) ?_
 simp (maxSteps:=2000000) only [zeQ,zi,zm,zf,zc,zb,zh,ze,za,zj,ev,look,zZ,zd,zg,zk,Value.oneCell',cond_true,Nat.reduceEqDiff,↓reduceIte,reduceCtorEq,Nat.zero_add,Bool.true_and,true_and,zak,zaK,zaU,zcx,zcL,zee,ptr]
 refine zaM _ [.s (.bool false)] rfl rfl (fun w' vs hv _ _ hm=> ?_) ?_
 ·obtain ⟨vs,rfl,_,hv⟩:=zt hv
  obtain rfl:=zr hv
  exact zka hm hT
 simp (maxSteps:=2000000) only [zK,zu,zi,zm,zq,zf,zc,zb,zh,ze,za,zj,ev,evL,gvL,look,zd,zg,zk,Nat.reduceEqDiff,↓reduceIte,reduceCtorEq,Bool.true_and,true_and,List.map_nil,↓zN,GV.bldT,GV.bldC,zn,ziu]
 refine zcH zBv ?_
 simp (maxSteps:=2000000) only [zx,zi,zm,zq,zf,zp,zc,zab,zb,zh,ze,za,zj,ev,look,zd,zg,zk,Value.oneCell',cond_true,Nat.reduceEqDiff,↓reduceIte,reduceCtorEq,↓zL,Bool.bne_false]
 exact zbq m rfl (fun _ _ h=>h) ⟨rfl,hT⟩
theorem zzL {C:Ctx} {σ:SS} {t z:Nat} {x:Opd} {hi:Option Opd} {r:List (Option Nat×RO)} {K:KT} {v:Value} {e:TypeId} {u:PH} {xs:List GV} {h:Nat} (hx:ev σ x=some (.g (.s v))) (hs:SlO u v e z xs) (hhi:∀d:Nat,zdA σ hi d=some h)
  (h2:h≤xs.length) (hK:∀v',v'.oneCell'=true→SlO u v' e z (xs.take h)→zcw C r K (σ.put (some t) (.g (.s v')))):zcw C ((some t, .sl z x none hi)::r) K σ:=by
 rw [za]
 simp only [zj,hx]
 have hlo:∀d:Nat,zdA σ none d=some d:=fun d=>rfl
 have hw:=hs
 obtain ⟨hels,⟨rfl,rfl⟩|⟨⟨b,o,sp⟩,c,rfl,hc,hs⟩⟩:=hs
 ·obtain rfl:h=0:=by simpa using h2
  simp only [hlo,hhi]
  exact ⟨⟨rfl,rfl⟩,hK _ rfl hw⟩
 ·cases sp with
  |none=>
   simp only [hlo,hhi]
   refine ⟨⟨hc,by omega,by omega,by omega⟩, ?_⟩
   have:=SlO.take (ad':=some ⟨b,o,none⟩) hw rfl h2 rfl
   have e1:(if c=(0:Int).toNat then o else o+(0:Int).toNat*z)=o:=by
    split<;>simp
   simp only [Int.toNat_natCast,Int.toNat_zero,Nat.sub_zero,Nat.zero_mul,Nat.add_zero,ite_self]
   exact hK _ rfl this
  |some sp=>
   have hc0:c=0:=by
    rcases Nat.eq_zero_or_pos c with h|h
    ·exact h
    ·obtain ⟨_,g,_⟩:=hs h
     cases g
   subst hc0
   have hx0:xs=[]:=List.length_eq_zero_iff.1 (by omega)
   subst hx0
   obtain rfl:h=0:=by simpa using h2
   simp only [hlo,hhi,List.length_nil]
   exact ⟨⟨rfl,rfl⟩,hK _ rfl hw⟩
theorem zuv (m:PH) (b:Nat) (x y:Obj):(m.upd b x).upd b y=m.upd b y:=by
 funext k
 simp only [PH.upd]
 split<;>rfl
theorem zwx (P:Done→Bool) (rs:List Done) (d:Done):((rs++[d]).filter P).length=(rs.filter P).length+(if P d=true then 1 else 0):=by
 rw [List.filter_append,List.length_append]
 cases h:P d<;>simp [List.filter_cons,h]
def AddQ (b:Nat) (L Lb:Lay) (p:PL) (kb q:Nat) (ops:List Op) (rs:List GV) (m':PH):Prop:=
 (zbl p.ds p.fr [] ops≠0→rs=[.s (.int .i64 0), .s (.int .i64 (zbl p.ds p.fr [] ops))]∧LogM m' b L Lb p)∧
 (zbl p.ds p.fr [] ops=0→∃L' p' n,L' .t=L .t∧L' .mk=L .mk∧rs=[.s (.int .i64 n), .s (.int .i64 0)]∧LogM m' b L' Lb p'∧p'.good (ptr (L .mk)) kb (q+p.ds.length+ops.length)∧Added p ops p' n)
theorem zuV (w:World) (m:PH) (b:Nat) (L Lb:Lay) (p:PL) (hL:LogM m b L Lb p) {kb q:Nat} (hg:p.good (ptr (L .mk)) kb q) (v:Value) (ops:List Op) (hops:zqn ops) (hS:SlR (but w m) v 8 (ops.map gOp))
  (hq:q+p.ds.length+ops.length<1099511627776) (hfew:p.ds.length≤1048576):
  Spec Tryz.prog zea [ptr b,v] m w (AddQ b L Lb p kb q ops):=by
 refine zbb zoN [.g (.s (ptr b)), .ro v 8 (gOp zOp) (ops.map gOp)] (by simp) (by simpa [AV.ok,zwX,GV.ok,Value.oneCell',ptr]using hS) ?_
 have hof:∀d∈p.ds,d.undo.of.oneCell'=true:=fun d hd=>by rcases hg.fl.hist.isof d hd with e|e<;>rw [e]<;>rfl
 have hn:=hops.1
 simp (maxSteps:=2000000) only [ziQ,ptr,zi,zm,zf,zc,zb,zh,ze,za,zj,ev,look,zd,zg,zk,Value.oneCell',cond_true,Nat.reduceEqDiff,↓reduceIte,reduceCtorEq,Nat.zero_add,zak,zaK,List.length_map,ptr]
 refine zaM _ [.s (.bool false)] rfl rfl (fun w' vs hv _ _ hm=> ?_) ?_
 ·obtain ⟨vs,rfl,_,hv⟩:=zt hv
  obtain rfl:=zr hv
  exact zcG hm hL
 simp (maxSteps:=2000000) only [zK,zu,zi,zm,zq,zf,zc,zb,zh,ze,za,zj,ev,look,zd,zg,zk,Nat.reduceEqDiff,↓reduceIte,reduceCtorEq,↓zN]
 refine zaM _ [.s (.int .i64 (zbl p.ds p.fr [] ops))] rfl rfl (fun w' vs hv _ _ hm=> ?_) ?_
 ·obtain ⟨vs,rfl,_,hv⟩:=zt hv
  obtain ⟨v',vs,rfl,hs',hv⟩:=zhI (z:=8) (xs:=ops.map gOp) rfl (by simp) hv
  obtain rfl:=zr hv
  exact zyC w' m hm b L Lb p hL hof hg.ris (by omega) v' ops hops hs'
 by_cases hlk:zbl p.ds p.fr [] ops=0
 case neg=>
  simp (maxSteps:=2000000) only [zK,bne_iff_ne.2 hlk,zx,zi,zm,zq,zf,zp,zc,zab,zb,zh,ze,za,zj,ev,look,zd,zg,zk,zO,zP,Value.oneCell',cond_true,Nat.reduceEqDiff,↓reduceIte,reduceCtorEq,Bool.true_and,true_and,↓zL]
  exact zbq m rfl (fun _ _ h=>h) ⟨fun _=>⟨rfl,hL⟩,fun h=>absurd h hlk⟩
 simp (maxSteps:=2000000) only [zK,hlk,Int.reduceBNe,zu,zi,zm,zq,zf,zc,zb,zh,ze,za,zj,ev,look,zd,zg,zk,zO,zP,Value.oneCell',cond_true,Nat.reduceEqDiff,↓reduceIte,reduceCtorEq,Bool.true_and,true_and,↓zN]
 refine zaJ rfl rfl (Q:=fun rs m'=>∃v',rs=[.s v']∧SlO m' v' 26 8 (ops.map gOp)) (fun w' vs hv hw _ _=> ?_) fun rs mN _ hq1 hdN=> ?_
 ·obtain ⟨v1,vs,rfl,k1,hv⟩:=zhI (z:=8) (xs:=ops.map gOp) rfl (by simp) hv
  obtain rfl:=zr hv
  exact ztS w' v1 ops (by omega) w'.ph (fun _ _ h=>h) k1
 obtain ⟨vn,rfl,hN⟩:=hq1
 simp (maxSteps:=2000000) only [zK,zi,zm,zf,zc,zb,zh,ze,za,zj,ev,look,zd,zg,zk,↓reduceIte,reduceCtorEq]
 have hlook:=zzH hlk
 refine zdz mN m (zcz rfl) rfl rfl hdN (Q:=fun rs m'=>rs=[]∧∃cs':List Op,cs'.Perm ops∧Rising (cs'.map Op.k)∧SlO m' vn 26 8 (cs'.map gOp)) (fun w' vs hv _ _=> ?_) fun rs mN' _ hq1 hdN'=> ?_
 ·obtain ⟨vs,rfl,_,hv⟩:=zt hv
  obtain ⟨vs,rfl,_,hv⟩:=zt hv
  obtain rfl:=zr hv
  exact zwu w' vn ops mN hN (by omega) hlook.nod
 obtain ⟨rfl,news,hpn,hrn,hN'⟩:=hq1
 have hnl:=hpn.length_eq
 simp (maxSteps:=2000000) only [zK,zi,zm,zf,zc,zb,zh,ze,za,zj,look,zd,zg,zk,Nat.reduceEqDiff,↓reduceIte,reduceCtorEq]
 refine zgg (zhp rfl hdN' ?_)
 refine zog 7 7 (gOp zOp) rfl rfl hN'.toR (KN.mem (by simp)) ?_
 obtain ⟨ov,mT0,mB0,hSo,_,_,hs⟩:=hL.look
 have hS3:∀{ph:List PH},zce ⟨Tryz.prog,153,w,m⟩ ph m b 3 (.s ov):=fun {ph}=>(hs (C:=⟨Tryz.prog,153,w,m⟩) (ph:=ph) (m':=m) (KN.mem (by simp))).2.2.2.1
 simp (maxSteps:=2000000) only [za,zj,ev,look,zd,↓reduceIte,reduceCtorEq,Nat.zero_add,List.length_map]
 refine zJ _ hS3 rfl ?_
 obtain ⟨ao,co,hov⟩:=zch hSo
 have hov2:ov= .slice ao p.ds.length co:=by rw [hov,List.length_map]
 have tail:∀σ:SS,Ge σ ⟨[(0, .g (.s (.pointer (some ⟨b,0,none⟩)))),(7, .row 7 0 (news.length)),(8, .g (.s (.int .i64 (zeE p.ds news))))],[(7, .ro 8 (gOp zOp) (news.map gOp))],[mN'],m⟩→vc ⟨Tryz.prog,153,w,m⟩ zdN (znm ⟨Tryz.prog,153,w,m⟩ [.tmp 4, .tmp 5] (AddQ b L Lb p kb q ops)) σ:=by
  intro σ hσ
  unfold zdN
  rw [zi]
  refine zbu hσ ?_
  simp (maxSteps:=2000000) only [zm,zh,za,zj,ev,look,zd,↓reduceIte,Nat.zero_add]
  refine zJ _ hS3 rfl ?_
  simp (maxSteps:=2000000) only [za,zj,ev,look,zd,Nat.reduceEqDiff,↓reduceIte,reduceCtorEq]
  refine zzm ?_
  have hfl:=zyA p.ds news
  refine zAJ (l:=zeE p.ds news) (h:=p.ds.length) rfl hSo rfl (fun d hd=>by rw [hd,List.length_map];rfl) hfl (by simp) fun v54 hv1 hv2=> ?_
  rw [List.take_of_length_le (by simp)]at hv2
  simp (maxSteps:=2000000) only [za,zj,zd]
  refine zaJ rfl rfl (Q:=fun rs m'=>∃v',rs=[.s v']∧SlO m' v' 97 22 ((p.ds.drop (zeE p.ds news)).map zan)) (fun w' vs hv _ _ hm=> ?_) fun rs mD _ hq1 hdD=> ?_
  ·obtain ⟨vs,rfl,_,hv⟩:=zt hv
   obtain rfl:=zr hv
   rw [←List.map_drop]at hv2
   exact zjN w' v54 _ (by simp;omega) m hm hv2
  obtain ⟨vo,rfl,hD⟩:=hq1
  have hD1:=hD.one
  simp (maxSteps:=2000000) only [zK,zi,zm,zf,zc,zb,zh,ze,za,zj,ev,look,zd,zg,zk,Nat.reduceEqDiff,↓reduceIte,reduceCtorEq]
  refine zCS 9 9 (zan zbe) rfl rfl hD rfl hdD ?_
  simp (maxSteps:=2000000) only [List.length_map,zB,zf,zc,zb,ze,za,zj,ev,look,zd,zg,zk,zO,zP,Value.oneCell',cond_true,Nat.reduceEqDiff,↓reduceIte,reduceCtorEq,Bool.true_and,true_and,List.length_map]
  generalize hf:zeE p.ds news=f at*
  have hol:(p.ds.drop f).length=p.ds.length - f:=List.length_drop
  refine zaP (ι:=Nat×Lay×PT×PH) (fun x=>⟨[(0, .g (.s (.pointer (some ⟨b,0,none⟩)))),(7, .row 7 0 (news.length)),(8, .g (.s (.int .i64 (f)))),(9, .row 9 0 ((p.ds.drop f).length)),(10, .g (.s (.int .i64 ((x.1:Int) - 1))))],[(9, .row 97 22 (zan zbe) ((p.ds.drop f).map zan)),(7, .ro 8 (gOp zOp) (news.map gOp))],[mN'],x.2.2.2⟩)
   (fun x=>x.1≤(p.ds.drop f).length∧x.2.1 .t=L .t∧x.2.1 .mk=L .mk∧LogM x.2.2.2 b x.2.1 Lb {p with T:=x.2.2.1}∧Fl (ptr (L .mk)) p.B p.i0 q x.2.2.1 (p.ds.take (f+x.1))) (fun x=>x.1) ((p.ds.drop f).length,L,p.T,m)
   ⟨Nat.le_refl _,rfl,rfl,hL,by simp only;rw [hol,show f+(p.ds.length - f)=p.ds.length by omega,List.take_length];exact hg.fl⟩ (zR ?_ ?_ rfl rfl rfl) ?_
  ·simp only [zaf,look,Nat.reduceEqDiff,↓reduceIte,reduceCtorEq,Bool.and_true,Bool.true_and,true_and,and_true]
   rw [zeA (by omega) (by omega)]
   try simp
  ·simp [zam,look]
  rintro ⟨r,L1,T1,m1⟩ ⟨hr,hL1,hL2,hM,hF⟩
  simp only at hr hL1 hL2 hM hF
  generalize hQ:loopQ _ _ _ _ _=Q
  simp (maxSteps:=2000000) only [zgG,zu,zau,zi,zB,zm,zbh,zq,zf,zay,zc,zb,zh,ze,za,zaq,zw,zX,zj,zaD,ev,look,zd,zg,zk,zO,zP,Value.oneCell',cond_true,Nat.reduceEqDiff,↓reduceIte,reduceCtorEq,Nat.add_zero,Bool.true_and,true_and,decide_eq_true_eq,decide_eq_false_iff_not,zax]
  refine ⟨fun hge0=> ?_,fun hlt0=> ?_⟩
  ·obtain ⟨ov1,_,_,_,_,_,hs1⟩:=hM.look
   have hS0:=(hs1 (C:=⟨Tryz.prog,153,w,m⟩) (ph:=[mN']) (m':=m1) (KN.mem (by simp))).1
   refine zJ _ hS0 rfl ?_
   rw [hL1]
   have hn1:((r:Int) - 1).toNat=r - 1:=by omega
   simp (maxSteps:=2000000) only [ptr,zh,za,zM,zU,zw,zX,zj,zaD,ev,look,zd,zaF,zdh,Nat.reduceEqDiff,↓reduceIte,reduceCtorEq,List.nil_append,Nat.zero_add,Bool.true_and,true_and,zn,ziu,ptr,zpi,zqo,ziA]
   refine ⟨⟨by omega,by omega⟩, ?_⟩
   rw [hn1]
   have hlt:f+(r - 1)<p.ds.length:=by omega
   obtain ⟨d,hd⟩:∃d,(p.ds.drop f).getD (r - 1) zbe=d:=⟨_,rfl⟩
   have hd2:p.ds.getD (f+(r - 1)) zbe=d:=by rw [←hd,List.getD_eq_getElem?_getD,List.getD_eq_getElem?_getD,List.getElem?_drop]
   have htk:p.ds.take (f+r)=p.ds.take (f+(r - 1))++[d]:=by rw [←hd2,←zfb hlt,show f+(r - 1)+1=f+r by omega]
   rw [htk]at hF
   rw [hd]
   obtain ⟨mT,mr,hm1,hdm,hT,hback⟩:=hM.tree
   have hids:=hF.ids
   have hB:=hF.back hg.bok fun x hx=>hg.ops x (List.mem_of_mem_take hx)
   obtain ⟨T2,hT2,hF2⟩:∃T2,(∀w',Spec Tryz.prog zeZ [ptr (L1 .t),(zaH d.undo).val] mT w' fun rs m'=>rs=[.s (.int .i64 0)]∧TM m' L1 T2)∧Fl (ptr (L .mk)) p.B p.i0 q T2 (p.ds.take (f+(r - 1))):=by
    rcases hB with ⟨h1,h2⟩|⟨h1,h2,h3,h4⟩
    ·refine ⟨T1,fun w'=> ?_,h2⟩
     rw [h1]
     exact zzc w' mT L1 T1 hT
    ·exact ⟨T1.undone d.undo,fun w'=>(zyK w' mT L1 T1 d.undo (by rw [h1,hL2];rfl) hT (by omega) (fun _=>h3)).mono fun rs m' h=>h.1 h2,h4⟩
   refine zdz mT mr (zcz rfl) rfl hm1 hdm (Q:=fun rs m'=>rs=[.s (.int .i64 0)]∧TM m' L1 T2) (fun w' vs hv _ _=> ?_) fun rs mT' _ hq1 hdT=> ?_
   ·obtain ⟨vs,rfl,_,hv⟩:=zt hv
    obtain ⟨vs,rfl,_,hv⟩:=zt hv
    obtain rfl:=zr hv
    have:=hT2 w'
    rw [hL1]at this
    exact this
   obtain ⟨rfl,hTn⟩:=hq1
   simp (maxSteps:=2000000) only [zK,zm,zf,zT,zc,zb,zh,ze,za,zj,ev,look,zd,zg,zk,zO,zP,Value.oneCell',cond_true,Nat.reduceEqDiff,↓reduceIte,reduceCtorEq,Bool.true_and,true_and]
   subst hQ;simp only [zaB];refine ⟨(r - 1,L1,T2,uni mT' mr), ?_, ?_,zR ?_ ?_ rfl rfl rfl⟩
   ·exact ⟨by simp only;omega,hL1,hL2,hback rfl hTn hdT,hF2⟩
   ·simp only;omega
   ·simp only [zaf,look,Nat.reduceEqDiff,↓reduceIte,reduceCtorEq,Bool.and_true,Bool.true_and,true_and,and_true]
    rw [zeA (by omega) (by omega),show (((r - 1:Nat):Int) - 1)=(r:Int) - 1 - 1 by omega]
    try simp
   ·simp [zam,look]
  ·subst hQ
   obtain rfl:r=0:=by omega
   simp (maxSteps:=2000000) only [zi,zm,zf,zat,zaQ,zh,za,zj,ev,look,zd,↓reduceIte,reduceCtorEq,Nat.zero_add,ptr]
   obtain ⟨ov1,e1,mo,mr,hm1,hdm,hO,hb1,hs1,hmk⟩:=hM.list
   refine zJ _ (hs1 (KN.mem (by simp))) rfl ?_
   simp (maxSteps:=2000000) only [za,zj,ev,look,zd,Nat.reduceEqDiff,↓reduceIte,reduceCtorEq]
   refine zzm ?_
   refine zzL (h:=f) rfl hO (fun d=>rfl) (by simp;omega) fun v81 hv1 hv2=> ?_
   simp (maxSteps:=2000000) only [za,zj,ev,look,zd,Nat.reduceEqDiff,↓reduceIte,reduceCtorEq,Nat.zero_add]
   have hbm:=zfg hdm hb1
   rw [←hm1]at hbm
   refine zgi rfl _ e1 ⟨hbm.1,by simp⟩ ?_
   simp (maxSteps:=2000000) only [za,zj,ev,look,zd,zS,Nat.reduceEqDiff,↓reduceIte,Nat.zero_add,ptr]
   refine zgi rfl _ e1 ⟨zft _ _ _,by simp [zav,GV.flat]⟩ ?_
   simp (maxSteps:=2000000) only [zi,zm,zf,zc,zb,zh,ze,za,zj,look,zS,zg,zk,Nat.reduceEqDiff,↓reduceIte,reduceCtorEq]
   intro bf of hof1 hdf
   simp (maxSteps:=2000000) only [zi,zB,zm,zf,zc,zb,zh,ze,za,zj,ev,look,zd,zg,zk,Value.oneCell',cond_true,Nat.reduceEqDiff,↓reduceIte,reduceCtorEq]
   rw [zuv,hm1,zdm hbm.2]at hdf ⊢
   have hv3:SlO mo v81 97 22 ((p.ds.take f).map zan):=by rw [List.map_take];exact hv2
   have hM2:=hmk (ds':=p.ds.take f) (fr':=p.fr) (red':=((p.ds.drop f).length:Int)) hv3 hdm
   generalize hm2:uni mo (mr.upd b _)=m2 at hdf ⊢
   have em2:uni mo (mr.upd b (zeL L1 Lb p.fr v81 ((p.ds.drop f).length:Int) e1))=m2:=by rw [←hm2];rfl
   simp only [em2]at hM2
   have hdf:dis (one bf of) m2:=hdf
   refine zaP (ι:=Nat×Obj) (fun x=>⟨[(0, .g (.s (.pointer (some ⟨b,0,none⟩)))),(9, .row 9 0 ((p.ds.drop f).length+x.1)),(11, .g (.s (.map (some bf)))),(89, .row 7 0 (news.length)),(90, .g (.s (.int .i64 (news.length)))),(91, .g (.s (.int .i64 (x.1))))],[(9, .row 97 22 (zan zbe) ((p.ds.drop f++(news.take x.1).map fresh).map zan)),(7, .ro 8 (gOp zOp) (news.map gOp))],[mN'],uni (one bf x.2) m2⟩)
    (fun x=>x.1≤news.length∧znA x.2 (cnt ((news.take x.1).map Op.k))) (fun x=>news.length - x.1) (0,of) ⟨Nat.zero_le _,zAM (hof1 none)⟩ (zR ?_ ?_ rfl rfl rfl) ?_
   ·simp [zaf,look]
   ·simp [zam,look]
   have hdf2:∀o,dis (one bf o) m2:=fun o k=>by
    rcases hdf k with h|h
    ·simp only [one]at h ⊢
     split at h
     ·cases h
     ·rename_i hk;left;rw [if_neg hk]
    ·exact .inr h
   rintro ⟨j,o⟩ ⟨hj,hmo⟩
   simp only at hj hmo
   generalize hQ:loopQ _ _ _ _ _=Q
   simp (maxSteps:=2000000) only [zge,zu,zau,zi,zB,zm,zeS,zq,zf,zay,zc,zb,zh,ze,za,zbI,zeG,zj,ev,look,zZ,zd,zS,zg,zk,zaF,zdh,zO,zP,Nat.reduceEqDiff,↓reduceIte,reduceCtorEq,List.nil_append,Nat.zero_add,Bool.and_true,Bool.true_and,true_and,and_true,Int.toNat_natCast,decide_eq_true_eq,decide_eq_false_iff_not,zax,zn,zY,zag,zaU,zbM,zbp,zfs,zcb,zbL,zcx,zdY]
   refine ⟨fun hlt=>⟨⟨by omega,by omega⟩, ?_⟩,fun hge=> ?_⟩
   ·have hjl:j<news.length:=by omega
    obtain ⟨op,hop⟩:∃op,news.getD j zOp=op:=⟨_,rfl⟩
    have htk:news.take (j+1)=news.take j++[op]:=by rw [zfb hjl zOp,hop]
    rw [hop]
    have hks:op.k∉(news.take j).map Op.k:=by
     have hnd:((news.take (j+1)).map Op.k).Nodup:=by
      have:(news.map Op.k).Nodup:=(hpn.map _).nodup_iff.2 hlook.nod
      exact this.sublist ((List.take_sublist _ _).map _)
     rw [htk,List.map_append,List.nodup_append]at hnd
     exact fun hm=>hnd.2.2 _ hm _ (by simp) rfl
    generalize hkk:(news.take j).map Op.k=ks at hmo hks
    have tail2:∀o',znA o' (zcP (cnt ks) op.k (.int .i64 (zqk ks op.k)))→∀σ:SS,Ge σ ⟨[(0, .g (.s (.pointer (some ⟨b,0,none⟩)))),(9, .row 9 0 ((p.ds.drop f).length+j)),(11, .g (.s (.map (some bf)))),(13, .ref 13 []),(89, .row 7 0 (news.length)),(90, .g (.s (.int .i64 (news.length)))),(91, .g (.s (.int .i64 (j))))],[(9, .row 97 22 (zan zbe) ((p.ds.drop f++(news.take j).map fresh).map zan)),(7, .ro 8 (gOp zOp) (news.map gOp)),(13, .box (gOp op))],[mN'],uni (one bf o') m2⟩→
      vc ⟨Tryz.prog,153,w,m⟩ zdT (blockQ 3 (thenQ (vc ⟨Tryz.prog,153,w,m⟩ (.rg [⟨none,[(some 107, .bin .add (.t 91) (.c (.int .i64 1))),(some 91, .mv (.t 107))]⟩] [0,9,11,89,90,91]) Q) Q)) σ:=by
     intro o' ho' σ hσ
     rw [zpl hks]at ho'
     unfold zdT
     refine zbu hσ ?_
     simp (maxSteps:=2000000) only [GV.bldC,GV.bldT,zm,zf,zT,zc,zb,zh,ze,za,zj,ev,evL,gvL,look,zZ,zd,zg,zk,zaF,zO,zP,Value.oneCell',cond_true,cond_false,Nat.reduceEqDiff,Nat.reduceBEq,↓reduceIte,reduceCtorEq,Nat.zero_add,Bool.and_true,Bool.true_and,BEq.rfl,true_and,and_true,List.map_cons,List.map_nil,Option.map_some,zcO,List.length_cons,List.length_nil,zbA,SV.mentions,ne_eq,not_false_eq_true,List.drop_zero,List.take_succ_cons,List.take_zero,GV.bldT,GV.bldC,zn,List.length_map,zaU,zbp,zfs,zcx,zcL,zee,zgl,zeN,zvW,ziy]
     refine ⟨rfl,by simp;omega,by omega, ?_⟩
     subst hQ;simp only [zaB];refine ⟨(j+1,o'), ?_, ?_,zR ?_ ?_ rfl rfl rfl⟩
     ·refine ⟨by simp only;omega, ?_⟩
      simp only
      rw [htk,List.map_append,hkk]
      exact ho'
     ·simp only;omega
     ·simp only [zaf,look,Nat.reduceEqDiff,↓reduceIte,reduceCtorEq,Bool.and_true,Bool.true_and,true_and,and_true]
      rw [zaN (by omega)]
      try simp
      try omega
     ·simp only [zam,look,Nat.reduceEqDiff,↓reduceIte,Bool.and_true,and_true]
      rw [htk]
      simp [fresh,zbe]
    have hgt:=zxV ks op.k
    have hw:=zun ks op.k
    have hbfs:∀o,uni (one bf o) m2 bf=some o:=fun o=>zV _ _ _ _ (zaE _ _)
    refine ⟨⟨op.k,o,_,rfl, .inl (hbfs o),hmo, ?_⟩, ?_⟩
    ·simp (maxSteps:=2000000) only [zsu,hgt,zb,zh,ze,za,zbI,zj,ev,look,zd,zO,zP,Value.oneCell',cond_true,cond_false,Nat.reduceEqDiff,↓reduceIte,Bool.true_and,true_and]
     refine ⟨op.k,o,_,rfl,hbfs o,hmo,fun o1 β ho1 hb1=> ?_⟩
     simp (maxSteps:=2000000) only [zbZ,List.getElem?_cons_succ,List.getElem?_cons_zero,zb,zh,ze,za,zbI,zj,ev,look,zd,Nat.reduceEqDiff,↓reduceIte]
     refine ⟨op.k,o1,_,β,rfl,hbfs o1,ho1,hb1,fun o2 ho2=> ?_⟩
     rw [zkm,hw]at ho2
     simp (maxSteps:=2000000) only [zbZ,zf,zc,zb,ze,zdn,look,zS,zg,zk,Nat.reduceEqDiff,↓reduceIte,reduceCtorEq]
     exact tail2 o2 ho2 _ (zR (by simp [zaf,look]) (by simp [zam,look]) rfl rfl rfl)
    ·refine ⟨op.k,o,_,rfl,hbfs o,hmo,fun o1 β ho1 hb1=> ?_⟩
     simp (maxSteps:=2000000) only [zbZ,List.getElem?_cons_succ,List.getElem?_cons_zero,zb,zh,ze,za,zbI,zj,ev,look,zd,Nat.reduceEqDiff,↓reduceIte]
     refine ⟨op.k,o1,_,rfl, .inl (hbfs o1),ho1, ?_⟩
     simp (maxSteps:=2000000) only [zsu,zrv,hgt,zb,zh,ze,za,zbI,zj,ev,look,zd,zO,zP,Value.oneCell',cond_true,cond_false,Nat.reduceEqDiff,↓reduceIte,Bool.true_and,true_and]
     refine ⟨op.k,o1,_,β,rfl,hbfs o1,ho1,hb1,fun o2 ho2=> ?_⟩
     rw [zkm,hw]at ho2
     simp (maxSteps:=2000000) only [zbZ,zf,zc,zb,ze,zdn,look,zS,zg,zk,Nat.reduceEqDiff,↓reduceIte,reduceCtorEq]
     exact tail2 o2 ho2 _ (zR (by simp [zaf,look]) (by simp [zam,look]) rfl rfl rfl)
   ·subst hQ
    obtain rfl:j=news.length:=by omega
    rw [List.take_length]at hmo
    simp (maxSteps:=2000000) only [List.take_length,zi,zm,zf,zat,zaQ,zh,za,zj,↓reduceIte]
    refine zfB 9 9 _ rfl rfl (by simp) fun v9 uD ho9 hs9 hd9=> ?_
    simp (maxSteps:=2000000) only [za,zj,ev,look,zd,cond_true,cond_false,Nat.reduceBEq,↓reduceIte,BEq.rfl,zbA,SV.mentions]
    have hd9:dis uD (uni (one bf o) m2):=hd9
    refine zdz uD (uni (one bf o) m2) (zcz rfl) rfl rfl hd9 (Q:=fun rs m'=>rs=[]∧∃cs:List Done,cs.Perm (p.ds.drop f++news.map fresh)∧Rising (cs.map Done.k)∧SlO m' v9 97 22 (cs.map zan)) (fun w' vs hv _ _=> ?_) fun rs uD' _ hq1 hdD'=> ?_
    ·obtain ⟨vs,rfl,_,hv⟩:=zt hv
     obtain ⟨vs,rfl,_,hv⟩:=zt hv
     obtain rfl:=zr hv
     refine zwv w' v9 _ (fun d hd=> ?_) uD hs9 (by simp;omega) (ztf hg.ris hlook hpn f)
     rcases List.mem_append.1 hd with hd|hd
     ·exact hof d (List.mem_of_mem_drop hd)
     ·obtain ⟨op,_,rfl⟩:=List.mem_map.1 hd
      rfl
    obtain ⟨rfl,cs,hpc,hrc,hcs⟩:=hq1
    simp (maxSteps:=2000000) only [zK,zi,zm,zf,zc,zb,zh,ze,za,zj,ev,look,zd,zg,zk,Value.oneCell',cond_true,Nat.reduceEqDiff,↓reduceIte,reduceCtorEq]
    refine zgg (zhp rfl hdD' ?_)
    refine zgg (zhp rfl (hdf2 o) ?_)
    refine zog 9 9 (zan zbe) rfl rfl hcs.toR (KN.mem (by simp)) ?_
    simp (maxSteps:=2000000) only [List.length_map,zB,zf,zc,zb,ze,za,zj,ev,look,zd,zg,zk,Value.oneCell',cond_true,Nat.reduceEqDiff,↓reduceIte,reduceCtorEq,List.length_map]
    have hcl:cs.length=(p.ds.length - f)+news.length:=by rw [hpc.length_eq,List.length_append,hol,List.length_map]
    have hco:∀d∈cs,zeP d.op:=fun d hd=>by
     rcases List.mem_append.1 (hpc.mem_iff.1 hd)with hd|hd
     ·exact hg.ops d (List.mem_of_mem_drop hd)
     ·obtain ⟨op,hop,rfl⟩:=List.mem_map.1 hd
      exact (hops.2 op (hpn.mem_iff.1 hop)).2
    have hqd:kb+p.ds.length≤q:=hg.many
    refine zaP (ι:=Nat×Lay×PT×PH×List Done) (fun x=>⟨[(0, .g (.s (.pointer (some ⟨b,0,none⟩)))),(11, .g (.s (.map (some bf)))),(14, .g (.s (.int .i64 ((x.2.2.2.2.filter fun d=>d.taken&&decide (d.k∈ops.map Op.k)).length)))),(110, .row 9 0 (cs.length)),(111, .g (.s (.int .i64 (cs.length)))),(112, .g (.s (.int .i64 (x.1))))],[(9, .ro 22 (zan zbe) (cs.map zan))],[one bf o,uD',mN'],x.2.2.2.1⟩)
     (fun x=>x.1≤cs.length∧x.2.1 .t=L .t∧x.2.1 .mk=L .mk∧LogM x.2.2.2.1 b x.2.1 Lb {p with T:=x.2.2.1,ds:=p.ds.take f++x.2.2.2.2,red:=((p.ds.drop f).length:Int)}∧x.2.2.2.2.map (·.op)=(cs.take x.1).map (·.op)∧Fl (ptr (L .mk)) p.B p.i0 (q+x.1) x.2.2.1 (p.ds.take f++x.2.2.2.2)) (fun x=>cs.length - x.1) (0,L1,T1,m2,[])
     ⟨Nat.zero_le _,hL1,hL2,by simpa using hM2,rfl,by simpa using hF⟩ (zR ?_ ?_ rfl rfl rfl) ?_
    ·simp [zaf,look]
    ·simp [zam,look]
    rintro ⟨i,L3,T3,m3,rs⟩ ⟨hi,hL3,hL4,hM3,hrs,hF3⟩
    simp only at hi hL3 hL4 hM3 hrs hF3
    have hrl:rs.length=i:=by
     have:=congrArg List.length hrs
     simpa [Nat.min_eq_left hi]using this
    generalize hQ:loopQ _ _ _ _ _=Q
    simp (maxSteps:=2000000) only [zgn,zu,zau,zi,zB,zm,zeS,zq,zf,zay,zc,zb,zh,ze,za,zbI,zeG,zj,ev,look,zZ,zd,zS,zg,zk,zaF,zdh,zO,zP,Nat.reduceEqDiff,↓reduceIte,reduceCtorEq,List.nil_append,Nat.zero_add,Nat.add_zero,Bool.and_true,Bool.true_and,true_and,and_true,Int.toNat_natCast,decide_eq_true_eq,decide_eq_false_iff_not,zax,zn,zY,zaU,zbp,zcx,zcL,zee,zgl,zgJ,zpO,zia,zeN,ziy,ziA]
    refine ⟨fun hlt=>⟨⟨by omega,by omega⟩, ?_⟩,fun hge=> ?_⟩
    ·have hil:i<cs.length:=by omega
     obtain ⟨d,hd⟩:∃d,cs.getD i zbe=d:=⟨_,rfl⟩
     have hdm2:d∈cs:=hd▸getD_in hil zbe
     rw [hd]
     obtain ⟨ov3,_,_,_,_,_,hs3⟩:=hM3.look
     have hS0:=(hs3 (C:=⟨Tryz.prog,153,w,m⟩) (ph:=[one bf o,uD',mN']) (m':=m3) (KN.mem (by simp))).1
     rw [hL3]at hS0
     obtain ⟨mT,mr3,hm3,hdm3,hT3,hback⟩:=hM3.tree
     have hol3:∀x∈p.ds.take f++rs,zeP x.op:=fun x hx=>by
      rcases List.mem_append.1 hx with hx|hx
      ·exact hg.ops x (List.mem_of_mem_take hx)
      ·have:x.op∈(cs.take i).map (·.op):=by rw [←hrs];exact List.mem_map.2 ⟨x,hx,rfl⟩
       obtain ⟨y,hy,e⟩:=List.mem_map.1 this
       rw [←e]
       exact hco y (List.mem_of_mem_take hy)
     have htok:=hF3.tok hg.bok hol3 (by simp;omega)
     obtain ⟨d',T4,hd4,hdo,hF4⟩:∃(d':Done) (T4:PT),d'.op=d.op∧(∀w',Spec Tryz.prog zjJ [ptr (L3 .t),(gOp d.op).val] mT w' fun rs' m'=>rs'=[zaH d'.undo, .s (.bool d'.taken)]∧∃L4,L4 .t=L3 .t∧L4 .mk=L3 .mk∧TM m' L4 T4)∧Fl (ptr (L .mk)) p.B p.i0 (q+(i+1)) T4 (p.ds.take f++(rs++[d'])):=by
      cases hmay:zaL T3 d.op with
      |false=>exact ⟨⟨d.op,false,zdJ⟩,T3,rfl,fun w'=>(zpa w' mT L3 T3 d.op (hco d hdm2).2 (zoY htok (by omega)) hT3).mono fun rs' m' h=>⟨(h.1 hmay).1,L3,rfl,rfl,(h.1 hmay).2⟩,by rw [←List.append_assoc];exact hF3.no hg.bok hol3 hmay⟩
      |true=>exact ⟨⟨d.op,true,T3.undo (ptr (L .mk)) d.op⟩,T3.does d.op,rfl,fun w'=>(zpa w' mT L3 T3 d.op (hco d hdm2).2 (zoY htok (by omega)) hT3).mono fun rs' m' h=>by
        obtain ⟨L4,h1,h2,h3,h4⟩:=h.2 hmay
        exact ⟨by rw [h3,hL4],L4,h1,h2,h4⟩,by rw [←List.append_assoc];exact hF3.yes hg.bok hol3 (hco d hdm2) hmay⟩
     have hdk:d'.k=d.k:=by show d'.op.k=d.op.k;rw [hd4]
     have hmemk:d.k∈news.map Op.k↔d'.k∈ops.map Op.k:=by rw [hdk];exact (hpn.map _).mem_iff
     have tail3:∀(L4:Lay) (m4:PH),L4 .t=L .t→L4 .mk=L .mk→LogM m4 b L4 Lb {p with T:=T4,ds:=p.ds.take f++rs,red:=((p.ds.drop f).length:Int)}→
       ∀σ:SS,Ge σ ⟨[(0, .g (.s (.pointer (some ⟨b,0,none⟩)))),(11, .g (.s (.map (some bf)))),(14, .g (.s (.int .i64 ((rs.filter fun d=>d.taken&&decide (d.k∈ops.map Op.k)).length)))),(16, .ref 16 []),(110, .row 9 0 (cs.length)),(111, .g (.s (.int .i64 (cs.length)))),(112, .g (.s (.int .i64 (i))))],[(9, .ro 22 (zan zbe) (cs.map zan)),(16, .box (zan d'))],[one bf o,uD',mN'],m4⟩→
       vc ⟨Tryz.prog,153,w,m⟩ zdO (blockQ 5 (thenQ (vc ⟨Tryz.prog,153,w,m⟩ (.rg [⟨none,[(some 151, .bin .add (.t 112) (.c (.int .i64 1))),(some 112, .mv (.t 151))]⟩] [0,11,14,110,111,112]) Q) Q)) σ:=by
      intro L4 m4 hL5 hL6 hM4 σ hσ
      unfold zdO
      rw [zi,zi]
      refine zbu hσ ?_
      have tail4:∀n:Nat,n=((rs++[d']).filter fun d=>d.taken&&decide (d.k∈ops.map Op.k)).length→
        ∀σ:SS,Ge σ ⟨[(0, .g (.s (.pointer (some ⟨b,0,none⟩)))),(11, .g (.s (.map (some bf)))),(14, .g (.s (.int .i64 (n)))),(16, .ref 16 []),(110, .row 9 0 (cs.length)),(111, .g (.s (.int .i64 (cs.length)))),(112, .g (.s (.int .i64 (i))))],[(9, .ro 22 (zan zbe) (cs.map zan)),(16, .box (zan d'))],[one bf o,uD',mN'],m4⟩→
        vc ⟨Tryz.prog,153,w,m⟩ zdQ (blockQ 5 (thenQ (vc ⟨Tryz.prog,153,w,m⟩ (.rg [⟨none,[(some 151, .bin .add (.t 112) (.c (.int .i64 1))),(some 112, .mv (.t 151))]⟩] [0,11,14,110,111,112]) Q) Q)) σ:=by
       intro n hn' σ hσ
       unfold zdQ
       refine zbu hσ ?_
       obtain ⟨ov4,e4,mo4,mr4,hm4,hdm4,hO4,hb4,hs4,hmk4⟩:=hM4.list
       have hS4:=hs4 (C:=⟨Tryz.prog,153,w,m⟩) (ph:=[one bf o,uD',mN']) (m':=m4) (KN.mem (by simp))
       simp (maxSteps:=2000000) only [zeS,zb,zh,ze,za,zbI,zeG,zj,ev,evL,gvL,look,zZ,zd,Nat.reduceEqDiff,↓reduceIte,reduceCtorEq,Nat.zero_add,Bool.and_true,Bool.true_and,true_and,and_true,Option.map_some,zcO,List.length_cons,List.length_nil,zn,zaU,zcx,zcL,zee,zgl,zgJ,ziy]
       refine ⟨zJ _ hS4 rfl ?_,zJ _ hS4 rfl ?_,zJ _ hS4 rfl ?_⟩
       all_goals
        simp (maxSteps:=2000000) only [zb,zh,ze,za,zbI,zj,ev,evL,gvL,look,zZ,zd,zaF,Nat.reduceEqDiff,↓reduceIte,reduceCtorEq,Nat.zero_add,Bool.and_true,Bool.true_and,true_and,and_true,Option.map_some,zcO,List.length_cons,List.length_nil,List.drop_zero,List.take_succ_cons,List.take_zero,zn,zgl,zgJ]
        refine znH rfl rfl mo4 mr4 _ hO4 hm4 hdm4 (by simp;omega) fun v5 u5 ho5 hs5 hd5=> ?_
        simp (maxSteps:=2000000) only [zb,zh,ze,za,zbI,zj,ev,look,zd,Nat.reduceEqDiff,↓reduceIte,Nat.zero_add]
        have hb5:=(zfg hd5 hb4)
        refine zgi rfl _ e4 ⟨hb5.1,by simp⟩ ?_
        simp (maxSteps:=2000000) only [zm,zf,zT,zc,zb,zh,ze,za,zdn,zj,ev,look,zd,zS,zg,zk,zO,zP,Value.oneCell',cond_true,Nat.reduceEqDiff,↓reduceIte,reduceCtorEq,Bool.true_and,true_and,ptr]
        have hv5:SlO u5 v5 97 22 ((p.ds.take f++(rs++[d'])).map zan):=by
         rw [←List.append_assoc,List.map_append]
         exact hs5
        have hM5:=hmk4 (ds':=p.ds.take f++(rs++[d'])) (fr':=p.fr) (red':=((p.ds.drop f).length:Int)) hv5 hd5
        rw [zdm hb5.2]
        subst hQ;simp only [zaB];refine ⟨(i+1,L4,T4,uni u5 (mr4.upd b (zeL L4 Lb p.fr v5 ((p.ds.drop f).length:Int) e4)),rs++[d']), ?_, ?_,zR ?_ ?_ rfl rfl rfl⟩
        ·refine ⟨by simp only;omega,hL5,hL6,hM5, ?_,hF4⟩
         simp only
         rw [zfb hil zbe,hd,List.map_append,List.map_append,hrs,List.map_cons,List.map_nil,List.map_cons,List.map_nil,hd4]
        ·simp only;omega
        ·simp only [zaf,look,Nat.reduceEqDiff,↓reduceIte,reduceCtorEq,Bool.and_true,Bool.true_and,true_and,and_true]
         rw [zaN (by omega),hn']
         try simp
        ·simp [zam,look]
      have hcount:((rs++[d']).filter fun d=>d.taken&&decide (d.k∈ops.map Op.k)).length=(rs.filter fun d=>d.taken&&decide (d.k∈ops.map Op.k)).length+(if (d'.taken&&decide (d'.k∈ops.map Op.k))=true then 1 else 0):=zwx _ rs d'
      have hle:(rs.filter fun d=>d.taken&&decide (d.k∈ops.map Op.k)).length≤rs.length:=List.length_filter_le _ _
      cases htk:d'.taken with
      |false=>
       have e0:(rs.filter fun d=>d.taken&&decide (d.k∈ops.map Op.k)).length=((rs++[d']).filter fun d=>d.taken&&decide (d.k∈ops.map Op.k)).length:=by rw [hcount,htk];simp
       simp (maxSteps:=2000000) only [htk,zu,zm,zq,zf,zc,zb,zh,zH,ze,za,zj,RO.isGh,zI,zar,ev,look,zd,zg,zk,GV.getT,Value.oneCell',cond_true,cond_false,Nat.reduceEqDiff,↓reduceIte,reduceCtorEq,List.nil_append,Bool.true_and,Bool.not_true,Bool.not_false,true_and,↓zN,zn,zF,zir,zhZ]
       exact tail4 _ e0 _ (zR (by simp [zaf,look]) (by simp [zam,look]) rfl rfl rfl)
      |true=>
       simp (maxSteps:=2000000) only [htk,zm,zh,zH,ze,za,zj,ev,look,zd,GV.getT,Nat.reduceEqDiff,↓reduceIte,reduceCtorEq,List.nil_append,List.cons_append,Bool.true_and,Bool.not_false,true_and,↓zL,zn,zF,zag,zcb,zbL,zia,zeN,zir,zhZ]
       refine ⟨d'.k,o,_,rfl, .inr (.inl ⟨one bf o,by simp,zaE _ _⟩),hmo, ?_⟩
       rw [hdk]
       by_cases hin:d.k∈news.map Op.k
       ·simp (maxSteps:=2000000) only [zsu,zmm,if_pos hin,Option.getD_some,Int.reduceGT,zm,zq,zf,zc,zb,zh,ze,za,zj,ev,look,zd,zg,zk,zO,zP,Value.oneCell',cond_true,cond_false,Nat.reduceEqDiff,↓reduceIte,reduceCtorEq,Bool.true_and,decide_true,true_and,↓zL]
        have e1:((rs.filter fun d=>d.taken&&decide (d.k∈ops.map Op.k)).length:Int)+1=(((rs++[d']).filter fun d=>d.taken&&decide (d.k∈ops.map Op.k)).length:Nat):=by
         rw [hcount,htk,decide_eq_true (hmemk.1 hin)]
         simp
        rw [zeA (by omega) (by omega),e1]
        exact tail4 _ rfl _ (zR (by simp [zaf,look]) (by simp [zam,look]) rfl rfl rfl)
       ·simp (maxSteps:=2000000) only [zsu,zmm,if_neg hin,Option.getD_none,Int.reduceGT,zu,zq,zf,zc,zb,zh,ze,za,zj,ev,look,zd,zg,zk,zO,zP,Value.oneCell',cond_true,cond_false,Nat.reduceEqDiff,↓reduceIte,reduceCtorEq,Bool.true_and,decide_false,true_and,↓zL,↓zN]
        have e0:(rs.filter fun d=>d.taken&&decide (d.k∈ops.map Op.k)).length=((rs++[d']).filter fun d=>d.taken&&decide (d.k∈ops.map Op.k)).length:=by rw [hcount,htk,decide_eq_false (fun h=>hin (hmemk.2 h))];simp
        exact tail4 _ e0 _ (zR (by simp [zaf,look]) (by simp [zam,look]) rfl rfl rfl)
     refine ⟨zJ _ hS0 rfl ?_,zJ _ hS0 rfl ?_⟩
     all_goals
      simp (maxSteps:=2000000) only [ptr,zb,zh,ze,za,zbI,zj,ev,look,zd,Nat.reduceEqDiff,↓reduceIte,Bool.true_and,true_and,zn,zbp,ptr,zeN]
      refine zdz mT mr3 (zcz rfl) rfl hm3 hdm3 (Q:=fun rs' m'=>rs'=[zaH d'.undo, .s (.bool d'.taken)]∧∃L4,L4 .t=L .t∧L4 .mk=L3 .mk∧TM m' L4 T4) (fun w' vs hv _ _=> ?_) fun rs' mT' _ hq1 hdT=> ?_
      ·obtain ⟨vs,rfl,_,hv⟩:=zt hv
       obtain ⟨vs,rfl,_,hv⟩:=zt hv
       obtain rfl:=zr hv
       have:=hdo w'
       rw [hL3]at this
       exact this
      obtain ⟨rfl,L4,h41,h42,hT4⟩:=hq1
      simp (maxSteps:=2000000) only [zK,List.getElem?_cons_succ,List.getElem?_cons_zero,zf,zc,zb,zh,ze,za,zdn,zbI,zj,ev,look,zZ,zd,zS,zg,zk,GV.getT,GV.sz,GV.same,Nat.reduceEqDiff,↓reduceIte,reduceCtorEq,List.nil_append,Bool.and_true,Bool.true_and,true_and,and_true,zn,zbT,zgy,zir,zhZ,zwn,zpi,zqo,zwa]
      have ed:({d with undo:=d'.undo,taken:=d'.taken}:Done)=d':=by rw [←hd4]
      rw [ed]
      exact tail3 L4 _ h41 (h42.trans hL4) (hback (h41.trans hL3.symm) hT4 hdT) _ (zR (by simp [zaf,look]) (by simp [zam,look]) rfl rfl rfl)
    ·subst hQ
     obtain rfl:i=cs.length:=by omega
     simp (maxSteps:=2000000) only [zx,zi,zm,zf,zat,zc,zaQ,zab,zb,zh,ze,za,zj,ev,look,zd,zg,zk,Value.oneCell',cond_true,Nat.reduceEqDiff,↓reduceIte,reduceCtorEq,ptr]
     rw [List.take_length]at hrs
     have hgood:({p with T:=T3,ds:=p.ds.take f++rs,red:=((p.ds.drop f).length:Int)}:PL).good (ptr (L .mk)) kb (q+p.ds.length+ops.length):=by
      have hkk:rs.map Done.k=cs.map Done.k:=by
       have h:=congrArg (List.map Op.k) hrs
       rw [List.map_map,List.map_map]at h
       exact h
      refine ⟨hF3.up (by omega),hg.bok,hg.bgood, ?_, ?_,fun x hx=> ?_⟩
      ·simp only [List.length_append,List.length_take];omega
      ·have:=zqO (cs:=cs) (news:=news) hg.ris hrn hrc (by rw [hf];exact hpc)
       rw [hf,List.map_append]at this
       simp only [List.map_append,hkk]
       exact this
      ·rcases List.mem_append.1 hx with hx|hx
       ·exact hg.ops x (List.mem_of_mem_take hx)
       ·have:x.op∈cs.map (·.op):=by rw [←hrs];exact List.mem_map.2 ⟨x,hx,rfl⟩
        obtain ⟨y,hy,e⟩:=List.mem_map.1 this
        rw [←e]
        exact hco y hy
     have hout:∀x∈p.ds.take f,(x.taken&&decide (x.k∈ops.map Op.k))=false:=fun x hx=>by
      rw [Bool.and_eq_false_iff]
      right
      rw [decide_eq_false_iff_not]
      intro hm
      obtain ⟨op,hop,e⟩:=List.mem_map.1 hm
      exact (hlook.new op hop).1 (by rw [e];exact List.mem_map.2 ⟨x,List.mem_of_mem_take hx,rfl⟩)
     refine zbq m3 rfl (fun _ _ h=>h) ⟨fun h=>absurd hlk h,fun _=>⟨L3,_,_,hL3,hL4,rfl,hM3,hgood,⟨?_,rfl,rfl,rfl, ?_,fun hall=> ?_, ?_⟩⟩⟩
     ·simp only [List.map_append,hrs]
      have:=zux (ds:=p.ds) (cs:=cs) (news:=news) (by rw [hf];exact hpc) hpn
      rw [hf,List.map_append]at this
      exact this
     ·simp only;omega
     ·have:f=p.ds.length:=by rw [←hf];exact zwV fun op hop=>hall op (hpn.mem_iff.1 hop)
      simp only [hol]
      omega
     ·simp only [List.filter_append]
      have e0:(p.ds.take f).filter (fun d=>d.taken&&decide (d.k∈ops.map Op.k))=[]:=List.filter_eq_nil_iff.2 (fun x hx=>by rw [hout x hx];simp)
      rw [e0,List.nil_append]
 rw [hov]at hS3 ⊢
 simp (maxSteps:=2000000) only [List.length_map,zu,zi,zm,zeS,zq,zf,zc,zb,zh,ze,za,zbI,zeG,zj,ev,look,zd,zg,zk,zaF,zdh,zO,zP,Value.oneCell',cond_true,Nat.reduceEqDiff,↓reduceIte,reduceCtorEq,List.nil_append,Nat.zero_add,Nat.add_zero,Bool.true_and,true_and,Int.reduceToNat,Int.reduceLE,decide_eq_true_eq,decide_eq_false_iff_not,zax,zn,List.length_map,zag,zcb,zbL,zdY]
 refine ⟨fun h=>⟨by omega, ?_⟩,fun h=> ?_⟩
 ·obtain ⟨op,l,rfl⟩:∃op l,news=op::l:=by
   cases news with
   |nil=>simp at h
   |cons op l=>exact ⟨op,l,rfl⟩
  refine ⟨zJ _ hS3 rfl ?_,zJ _ hS3 rfl ?_⟩
  all_goals
   simp (maxSteps:=2000000) only [List.getD_cons_zero,zb,zh,ze,za,zbI,zj,ev,look,zd,zdh,Nat.reduceEqDiff,↓reduceIte,Bool.true_and,true_and,List.map_cons,List.length_cons,zn,List.length_map,zag,zbL]
   refine zaM _ [.s (.int .i64 (zno p.ds op.k)), .s (.bool (zgM p.ds op.k))] rfl rfl (fun w' vs hv _ _ hm=> ?_) ?_
   ·obtain ⟨vs,rfl,_,hv⟩:=zt hv
    obtain ⟨vs,rfl,_,hv⟩:=zt hv
    obtain ⟨vs,rfl,_,hv⟩:=zt hv
    obtain rfl:=zr hv
    rw [←hov2]
    exact znM w' ov p.ds m hm hSo hof op.stamp (by omega) hg.ris
   simp (maxSteps:=2000000) only [zK,List.getElem?_cons_succ,List.getElem?_cons_zero,zf,zc,zb,zh,ze,za,zdn,zbI,zj,ev,look,zd,zg,zk,Nat.reduceEqDiff,↓reduceIte,reduceCtorEq]
   exact tail _ (zR (by simp [zaf,look,zeE]) (by simp [zam,look]) rfl rfl rfl)
 ·obtain rfl:news=[]:=by
   cases news with
   |nil=>rfl
   |cons op l=>simp at h
  exact tail _ (zR (by simp [zaf,look,zeE]) (by simp [zam,look]) rfl rfl rfl)
end Go.Proofs.YtmjiojflncffeaaGreat.Vc

set_option linter.unusedVariables false
set_option linter.unusedSimpArgs false
set_option maxRecDepth 100000
namespace Go.Proofs.YtmjiojflncffeaaGreat.Vc
open Go Go.Proofs
theorem zAt {b:ByteArray} (h:zcW b=true):b.size≤255:=by
 have:=zsg h
 simpa using this
theorem zzw {T:PT} {k:Nat} (hok:T.ok k) (hg:VGood T.view):(zae T).length≤k+2∧(∀r∈zae T,r.attrs.length≤k+2)∧(∀r∈zae T,r.name.size≤140737488355328)∧∀r∈zae T,(Lit.int .i64 r.node).wf=true:=by
 refine ⟨Nat.le_trans (zhn T) hok.many,fun r hr=>by have:=zhk hok hr;omega,fun r hr=> ?_,fun r hr=> ?_⟩
 ·obtain ⟨n,_,x,hx,rfl⟩:=zgk hr
  show x.name.size≤_
  cases ht:zbc n with
  |true=>
   have:x.name=⟨#[]⟩:=(hg.top n _ (PT.view_get hx) ht).2
   rw [this];decide
  |false=>
   have:zcW x.name=true:=hg.name n _ (PT.view_get hx) ht
   have:=zAt this
   omega
 ·obtain ⟨n,_,x,hx,rfl⟩:=zgk hr
  exact hok.keys n x hx
section
variable {w:World} {u:PH} {b:Nat} {L Lb:Lay} {p:PL} {kb q:Nat}
theorem zxl (hu:u.le w) {T:PT} {k:Nat} (hT:TM u L T) (hok:T.ok k) (hk:k≤1099511627776):Spec Tryz.prog zgX [ptr (L .t)] PH.no w fun rs m'=>∃v ts,rs=[.s v]∧SlR m' v 4 (ts.map zl)∧TsOk m' ts (zae T):=
 zww w u hu L T hT (zAK hok hk)
theorem zyM (hu:u.le w) {T:PT} {k:Nat} (hT:TM u L T) (hok:T.ok k) (hg:VGood T.view) (hk:k+4<1099511627776):
  Spec Tryz.prog ztl [ptr (L .t)] PH.no w fun rs m'=>∃L' T',rs=[.s (ptr (L' .t))]∧TM m' L' T'∧T'.ok (k+2)∧VGood T'.view∧T'.kidsOk∧T'.view=T.view:=by
 refine zbb zsZ [.g (.s (ptr (L .t)))] (by simp) (by simp [AV.ok,GV.ok,Value.oneCell',ptr]) ?_
 simp (maxSteps:=2000000) only [zmk,ptr,zi,zm,zf,zc,zb,zh,ze,za,zj,ev,look,zd,zg,zk,Value.oneCell',cond_true,↓reduceIte,reduceCtorEq,zak,zaK,ptr]
 refine zbV rfl rfl (Q:=fun rs m'=>∃v ts,rs=[.s v]∧SlR m' v 4 (ts.map zl)∧TsOk m' ts (zae T)) (fun w' vs hv hw _ _=> ?_) fun rs m2 _ hq=> ?_
 ·obtain ⟨vs,rfl,_,hv⟩:=zt hv
  obtain rfl:=zr hv
  exact zxl (fun b o h=>hw b o (by rw [zbr];exact hu b o h)) hT hok (by omega)
 obtain ⟨v,ts,rfl,hs,hts⟩:=hq
 simp (maxSteps:=2000000) only [zK,za,zj,zd]
 obtain ⟨hfr,hfv⟩:=zye hok hg
 obtain ⟨b1,b2,b3,b4⟩:=zzw hok hg
 refine zaJ rfl rfl (Q:=fun rs m'=>∃L' T',rs=[.s (ptr (L' .t)), .s (.int .i64 0)]∧TM m' L' T'∧T'.ok (k+2)∧VGood T'.view∧T'.kidsOk∧T'.view=T.view) (fun w' vs hv _ hph _=> ?_) fun rs m3 _ hq _=> ?_
 ·obtain ⟨vs,rfl,_,hv⟩:=zt hv
  obtain rfl:=zr hv
  refine (zze w' v ts (zae T) m2 (hph m2 (by simp)) hs hts (k+2) (by omega) b1 b2 b3 b4).mono fun rs m' h=> ?_
  obtain ⟨L',T',e1,e2,e3,e4,e5,e6⟩:=h.1 hfr
  exact ⟨L',T',e1,e2,e3,e4,e5,e6.trans hfv⟩
 obtain ⟨L',T',rfl,h1,h2,h3,h4,h5⟩:=hq
 simp (maxSteps:=2000000) only [zK,List.getElem?_cons_succ,List.getElem?_cons_zero,zx,zi,zm,zf,zc,zab,zb,zh,ze,za,zj,ev,look,zd,zg,zk,Nat.reduceEqDiff,↓reduceIte,ptr]
 exact zbq m3 rfl (by rw [zaz];exact fun _ _ h=>h) ⟨L',T',rfl,h1,h2,h3,h4,h5⟩
theorem zlt (hu:u.le w) (hL:LogM u b L Lb p) {mk:Value} (hg:p.good mk kb q) (hq:q+4<1099511627776):
  Spec Tryz.prog znD [ptr b] PH.no w fun rs m'=>∃L' T',rs=[.s (ptr (L' .t))]∧TM m' L' T'∧T'.ok (q+2)∧VGood T'.view∧T'.kidsOk∧T'.view=p.T.view:=by
 refine zbb zmL [.g (.s (ptr b))] (by simp) (by simp [AV.ok,GV.ok,Value.oneCell',ptr]) ?_
 obtain ⟨ov,mT,mB,hS,⟨hT1,hT2⟩,hB,hs⟩:=hL.look
 simp (maxSteps:=2000000) only [zhO,ptr,zi,zm,zf,zc,zb,zh,ze,za,zj,ev,look,zd,zg,zk,Value.oneCell',cond_true,↓reduceIte,reduceCtorEq,zak,zaK,ptr]
 have hu':∀{w':World},(Ctx.u0 ⟨Tryz.prog,11,w,PH.no⟩).le w'→u.le w':=fun hw b o h=>hw b o (by rw [zbr];exact hu b o h)
 refine zaM _ [.s (.bool false)] rfl rfl (fun w' vs hv hw _ _=> ?_) ?_
 ·obtain ⟨vs,rfl,_,hv⟩:=zt hv
  obtain rfl:=zr hv
  exact zcG (hu' hw) hL
 simp (maxSteps:=2000000) only [zK,zu,zi,zm,zq,zf,zc,zb,zh,ze,za,zj,ev,look,zd,zg,zk,↓reduceIte,reduceCtorEq,Nat.add_zero,↓zN]
 refine zJ _ (hs (zdy hu)).1 rfl ?_
 simp (maxSteps:=2000000) only [ptr,za,zj,zd,ptr]
 refine zaJ rfl rfl (Q:=fun rs m'=>∃L' T',rs=[.s (ptr (L' .t))]∧TM m' L' T'∧T'.ok (q+2)∧VGood T'.view∧T'.kidsOk∧T'.view=p.T.view) (fun w' vs hv hw _ _=> ?_) fun rs m3 _ hq _=> ?_
 ·obtain ⟨vs,rfl,_,hv⟩:=zt hv
  obtain rfl:=zr hv
  exact zyM (u:=mT) (fun b o h=>hu' hw b o (hT1 b o h)) hT2 hg.tok hg.tgood hq
 obtain ⟨L',T',rfl,h1,h2⟩:=hq
 simp (maxSteps:=2000000) only [zK,zx,zf,zc,zab,zb,ze,za,zj,ev,look,zd,zg,zk,↓reduceIte,ptr]
 exact zbq m3 rfl (by rw [zaz];exact fun _ _ h=>h) ⟨L',T',rfl,h1,h2⟩
theorem ziB (hu:u.le w) (hL:LogM u b L Lb p) {mk:Value} (hg:p.good mk kb q) (hq:q≤1099511627776):
  Spec Tryz.prog zmI [ptr b] PH.no w fun rs m'=>∃v ts,rs=[.s v]∧SlR m' v 4 (ts.map zl)∧TsOk m' ts (zae p.B):=by
 refine zbb znf [.g (.s (ptr b))] (by simp) (by simp [AV.ok,GV.ok,Value.oneCell',ptr]) ?_
 obtain ⟨ov,mT,mB,hS,hT,⟨hB1,hB2⟩,hs⟩:=hL.look
 simp (maxSteps:=2000000) only [zhz,ptr,zi,zm,zf,zc,zb,zh,ze,za,zj,ev,look,zd,zg,zk,Value.oneCell',cond_true,↓reduceIte,reduceCtorEq,zak,zaK,ptr]
 have hu':∀{w':World},(Ctx.u0 ⟨Tryz.prog,10,w,PH.no⟩).le w'→u.le w':=fun hw b o h=>hw b o (by rw [zbr];exact hu b o h)
 refine zaM _ [.s (.bool false)] rfl rfl (fun w' vs hv hw _ _=> ?_) ?_
 ·obtain ⟨vs,rfl,_,hv⟩:=zt hv
  obtain rfl:=zr hv
  exact zcG (hu' hw) hL
 simp (maxSteps:=2000000) only [zK,zu,zi,zm,zq,zf,zc,zb,zh,ze,za,zj,ev,look,zd,zg,zk,↓reduceIte,reduceCtorEq,Nat.zero_add,↓zN]
 refine zJ _ (hs (zdy hu)).2.1 rfl ?_
 simp (maxSteps:=2000000) only [ptr,za,zj,zd,ptr]
 refine zaJ rfl rfl (Q:=fun rs m'=>∃v ts,rs=[.s v]∧SlR m' v 4 (ts.map zl)∧TsOk m' ts (zae p.B)) (fun w' vs hv hw _ _=> ?_) fun rs m3 _ hq _=> ?_
 ·obtain ⟨vs,rfl,_,hv⟩:=zt hv
  obtain rfl:=zr hv
  exact zxl (u:=mB) (fun b o h=>hu' hw b o (hB1 b o h)) hB2 hg.bok (by have:=hg.many;omega)
 obtain ⟨v,ts,rfl,h1,h2⟩:=hq
 simp (maxSteps:=2000000) only [zK,zx,zf,zc,zab,zb,ze,za,zj,ev,look,zd,zg,zk,↓reduceIte]
 exact zbq m3 rfl (by rw [zaz];exact fun _ _ h=>h) ⟨v,ts,rfl,h1,h2⟩
theorem zwj (hu:u.le w) (hL:LogM u b L Lb p) {mk:Value} (hg:p.good mk kb q) (hq:q≤1099511627776) (op:Op) (hop:OpIn op):
  Spec Tryz.prog zmw [ptr b,(gOp op).val] PH.no w fun rs _=>rs=[.s (.bool (decide (zaO op=0)&&zaL p.T op)), .s (.int .i64 (zaO op))]:=by
 refine zbE zlZ (Qf:=fun rs=>rs=[.s (.bool (decide (zaO op=0)&&zaL p.T op)), .s (.int .i64 (zaO op))]) [.g (.s (ptr b)), .g (gOp op)] (by simp) (by simp [AV.ok,GV.ok,Value.oneCell',ptr,zcS]) ?_
 obtain ⟨ov,mT,mB,hS,⟨hT1,hT2⟩,hB,hs⟩:=hL.look
 simp (maxSteps:=2000000) only [zha,ptr,zi,zm,zf,zc,zb,zh,ze,za,zj,ev,look,zZ,zd,zg,zk,Value.oneCell',cond_true,Nat.reduceEqDiff,↓reduceIte,reduceCtorEq,Nat.zero_add,Bool.true_and,true_and,zak,zaK,ptr]
 have hu':∀{w':World},(Ctx.u0 ⟨Tryz.prog,21,w,PH.no⟩).le w'→u.le w':=fun hw b o h=>hw b o (by rw [zbr];exact hu b o h)
 refine zaM _ [.s (.bool false)] rfl rfl (fun w' vs hv hw _ _=> ?_) ?_
 ·obtain ⟨vs,rfl,_,hv⟩:=zt hv
  obtain rfl:=zr hv
  exact zcG (hu' hw) hL
 simp (maxSteps:=2000000) only [zK,zu,zi,zm,zq,zf,zc,zb,zh,ze,za,zj,ev,look,zd,zg,zk,Nat.reduceEqDiff,↓reduceIte,reduceCtorEq,Bool.true_and,true_and,↓zN,zn,zbp]
 refine zac (zpH op hop) rfl rfl rfl fun _=> ?_
 by_cases hc:zaO op=0
 case neg=>
  simp (maxSteps:=2000000) only [zK,bne_iff_ne.2 hc,zx,zi,zm,zq,zf,zp,zc,zb,zh,ze,za,zj,ev,look,zd,zg,zk,zO,zP,Value.oneCell',cond_true,Nat.reduceEqDiff,↓reduceIte,reduceCtorEq,Bool.true_and,true_and,zD,zal,zC,↓zL]
  rw [decide_eq_false hc];rfl
 simp (maxSteps:=2000000) only [zK,hc,Int.reduceBNe,zu,zi,zm,zbh,zq,zf,zc,zb,zh,ze,za,zaq,zw,zX,zj,zaD,ev,look,zd,zg,zk,zO,zP,Value.oneCell',cond_true,Nat.reduceEqDiff,↓reduceIte,reduceCtorEq,Nat.add_zero,Bool.true_and,decide_true,true_and,↓zN]
 refine zJ _ (hs (zdy hu)).1 rfl ?_
 simp (maxSteps:=2000000) only [ptr,zh,za,zM,zU,zw,zX,zj,zaD,ev,look,zd,Nat.reduceEqDiff,↓reduceIte,reduceCtorEq,Bool.true_and,true_and,zn,zbp,ptr]
 refine zaM _ [.s (.bool (zaL p.T op))] rfl rfl (fun w' vs hv hw _ _=> ?_) ?_
 ·obtain ⟨vs,rfl,_,hv⟩:=zt hv
  obtain ⟨vs,rfl,_,hv⟩:=zt hv
  obtain rfl:=zr hv
  exact ztK (u:=mT) (fun b o h=>hu' hw b o (hT1 b o h)) hT2 op (by have:=hg.tok.many;omega) hop.name
 simp (maxSteps:=2000000) only [zK,zx,zf,zc,zb,ze,za,zj,ev,look,zd,zg,zk,Value.oneCell',cond_true,Nat.reduceEqDiff,↓reduceIte,zD,zal,zC]
end
end Go.Proofs.YtmjiojflncffeaaGreat.Vc

