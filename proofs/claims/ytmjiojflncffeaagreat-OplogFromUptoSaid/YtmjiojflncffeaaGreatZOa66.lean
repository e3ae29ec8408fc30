/- OplogFrom: where what is read is of bulk at most the row's bound, the law answers true and leaves its arguments as they were. -/
import Derived.Test.YtmjiojflncffeaaGreatProg
import Derived.RangeFuncKeeps
import Derived.Shelf.Abstract
import Derived.Sort.LoopGhostIn
import Derived.OrdersIn
import Derived.RangeFuncCalls
import Derived.Shelf.SlLaysW
import Derived.Ground.SlmcProg
import Derived.Shelf.SlMaps.Clone
import Derived.Test.YtmjiojflncffeaaGreatZOa65
set_option linter.unusedVariables false
set_option linter.unusedSimpArgs false
set_option maxRecDepth 100000
namespace Go.Proofs.YtmjiojflncffeaaGreat.Vc
open Go Go.Proofs
theorem zAx (n:Int):FnV Tryz.prog zrn [.s (.int .i64 n)] [.s (.bool (decide (0≤n∧n≤1099511627776)))]:=by
 refine zbu zrx (by simp) (by simp [GV.ok,Value.oneCell']) fun w=> ?_
 simp (maxSteps:=2000000) only [zkD,zt,zi,zm,zf,zc,zb,zh,zH,zd,za,zj,RO.isGh,zI,zan,ev,look,ze,zg,zk,zN,zO,Value.oneCell',cond_true,cond_false,Nat.reduceEqDiff,↓reduceIte,reduceCtorEq,Bool.true_and,Bool.not_true,true_and,zah,List.map_cons,List.map_nil,zG,zao,zD,decide_eq_true_eq,decide_eq_false_iff_not,↓zL,↓zM,zav]
 refine ⟨fun h=> ?_,fun h=> ?_⟩
 ·rw [show decide (n≤1099511627776)=decide (0≤n∧n≤1099511627776) from decide_eq_decide.2 ⟨fun h2=>⟨h,h2⟩,fun h2=>h2.2⟩]
 ·rw [decide_eq_false (fun h2=>h h2.1)]
def zxu (l:List TN) (bv:Value) (f:Int) (ops:List Op) (rs:List GV) (m':PH):Prop:=
 (¬(0≤f∧f≤1099511627776)→rs=[.s (.pointer none), .s (.int .i64 1)])∧
 ((0≤f∧f≤1099511627776)→(¬zcF l→rs=[.s (.pointer none), .s (.int .i64 121)])∧
  (zcF l→(zbp [] f [] ops≠0→rs=[.s (.pointer none), .s (.int .i64 (zbp [] f [] ops))])∧(zbp [] f [] ops=0→∃b,rs=[.s (ptr b), .s (.int .i64 0)]∧RLog m' b bv f (zez [] ops))))
theorem ztr (w:World) (bv:Value) (f:Int) (v:Value) (ops:List Op) (hops:zpQ ops) (hS:SlR w.ph v 8 (ops.map gOp)) (hl:ops.length≤1048576)
  (ts:List TreeNode) (l:List TN) (hb:RowsIn w.ph bv ts l 1048576) (hB:zcF l→∃B:PT,B.ok 1048576∧VGood B.view∧B.view=zcE l):
  Spec Tryz.prog zmr [bv, .int .i64 f,v] PH.no w (zxu l bv f ops):=by
 have hbv:bv.oneCell'=true:=hb.rows.one
 refine zaT ztK [.g (.s bv), .g (.s (.int .i64 f)), .ro v 8 (gOp zOp) (ops.map gOp)] (by simp) (fun x hx=>by
  simp only [List.mem_cons,List.not_mem_nil,or_false]at hx
  rcases hx with rfl|rfl|rfl
  ·exact hbv
  ·rfl
  ·rw [zaL];exact hS) ?_
 simp (maxSteps:=2000000) only [zmh,zi,zm,zf,zc,zb,zh,zd,za,zj,ev,look,ze,zg,zk,Value.oneCell',cond_true,Nat.reduceEqDiff,Nat.reduceAdd,↓reduceIte,reduceCtorEq,Nat.zero_add,zah,zaH,Int.reduceAdd,List.length_map]
 refine zad (zAx f) rfl rfl rfl fun _=> ?_
 simp (maxSteps:=2000000) only [zJ,zu,zt,zi,zm,zp,zf,zq,zc,zV,zb,zh,zd,za,zj,ev,look,ze,zg,zk,unV,Value.oneCell',cond_true,Nat.reduceEqDiff,↓reduceIte,reduceCtorEq,zav]
 by_cases hf:0≤f∧f≤1099511627776
 case neg=>
  simp (maxSteps:=2000000) only [hf,Bool.and_true,Bool.not_false,decide_false,and_true,true_imp_iff,false_imp_iff,Bool.true_eq_false]
  exact zcb (rs:=[.s (.pointer none), .s (.int .i64 1)]) rfl ⟨fun _=>rfl,fun h=>absurd h hf⟩
 simp (maxSteps:=2000000) only [hf,Bool.and_true,Bool.true_and,Bool.not_true,decide_true,true_and,and_true,true_imp_iff,false_imp_iff,Bool.false_eq_true]
 by_cases hA:zcF l
 case neg=>
  refine zbR _ [.s (.pointer none), .s (.bool false)] rfl rfl (fun w' vs hvv hw _=> ?_) ?_
  ·obtain ⟨vs,rfl,_,hvv⟩:=zs hvv
   obtain rfl:=zr hvv
   have hb':=hb.up (w:=w'.ph) fun b o h=>hw b o (by rw [zaL];exact h)
   exact (zih w' bv ts l w'.ph (fun _ _ h=>h) hb'.rows hb'.told (by have:=hb.few;omega) (fun r hr=>by have:=hb.attrs r hr;omega) hb.size hb.name).mono fun rs m' h=>h.2 hA
  simp (maxSteps:=2000000) only [zJ,List.getElem?_cons_zero,List.getElem?_cons_succ,zt,zi,zm,zp,zf,zq,zc,zV,zb,zh,zd,za,zj,ev,look,ze,zg,zk,unV,Value.oneCell',cond_true,Nat.reduceEqDiff,↓reduceIte,reduceCtorEq,Bool.not_false,↓zL]
  exact zcb (rs:=[.s (.pointer none), .s (.int .i64 121)]) rfl ⟨fun h=>absurd hf h,fun _=>⟨fun _=>rfl,fun h=>absurd h hA⟩⟩
 obtain ⟨B,hB1,hB2,hB3⟩:=hB hA
 refine zbK rfl rfl (Q:=fun rs m'=>∃b,rs=[.s (ptr b), .s (.bool true)]∧RC m' b (zds l) []) (fun w' vs hvv hw _ _=> ?_) fun rs mt _ hq=> ?_
 ·obtain ⟨vs,rfl,_,hvv⟩:=zs hvv
  obtain rfl:=zr hvv
  have hb':=hb.up (w:=w'.ph) fun b o h=>hw b o (by rw [zaL];exact h)
  exact (zih w' bv ts l w'.ph (fun _ _ h=>h) hb'.rows hb'.told (by have:=hb.few;omega) (fun r hr=>by have:=hb.attrs r hr;omega) hb.size hb.name).mono fun rs m' h=>h.1 hA
 obtain ⟨bt,rfl,_⟩:=hq
 simp (maxSteps:=2000000) only [zJ,List.getElem?_cons_zero,List.getElem?_cons_succ,zu,zi,zm,zp,zf,zc,zb,zh,zd,za,zj,ev,evL,gvL,look,zab,ze,zg,zk,unV,GV.getT,GV.same,GV.setT,Nat.reduceEqDiff,↓reduceIte,reduceCtorEq,Bool.and_true,Bool.true_and,Bool.not_true,true_and,and_true,List.map_cons,List.map_nil,Option.map_some,↓zM,GV.bldT,GV.bldC,zcJ,ptr]
 refine ⟨⟨rfl,rfl⟩, ?_⟩
 refine zbI 27 27 rfl rfl fun v27 u27 _ hp27 hd27=> ?_
 obtain ⟨_,b,e,rfl,rfl⟩:=hp27
 simp (maxSteps:=2000000) only [dropK,zae,zi,zm,zf,zc,zb,zh,zd,za,zj,ev,look,ze,zg,zk,cond_true,cond_false,Nat.reduceEqDiff,Nat.reduceBEq,↓reduceIte,reduceCtorEq,BEq.rfl,zbv,SV.mentions]
 have hL:RLog (one b (.cells ((((GV.s bv).c ((GV.s (.int .i64 f)).c ((GV.s (.slice none 0 0)).c GV.u))):GV).flat.toArray) e (0,0))) b bv f (([]:List Done).map (·.op)):=
  ⟨.slice none 0 0,e,PH.no,(zae _).symm,⟨hbv,zdj _,⟨fun x hx=>(by cases hx),Or.inl ⟨rfl,rfl⟩⟩⟩⟩
 refine zlt _ PH.no rfl rfl (zae _).symm (zdj _) (Q:=zCE b bv f [] ops) (fun w' vs hvv h0 _ _=> ?_) fun rs m1 _ hq _=> ?_
 ·obtain ⟨vs,rfl,_,hvv⟩:=zuc hvv
  obtain ⟨v',vs,rfl,hs,hvv⟩:=znF (z:=8) (xs:=ops.map gOp) rfl (by simp) hvv
  obtain rfl:=zmT hvv
  exact zvz w' _ b bv f [] hL v' ops hops hs (by simpa using hl) (fun d hd=>by cases hd) ts l (hb.up fun b o h=>h0 b o (by rw [zaL];exact h)) hA B hB1 hB2 hB3
 by_cases he:zbp [] f [] ops=0
 ·obtain ⟨x,y,rfl,hL1⟩:=hq.2 he
  simp (maxSteps:=2000000) only [zJ,zae,List.getElem?_cons_zero,List.getElem?_cons_succ,Int.reduceBNe,zu,zt,zi,zm,zp,zf,zc,zV,zb,zh,zd,za,zj,ev,look,ze,zg,zk,zN,zO,Value.oneCell',cond_true,Nat.reduceEqDiff,↓reduceIte,Bool.true_and,true_and,↓zM]
  exact zbj (rs:=[.s (ptr b), .s (.int .i64 0)]) _ rfl (fun _ _ h=>h) ⟨fun h=>absurd hf h,fun _=>⟨fun h=>absurd hA h,fun _=>⟨fun h=>absurd he h,fun _=>⟨b,rfl,hL1⟩⟩⟩⟩
 ·obtain ⟨rfl,_⟩:=hq.1 he
  simp (maxSteps:=2000000) only [zJ,zae,List.getElem?_cons_zero,List.getElem?_cons_succ,bne_iff_ne.2 he,zt,zi,zm,zp,zf,zq,zc,zV,zb,zh,zd,za,zj,ev,look,ze,zg,zk,zN,zO,Value.oneCell',cond_true,Nat.reduceEqDiff,↓reduceIte,Bool.true_and,true_and,↓zL]
  exact zcb (rs:=[.s (.pointer none), .s (.int .i64 (zbp [] f [] ops))]) rfl ⟨fun h=>absurd hf h,fun _=>⟨fun h=>absurd hA h,fun _=>⟨fun _=>rfl,fun h=>absurd h he⟩⟩⟩
end Go.Proofs.YtmjiojflncffeaaGreat.Vc

set_option linter.unusedVariables false
set_option maxRecDepth 100000
namespace Go.Proofs.YtmjiojflncffeaaGreat.Vc
open Go Go.Proofs
end Go.Proofs.YtmjiojflncffeaaGreat.Vc

set_option linter.unusedVariables false
set_option linter.unusedSimpArgs false
set_option maxRecDepth 100000
namespace Go.Proofs.YtmjiojflncffeaaGreat.Vc
open Go Go.Proofs
def Top (p:PL) (s:Stamp):Prop:=∀d∈p.ds,¬ltK s.k d.k
theorem zui {op:Op} (h:zbc op=0):zlg op:=fun hw=>by
 rw [zex hw]at h;cases h
theorem zuq {op:Op} (h:zbc op=0):1≤op.stamp.time:=by
 have:=zui h
 unfold zlg at this
 have hc:zcS op.stamp:=Classical.byContradiction fun hn=>this (.inl hn)
 exact hc.1
structure Way1 (b:Nat) (m:PH) (L Lb:Lay) (p:PL) (s:Stamp) (i:Nat):Prop where
 M:LogM m b L Lb p
 good:p.good (ptr (L .mk)) 0 (tri p.ds.length)
 few:p.ds.length≤i
 fr:p.fr=0
 top:Top p s
end Go.Proofs.YtmjiojflncffeaaGreat.Vc

set_option linter.unusedVariables false
set_option maxRecDepth 100000
namespace Go.Proofs.YtmjiojflncffeaaGreat.Vc
open Go Go.Proofs
end Go.Proofs.YtmjiojflncffeaaGreat.Vc

set_option linter.unusedVariables false
set_option linter.unusedSimpArgs false
set_option maxRecDepth 100000
namespace Go.Proofs.YtmjiojflncffeaaGreat.Vc
open Go Go.Proofs
def Goods (l:List Op):Prop:=∀op∈l,(OpIn op∧zfW op)∧zbc op=0
structure Way2 (b:Nat) (m:PH) (L Lb:Lay) (p:PL) (l:List Op):Prop where
 M:LogM m b L Lb p
 good:p.good (ptr (L .mk)) 0 (tri p.ds.length)
 fr:p.fr=0
 B:p.B=T0
 perm:(p.ds.map (·.op)).Perm l
theorem Way2.len {b:Nat} {m:PH} {L Lb:Lay} {p:PL} {l:List Op} (h:Way2 b m L Lb p l):p.ds.length=l.length:=by
 have:=h.perm.length_eq
 simpa using this
theorem Way2.rising {b:Nat} {m:PH} {L Lb:Lay} {p:PL} {l:List Op} (h:Way2 b m L Lb p l):Rising ((p.ds.map (·.op)).map Op.k):=by
 rw [List.map_map];exact h.good.ris
theorem Way2.nod {b:Nat} {m:PH} {L Lb:Lay} {p:PL} {l:List Op} (h:Way2 b m L Lb p l):(l.map Op.k).Nodup:=by
 have h1:((p.ds.map (·.op)).map Op.k).Nodup:=h.rising.imp fun h e=>by rw [e]at h;exact zfb _ h
 exact (h.perm.map _).nodup_iff.1 h1
theorem Way2.same {b b':Nat} {m m':PH} {L Lb L' Lb':Lay} {p p':PL} {l l':List Op} (h:Way2 b m L Lb p l) (h':Way2 b' m' L' Lb' p' l') (hl:l.Perm l'):p.T.view=p'.T.view:=by
 have e:p.ds.map (·.op)=p'.ds.map (·.op):=Rising.uniq (h.perm.trans (hl.trans h'.perm.symm)) h.rising h'.rising
 rw [h.good.fl.view,h'.good.fl.view,e,h.B,h'.B]
theorem Way2.new {b:Nat} {m:PH} {L Lb:Lay} (h:LogM m b L Lb PL.new):Way2 b m L Lb PL.new []:=⟨h,(PL.new_good _).up (Nat.zero_le _),rfl,rfl,List.Perm.refl _⟩
theorem Way2.add {b:Nat} {m m1:PH} {L Lb L':Lay} {p p':PL} {l ops:List Op} {n:Int} (h:Way2 b m L Lb p l) (hM:LogM m1 b L' Lb p') (hL:L' .mk=L .mk) (hg:p'.good (ptr (L .mk)) 0 (tri p'.ds.length)) (hA:Added p ops p' n):Way2 b m1 L' Lb p' (l++ops):=
 ⟨hM,by rw [hL];exact hg,hA.fr.trans h.fr,hA.B.trans h.B,hA.perm.trans (h.perm.append_right _)⟩
theorem Way2.may {b:Nat} {m:PH} {L Lb:Lay} {p:PL} {l ops:List Op} (h:Way2 b m L Lb p l) (ho:Goods ops) (hn:((l++ops).map Op.k).Nodup):zbp p.ds p.fr [] ops=0:=by
 rw [List.map_append,List.nodup_append]at hn
 refine zuR ⟨fun op hop=>(ho op hop).2,fun op hop=>by rw [h.fr];have:=zuq (ho op hop).2;omega,fun op hop=>⟨fun hm=> ?_,List.not_mem_nil⟩,hn.2.1⟩
 obtain ⟨d,hd,e⟩:=List.mem_map.1 hm
 have:d.op∈l:=h.perm.mem_iff.1 (List.mem_map.2 ⟨d,hd,rfl⟩)
 exact hn.2.2 _ (List.mem_map.2 ⟨d.op,this,rfl⟩) _ (List.mem_map.2 ⟨op,hop,rfl⟩) e
end Go.Proofs.YtmjiojflncffeaaGreat.Vc

set_option linter.unusedVariables false
set_option linter.unusedSimpArgs false
set_option maxRecDepth 100000
namespace Go.Proofs.YtmjiojflncffeaaGreat.Vc
open Go Go.Proofs
end Go.Proofs.YtmjiojflncffeaaGreat.Vc

set_option linter.unusedVariables false
set_option linter.unusedSimpArgs false
namespace Go.Proofs.YtmjiojflncffeaaGreat.Vc
open Go Go.Shelf
theorem zls (w:World) (o:Obj):Kept PH.no w (w.alloc o):=by
 refine ⟨rfl,rfl,rfl,by rw [World.size_alloc];omega,fun k hk _=> ?_⟩
 show (w.heap.push o)[k]? =_
 rw [Array.getElem?_push_lt hk,Array.getElem?_eq_getElem hk]
theorem zwz {a b c:World} (h1:Kept PH.no a b) (h2:Kept PH.no b c):Kept PH.no a c:=by
 obtain ⟨k1,k2,k3,k4,k5⟩:=h1
 obtain ⟨q1,q2,q3,q4,q5⟩:=h2
 exact ⟨q1.trans k1,q2.trans k2,q3.trans k3,by omega,fun k hk hn=>(q5 k (by omega) hn).trans (k5 k hk hn)⟩
end Go.Proofs.YtmjiojflncffeaaGreat.Vc

set_option linter.unusedVariables false
set_option linter.unusedSimpArgs false
namespace Go.Proofs.YtmjiojflncffeaaGreat.Vc
open Go
def zhv (o:Oper):Bool:=match o.op with
 | .defer _=>false
 |_=>true
def zdc:Code→Bool
 | .skip=>true
 | .ret=>true
 | .exit _=>true
 | .label _=>true
 | .seq a b=>zdc a&&zdc b
 | .cond _ a b=>zdc a&&zdc b
 | .block _ a=>zdc a
 | .loop a=>zdc a
 | .region _ ops _=>ops.all zhv
 |_=>false
abbrev zio (ro:Option Nat):Fence:={Fence.wide with round:=ro}
theorem zjA (ro:Option Nat) (ρ:Operand→Value) (o:Oper) (h:∀c,o.op≠ .defer c):Oper.semAt ro ρ o=execOp ρ o:=by
 cases ro with
 |some l=>exact Oper.semAt_some l ρ o h
 |none=>rfl
theorem zxb {P:Program} {f:FuncId} {args:Array Value} {w:World} {R:Ending→World→Prop} (ro:Option Nat) (n:Nat):CallsIn (zio ro) n P f args w R↔Calls P f args w R:=by
 cases ro with
 |some l=>exact ⟨fun h=>callsIn_wide.1 (CallsIn.outOfRound (l:=l) (F:=Fence.wide) h),fun h=>CallsIn.inRound (F:=Fence.wide) l (callsIn_wide.2 h)⟩
 |none=>exact callsIn_wide
def zfO:Cd→Bool
 | .seq a b=>zfO a&&zfO b
 | .ite _ a b=>zfO a&&zfO b
 | .block _ a=>zfO a
 | .loop a=>zfO a
 | .scope a=>zfO a
 | .gh a=>zfO a
 | .raw _=>false
 | .rgq .. =>false
 |_=>true
def QOk (Q:QT):Prop:=∀σ,¬Q .outgrown σ
theorem zrU {P:Program} {ops:Array Oper} {Q:Exit→Act→World→Prop} (ro:Option Nat) (hQ:∀a w,¬Q .outgrown a w):∀(L:List Oper) (a:Act) (w:World),(∀o∈L,zhv o=true)→wpList P ops Q L a w→wpListIn (zio ro) 0 P ops Q L a w
 |[],a,w,_,h=>h
 |o::L,a,w,hp,h=>by
  have ih:=fun (a:Act) (w:World)=>zrU (P:=P) (ops:=ops) (Q:=Q) ro hQ L a w (fun o ho=>hp o (List.mem_cons_of_mem _ ho))
  have hno:∀c,o.op≠ .defer c:=fun c e=>by
   have:=hp o (by simp)
   rw [zhv,e]at this;cases this
  have hlet:¬LetsOut Q:=fun ⟨a,w,h⟩=>hQ a w h
  unfold wpList at h
  unfold wpListIn
  by_cases hw:Region.wanted o (yielded ops a.tmps)=true
  ·rw [if_pos hw]at h ⊢
   rcases h with h|⟨_,h⟩
   ·refine ⟨fun _ _=>trivial, ?_⟩
    have hsem:o.semAt ro a.eval=execOp a.eval o:=zjA ro _ o hno
    rw [hsem]
    unfold Oper.wp at h
    generalize (execOp a.eval o).run P w=r at h ⊢
    cases r with
    |ok x w'=>
     cases x with
     |value v=>exact ih _ _ h
     |skip=>exact ih _ _ h
     |defer d=>exact ih _ _ h
     |enter f args=>
      refine ⟨(fun h=>by cases h),((zxb ro _).2 h).mono fun e w2 he=> ?_⟩
      cases e with
      |returned v=>exact ih _ _ he
      |panicked ch=>exact he
      |outgrown=>exact he
     |row row args=>
      refine ⟨(fun h=>by cases h),fun c cs _=> ?_⟩
      obtain ⟨v,w2,h1,h2⟩:=h c cs
      exact ⟨v,w2,ih _ _ h1,stepsIn_wide.2 h2⟩
     |_=>exact h.elim
    |halt x w'=>
     cases x with
     |panic v=>exact h
     |_=>exact h.elim
   ·exact absurd h hlet
  ·rw [if_neg hw]at h ⊢
   exact ⟨fun _ _=>trivial,ih _ _ h⟩
theorem zyP {P:Program} {Q:Exit→Act→World→Prop} (ro:Option Nat) (hQ:∀a w,¬Q .outgrown a w) {o:Oper} {a:Act} {w:World} {K K':Act→World→Prop} (hp:zhv o=true) (hK:∀a w,K a w→K' a w) (h:o.wp P a w K Q∨(o.asks P a w∧LetsOut Q)):o.wpIn (zio ro) 0 P a w K' Q:=by
 have hno:∀c,o.op≠ .defer c:=fun c e=>by
  rw [zhv,e]at hp;cases hp
 have hlet:¬LetsOut Q:=fun ⟨a,w,h⟩=>hQ a w h
 rcases h with h|⟨_,h⟩
 ·refine ⟨fun _ _=>trivial, ?_⟩
  have hsem:o.semAt ro a.eval=execOp a.eval o:=zjA ro _ o hno
  rw [hsem]
  unfold Oper.wp at h
  generalize (execOp a.eval o).run P w=r at h ⊢
  cases r with
  |ok x w'=>
   cases x with
   |value v=>exact hK _ _ h
   |skip=>exact hK _ _ h
   |defer d=>exact hK _ _ h
   |enter f args=>
    refine ⟨(fun h=>by cases h),((zxb ro _).2 h).mono fun e w2 he=> ?_⟩
    cases e with
    |returned v=>exact hK _ _ he
    |panicked ch=>exact he
    |outgrown=>exact he
   |row row args=>
    refine ⟨(fun h=>by cases h),fun c cs _=> ?_⟩
    obtain ⟨v,w2,h1,h2⟩:=h c cs
    exact ⟨v,w2,hK _ _ h1,stepsIn_wide.2 h2⟩
   |_=>exact h.elim
  |halt x w'=>
   cases x with
   |panic v=>exact h
   |_=>exact h.elim
 ·exact absurd h hlet
theorem zqg {P:Program} {md:Region.Mode} {ops:Array Oper} {Q:Exit→Act→World→Prop} (ro:Option Nat) (hQ:∀a w,¬Q .outgrown a w) (hp:∀o∈ops,zhv o=true):∀(fuel:Nat) (listed:Array Bool) (a:Act) (w:World),wpAny P md ops Q fuel listed a w→wpAnyIn (zio ro) 0 P md ops Q fuel listed a w
 |0,_,_,_,h=>h
 |fuel+1,listed,a,w,h=>by
  refine ⟨h.1,fun i hi=> ?_⟩
  have h2:=h.2 i hi
  have ih:=zqg (P:=P) (md:=md) (Q:=Q) ro hQ hp fuel (listed.setIfInBounds i true)
  unfold wpOp at h2
  unfold wpOpIn
  cases ho:ops[i]? with
  |none=>rw [ho]at h2;exact ih _ _ h2
  |some o=>
   rw [ho]at h2
   simp only at h2 ⊢
   have hpo:=hp o (Array.mem_of_getElem? ho)
   split at h2
   ·rename_i hw
    rw [if_pos hw]
    exact zyP ro hQ hpo ih h2
   ·rename_i hw
    rw [if_neg hw]
    exact ⟨fun _ _=>trivial,ih _ _ h2⟩
section
variable {C:Ctx} {σ:SS} {a:Act} {w:World}
theorem QOk.lift {Q:QT} (h:QOk Q):∀a w,¬zlV C Q .outgrown a w:=fun a w ⟨σ,hq,_⟩=>h σ hq
theorem QOk.thenQ {Q:QT} {K:KT} (h:QOk Q):QOk (thenQ K Q):=fun σ q=>h σ q
theorem QOk.blockQ {Q:QT} {id:Nat} (h:QOk Q):QOk (blockQ id Q):=fun σ q=>h σ q
theorem QOk.loopQ {Q:QT} {ι:Type} {st:ι→SS} {inv:ι→Prop} {ms:ι→Nat} {i:ι} (h:QOk Q):QOk (loopQ st inv ms i Q):=fun σ q=>h σ q
theorem zeT (ns:List (Nat×Nat)) (ro:Option Nat):∀(cd:Cd) (code:Code) (Q:QT) (σ:SS) (a:Act) (w:World),comp C.P C.N ns code=er cd→zfO cd=true→zdc code=true→QOk Q→vc C cd Q σ→Rel C σ a w→code.wpIn (zio ro) 0 C.P (zlV C Q) a w:=by
 intro cd
 induction cd with
 |skip=>
  intro code Q σ a w hc hn hp hQk h hR
  cases code<;>simp only [comp,er]at hc<;>(try split at hc)<;>first|(cases hc;done)|(exact (zct hc (by intros;simp) (by intros;simp) (by intros;simp) (by intros;simp)).elim)|skip
  ·exact wpIn_skip ⟨σ,h,hR⟩
  ·exact wpIn_label ⟨σ,h,hR⟩
 |ret=>
  intro code Q σ a w hc hn hp hQk h hR
  cases code<;>simp only [comp,er]at hc<;>(try split at hc)<;>first|(cases hc;done)|(exact (zct hc (by intros;simp) (by intros;simp) (by intros;simp) (by intros;simp)).elim)|skip
  exact wpIn_ret ⟨σ,h,hR⟩
 |exit id=>
  intro code Q σ a w hc hn hp hQk h hR
  cases code<;>simp only [comp,er]at hc<;>(try split at hc)<;>first|(cases hc;done)|(exact (zct hc (by intros;simp) (by intros;simp) (by intros;simp) (by intros;simp)).elim)|skip
  cases hc
  exact wpIn_exit ⟨σ,h,hR⟩
 |seq x y ihx ihy=>
  intro code Q σ a w hc hn hp hQk h hR
  cases code<;>simp only [comp,er]at hc<;>(try split at hc)<;>first|(cases hc;done)|(exact (zct hc (by intros;simp) (by intros;simp) (by intros;simp) (by intros;simp)).elim)|skip
  rename_i x' y'
  simp only [Cd.seq.injEq]at hc
  refine wpIn_seq (wpIn_mono (ihx x' _ σ a w hc.1 (by simp only [zfO,Bool.and_eq_true]at hn;exact hn.1) (by simp only [zdc,Bool.and_eq_true]at hp;exact hp.1) hQk.thenQ h hR) fun e a' w' hq=> ?_)
  obtain ⟨σ',hq,hR'⟩:=hq
  cases e with
  |normal=>exact ihy y' Q σ' a' w' hc.2 (by simp only [zfO,Bool.and_eq_true]at hn;exact hn.2) (by simp only [zdc,Bool.and_eq_true]at hp;exact hp.2) hQk hq hR'
  |_=>exact ⟨σ',hq,hR'⟩
 |ite c x y ihx ihy=>
  intro code Q σ a w hc hn hp hQk h hR
  cases code<;>simp only [comp,er]at hc<;>(try split at hc)<;>first|(cases hc;done)|(exact (zct hc (by intros;simp) (by intros;simp) (by intros;simp) (by intros;simp)).elim)|skip
  rename_i c' x' y' _ c2 hc2
  simp only [Cd.ite.injEq]at hc
  obtain ⟨rfl,h1,h2⟩:=hc
  simp only [vc,brB]at h
  split at h
  ·rename_i t ht
   have hF:=hR.choose_spec.1
   have hv:=(hF.ev rfl ht).s
   refine wpIn_cond_split (t:=t) (by rw [zw hc2 a];exact hv) (fun e=>ihx x' Q σ a w h1 (by simp only [zfO,Bool.and_eq_true]at hn;exact hn.1) (by simp only [zdc,Bool.and_eq_true]at hp;exact hp.1) hQk (h.1 e) hR) (fun e=>ihy y' Q σ a w h2 (by simp only [zfO,Bool.and_eq_true]at hn;exact hn.2) (by simp only [zdc,Bool.and_eq_true]at hp;exact hp.2) hQk (h.2 e) hR)
  ·exact h.elim
 |block id x ih=>
  intro code Q σ a w hc hn hp hQk h hR
  cases code<;>simp only [comp,er]at hc<;>(try split at hc)<;>first|(cases hc;done)|(exact (zct hc (by intros;simp) (by intros;simp) (by intros;simp) (by intros;simp)).elim)|skip
  rename_i id' x'
  simp only [Cd.block.injEq]at hc
  obtain ⟨rfl,h1⟩:=hc
  refine wpIn_block (wpIn_mono (ih x' _ σ a w h1 hn hp hQk.blockQ h hR) fun e a' w' hq=> ?_)
  obtain ⟨σ',hq,hR'⟩:=hq
  cases e with
  |exit j=>
   simp only [blockQ]at hq
   simp only [Exit.inBlock]
   split
   ·rename_i e;rw [if_pos e]at hq;exact ⟨σ',hq,hR'⟩
   ·rename_i e;rw [if_neg e]at hq;exact ⟨σ',hq,hR'⟩
  |_=>exact ⟨σ',hq,hR'⟩
 |loop x ih=>
  intro code Q σ a w hc hn hp hQk h hR
  cases code<;>simp only [comp,er]at hc<;>(try split at hc)<;>first|(cases hc;done)|(exact (zct hc (by intros;simp) (by intros;simp) (by intros;simp) (by intros;simp)).elim)|skip
  rename_i x'
  simp only [Cd.loop.injEq]at hc
  obtain ⟨ι,st,inv,ms,i0,hi0,hge,hstep⟩:=h
  refine wpIn_loop_ghost (fun n a w=>∃i,inv i∧ms i=n∧Rel C (st i) a w) (ms i0) ⟨i0,hi0,rfl,hge.rel hR⟩ fun n a w hI=> ?_
  obtain ⟨i,hi,rfl,hRi⟩:=hI
  refine wpIn_mono (ih x' _ (st i) a w hc hn hp hQk.loopQ (hstep i hi) hRi) fun e a' w' hq=> ?_
  obtain ⟨σ',hq,hR'⟩:=hq
  cases e with
  |normal=>
   obtain ⟨j,hj,hlt,hge'⟩:=hq
   exact ⟨ms j,hlt,j,hj,rfl,hge'.rel hR'⟩
  |_=>exact ⟨σ',hq,hR'⟩
 |scope x ih=>
  intro code Q σ a w hc hn hp hQk h hR
  cases code<;>simp only [comp,er]at hc<;>(try split at hc)<;>first|(cases hc;done)|(exact (zct hc (by intros;simp) (by intros;simp) (by intros;simp) (by intros;simp)).elim)|skip
  cases hp
 |rg segs keep=>
  intro code Q σ a w hc hn hp hQk h hR
  cases code<;>simp only [comp,er]at hc<;>(try split at hc)<;>first|(cases hc;done)|skip
  rename_i id ops draw
  rcases zdA C.P C.N ns id ops draw with ⟨rfl,hd,hg,e⟩|⟨n,_,_,_,_,_,e⟩|⟨_,_,_,_,_,e⟩|⟨_,_,_,_,_,_,e⟩|e
  rotate_left
  ·rw [e]at hc;cases hc
  ·rw [e]at hc;cases hc
  ·rw [e]at hc;cases hc
  ·rw [e]at hc;cases hc
  rw [e]at hc
  simp only [Cd.rg.injEq,and_true]at hc
  simp only [Array.all_eq_true_iff_forall_mem]at hd hg
  refine wpIn_region_list ?_
  have:=zdf (C:=C) (ops:=ops) (K:=zgN keep Q) (Q:=zlV C Q) (fun σ' a' w' hK hR'=>⟨σ'.keep keep,hK,hR'.keep keep⟩) segs (grp ops ops.toList) σ a w hc (fun x hx o ho=>by
   obtain ⟨h1,h2⟩:=zlB ops ops.toList x hx o ho
   exact ⟨h1,hd o (by simpa using h2),hg o (by simpa using h2)⟩) hR h
  rw [zgt]at this
  simp only [zdc,Array.all_eq_true_iff_forall_mem]at hp
  exact zrU ro hQk.lift _ _ _ (fun o ho=>hp o (by simpa using ho)) this
 |rgq hd' tl keep=>
  intro code Q σ a w hc hn hp hQk h hR
  cases hn
 |rga t keep=>
  intro code Q σ a w hc hn hp hQk h hR
  cases code<;>simp only [comp,er]at hc<;>(try split at hc)<;>first|(cases hc;done)|skip
  rename_i id ops draw
  rcases zdA C.P C.N ns id ops draw with ⟨_,_,_,e⟩|⟨n,_,_,_,_,_,e⟩|⟨rfl,hd,hg,hmix,hns,e⟩|⟨rfl,hd,hg,hmix,hns,hts,e⟩|e
  ·rw [e]at hc;cases hc
  ·rw [e]at hc;cases hc
  ·rw [e]at hc
   simp only [Cd.rga.injEq,and_true]at hc
   simp only [zdc,Array.all_eq_true_iff_forall_mem]at hd hg hp
   obtain ⟨loc,hF,hH⟩:=hR
   exact wpIn_region_any hmix (zqg ro hQk.lift hp _ _ _ _ (zek (D:=zbB C (zgN keep Q)) (fun a' w' ⟨τ,hK,hR'⟩=>⟨τ.keep keep,hK,hR'.keep keep⟩) _ _ _ _ (zvK hns hd hg _ _ t σ a _ hc h ⟨loc,hF,hH.drew⟩)))
  ·rw [e]at hc
   simp only [Cd.rga.injEq,and_true]at hc
   simp only [zdc,Array.all_eq_true_iff_forall_mem]at hd hg hts hp
   obtain ⟨t1,σ1,e1,hn,h,hR⟩:=zgU t σ h hR
   obtain ⟨u,σ0,hu,hh,h,hM⟩:=zpY (e1.trans hc.symm) hn h
   obtain ⟨loc,hF,hH⟩:=hR
   have hR':Rel C σ1 a {w with drawn:=w.drawn+1}:=⟨loc,hF,hH.drew⟩
   have hts':∀o∈ops,∀t∈zlb C.P ops,o.dst≠some t:=fun o ho t ht=>by
    have h1:=hts o ho
    simp only [List.all_eq_true,bne_iff_ne,ne_eq]at h1
    exact h1 t ht
   exact wpIn_region_any hmix (zqg ro hQk.lift hp _ _ _ _ (zek (D:=zbB C (zgN keep Q)) (fun a' w' ⟨τ,hK,hR'⟩=>⟨τ.keep keep,hK,hR'.keep keep⟩) _ _ _ _ (zjp _ _ _ _
    (zsk hns hd hg hts' _ _ u σ1 a _ hu.symm h hh (fun _ _=>rfl) (znS hR' hh hM fun _ _=>rfl) hR'))))
  ·rw [e]at hc;cases hc
 |gh x ih=>
  intro code Q σ a w hc hn hp hQk h hR
  obtain ⟨τ,hR',h'⟩:=h a w hR
  exact ih code Q τ a w hc hn hp hQk h' hR'
 |raw c=>
  intro code Q σ a w hc hn hp hQk h hR
  cases hn
end
end Go.Proofs.YtmjiojflncffeaaGreat.Vc

set_option linter.unusedVariables false
set_option linter.unusedSimpArgs false
namespace Go.Proofs.YtmjiojflncffeaaGreat.Vc
open Go Go.Shelf
def Iter (P:Program) (gf:Nat) (lb:List Value) (ui:PH) (encs:List (List Value)):Prop:=
 ∀(l:Nat) (J:Nat→World→Prop) (Jx:World→Prop) (W:World),ui.le W→(∀i W W',J i W→Kept PH.no W W'→J i W')→(∀W W',Jx W→Kept PH.no W W'→Jx W')→
  (∀i x W,encs[i]? =some x→J i W→YieldAt Fence.wide 0 P l x.toArray W fun e W'=>(e= .returned (.bool true)∧J (i+1) W'∧ui.le W')∨(e= .returned (.bool false)∧Jx W'))→
  J 0 W→CallsIn Fence.wide 0 P gf (#[.func (.yield l) #[] #[]]++lb.toArray) W fun e W'=>(∃v,e= .returned v)∧(J encs.length W'∨Jx W')
noncomputable def zfJ (ph:List PH) (m:PH) (W:World):PH:=fun b=>open Classical in if m b≠none∨∃u∈ph,u b≠none then W.heap[b]? else none
theorem zrW {ph:List PH} {m:PH} {W:World} {b:Nat} (h:m b≠none∨∃u∈ph,u b≠none):zfJ ph m W b=W.heap[b]? :=by rw [zfJ,if_pos h]
theorem ziC {ph:List PH} {m:PH} {W:World} {b:Nat} (h1:m b=none) (h2:∀u∈ph,u b=none):zfJ ph m W b=none:=by
 rw [zfJ,if_neg]
 rintro (h|⟨u,hu,h⟩)
 ·exact h h1
 ·exact h (h2 u hu)
theorem zxG {ph:List PH} {m:PH} {W:World} {b:Nat} (h:zfJ ph m W b≠none):m b≠none∨∃u∈ph,u b≠none:=by
 rw [zfJ]at h
 split at h
 ·assumption
 ·exact absurd rfl h
noncomputable abbrev cx (C:Ctx) (ph:List PH) (m:PH) (W:World):Ctx:=⟨C.P,C.N,W,zfJ ph m W⟩
section
variable {C:Ctx} {loc:Loc} {ph:List PH} {m:PH} {W:World}
theorem HR.bare {pv:List (Nat×PV)} (h:HR C loc pv ph m W) (loc':Loc):HR C loc' [] ph m W:=
 ⟨h.kept,(fun k y hk=>by cases hk),(fun k k' y y' b o c o' c' hk=>by cases hk),(fun k y b o c hk=>by cases hk),h.mle,h.mmine,h.phs⟩
theorem HR.rebase (h:HR C loc [] ph m W) (loc':Loc):HR (cx C ph m W) loc' [] ph m W:=by
 refine ⟨Kept.refl _ _,(fun k y hk=>by cases hk),(fun k k' y y' b o c o' c' hk=>by cases hk),(fun k y b o c hk=>by cases hk),h.mle,fun b hb=> .inr ?_,fun u hu=>⟨(h.phs u hu).1,fun b hb=>⟨.inr ?_,((h.phs u hu).2 b hb).2⟩⟩⟩
 ·show zfJ ph m W b≠none
  rw [zrW (.inl hb)]
  cases hm:m b with
  |none=>exact absurd hm hb
  |some o=>rw [h.mle b o hm];simp
 ·show zfJ ph m W b≠none
  rw [zrW (.inr ⟨u,hu,hb⟩)]
  cases hm:u b with
  |none=>exact absurd hm hb
  |some o=>rw [(h.phs u hu).1 b o hm];simp
theorem HR.u0_up (h:HR C loc [] ph m W):∀b o,C.u0 b=some o→(cx C ph m W).u0 b=some o:=by
 intro b o hb
 unfold Ctx.u0 at hb ⊢
 split at hb
 ·rename_i h0
  have h0:C.m0 b=none:=by simpa using h0
  have hlt:b<C.w0.heap.size:=(Array.getElem?_eq_some_iff.1 hb).1
  have nm:¬C.mine b:=fun hmine=>hmine.elim (fun h=>by omega) fun h=>h h0
  have h1:m b=none:=by
   cases hm:m b with
   |none=>rfl
   |some o=>exact absurd (h.mmine b (by rw [hm];simp)) nm
  have h2:∀u∈ph,u b=none:=fun u hu=>by
   cases hm:u b with
   |none=>rfl
   |some o=>exact absurd ((h.phs u hu).2 b (by rw [hm];simp)).1 nm
  show (if (zfJ ph m W b).isNone then W.heap[b]? else none)=some o
  rw [ziC h1 h2]
  simp only [Option.isNone_none,if_true]
  rw [h.kept.2.2.2.2 b hlt h0];exact hb
 ·cases hb
theorem HR.mine_up (h:HR C loc [] ph m W) {b:Nat} (hb:(cx C ph m W).mine b):C.mine b:=by
 rcases hb with hb|hb
 ·exact .inl (Nat.le_trans h.kept.2.2.2.1 hb)
 ·rcases zxG hb with hm|⟨u,hu,hm⟩
  ·exact h.mmine b hm
  ·exact ((h.phs u hu).2 b hm).1
theorem HR.unbase (h:HR C loc [] ph m W) {loc' loc2:Loc} {pv':List (Nat×PV)} {ph':List PH} {m':PH} {W':World} (h':HR (cx C ph m W) loc' pv' ph' m' W'):HR C loc2 [] ph' m' W':=by
 refine ⟨?_,(fun k y hk=>by cases hk),(fun k k' y y' b o c o' c' hk=>by cases hk),(fun k y b o c hk=>by cases hk),h'.mle,fun b hb=>h.mine_up (h'.mmine b hb),fun u hu=>⟨(h'.phs u hu).1,fun b hb=>⟨h.mine_up ((h'.phs u hu).2 b hb).1,((h'.phs u hu).2 b hb).2⟩⟩⟩
 obtain ⟨k1,k2,k3,k4,k5⟩:=h.kept
 obtain ⟨q1,q2,q3,q4,q5⟩:=h'.kept
 refine ⟨q1.trans k1,q2.trans k2,q3.trans k3,Nat.le_trans k4 q4,fun k hk hn=> ?_⟩
 have nm:¬C.mine k:=fun hmine=>hmine.elim (fun h=>by omega) fun h=>h hn
 rw [q5 k (Nat.lt_of_lt_of_le hk k4) (ziC ?_ ?_)]
 ·exact k5 k hk hn
 ·cases hm:m k with
  |none=>rfl
  |some o=>exact absurd (h.mmine k (by rw [hm];simp)) nm
 ·intro u hu
  cases hm:u k with
  |none=>rfl
  |some o=>exact absurd ((h.phs u hu).2 k (by rw [hm];simp)).1 nm
theorem HR.other (h':HR (cx C ph m W) loc [] ph m W) {loc':Loc} {pv':List (Nat×PV)} {ph':List PH} {m':PH} {W':World} (h2:HR (cx C ph m W) loc' pv' ph' m' W') {b:Nat} {o:Obj} (hb:W.heap[b]? =some o) (h3:m b=none) (h4:∀u∈ph,u b=none):W'.heap[b]? =some o:=by
 have hlt:b<W.heap.size:=(Array.getElem?_eq_some_iff.1 hb).1
 rw [h2.kept.2.2.2.2 b hlt (ziC h3 h4)];exact hb
theorem HR.apart' (h:HR C loc [] ph m W) {loc':Loc} {pv':List (Nat×PV)} {ph':List PH} {m':PH} {W':World} (h2:HR (cx C ph m W) loc' pv' ph' m' W') {b:Nat} (hb:b<W.heap.size) (h3:m b=none) (h4:∀u∈ph,u b=none):m' b=none∧∀u∈ph',u b=none:=by
 have nm:¬(cx C ph m W).mine b:=fun hmine=>hmine.elim (fun h=>by simp only at h;omega) fun h=>h (ziC h3 h4)
 refine ⟨?_,fun u hu=> ?_⟩
 ·cases hm:m' b with
  |none=>rfl
  |some o=>exact absurd (h2.mmine b (by rw [hm];simp)) nm
 ·cases hm:u b with
  |none=>rfl
  |some o=>exact absurd ((h2.phs u hu).2 b (by rw [hm];simp)).1 nm
end
def frG (fr:List (Nat×SV)):Prop:=∀t x,look fr t=some x→∃g,x= .g g
theorem FR.plain {loc loc':Loc} {N:Nat} {fr:List (Nat×SV)} {pv pv':List (Nat×PV)} {ph ph':List PH} {a:Act} (h:FR loc N fr pv ph a) (hg:frG fr) (hs:∀u∈ph,u∈ph'):FR loc' N fr pv' ph' a:=by
 refine ⟨h.defers.up hs,h.size,fun t x hx=> ?_⟩
 obtain ⟨g,rfl⟩:=hg t x hx
 exact h.slots t _ hx
def zAh (σ:SS) (I:List PH→PH→Prop) (Ix:Exit→List PH→PH→Prop):QT
 | .normal,τ=>(∀u∈σ.ph,u∈τ.ph)∧I τ.ph τ.m
 | .ret,τ=>(∀u∈σ.ph,u∈τ.ph)∧Ix .ret τ.ph τ.m
 | .exit id,τ=>(∀u∈σ.ph,u∈τ.ph)∧Ix (.exit id) τ.ph τ.m
 |_,_=>False
theorem zAF {σ:SS} {I:List PH→PH→Prop} {Ix:Exit→List PH→PH→Prop}:QOk (zAh σ I Ix):=fun _ h=>h
theorem zje {α:Type}:∀(a b:List (Nat×α)) (t:Nat),look (a++b) t=(look a t).or (look b t)
 |[],b,t=>by simp [look]
 |(k,x)::a,b,t=>by
  simp only [List.cons_append,look]
  split
  ·simp
  ·exact zje a b t
theorem zxa (l:List (Tmp×Value)):∀tm:Array Value,(l.foldl (fun tm (p:Tmp×Value)=>tm.setIfInBounds p.1 p.2) tm).size=tm.size:=by
 induction l with
 |nil=>intro tm;rfl
 |cons p l ih=>intro tm;rw [List.foldl_cons,ih,Array.size_setIfInBounds]
end Go.Proofs.YtmjiojflncffeaaGreat.Vc

set_option linter.unusedVariables false
set_option linter.unusedSimpArgs false
namespace Go.Proofs.YtmjiojflncffeaaGreat.Vc
open Go Go.Shelf
section
variable {C:Ctx} {loc:Loc} {ph:List PH} {m:PH} {W:World}
theorem HR.put_other (h:HR C loc [] ph m W) (loc':Loc) {l:Nat} (o:Obj) (h1:m l=none) (h2:∀u∈ph,u l=none) (h3:C.w0.heap.size≤l):HR C loc' [] ph m (W.putObj l o):=by
 have hne:∀{u:PH} {b:Nat} {o':Obj},u l=none→u b=some o'→b≠l:=fun hu hb e=>by rw [e,hu]at hb;cases hb
 refine ⟨?_,(fun k y hk=>by cases hk),(fun k k' y y' b o c o' c' hk=>by cases hk),(fun k y b o c hk=>by cases hk),fun b o' hb=> ?_,h.mmine,fun u hu=>⟨fun b o' hb=> ?_,(h.phs u hu).2⟩⟩
 ·obtain ⟨k1,k2,k3,k4,k5⟩:=h.kept
  exact ⟨k1,k2,k3,by rw [World.putObj_size];exact k4,fun k hk hn=>by rw [World.putObj_heap_other (by omega)];exact k5 k hk hn⟩
 ·rw [World.putObj_heap_other (hne h1 hb)];exact h.mle b o' hb
 ·rw [World.putObj_heap_other (hne (h2 u hu) hb)];exact (h.phs u hu).1 b o' hb
theorem HR.grown (h:HR C loc [] ph m W) {W':World} (hk:Kept PH.no W W'):HR C loc [] ph m W':=
 (h.after (m:=m) (m1:=PH.no) (mr:=m) (m':=PH.no) (zeN _).symm (zfL _) (fun b o hb=>by cases hb) (fun b hb=>absurd rfl hb) hk).2.2.1
theorem HR.add (h:HR C loc [] ph m W) {D:Nat} {o:Obj} (hD:W.heap[D]? =some o) (h1:m D=none) (h2:C.w0.heap.size≤D):HR C loc [] (one D o::ph) m W:=by
 refine ⟨h.kept,(fun k y hk=>by cases hk),(fun k k' y y' b o c o' c' hk=>by cases hk),(fun k y b o c hk=>by cases hk),h.mle,h.mmine,fun u hu=> ?_⟩
 rcases List.mem_cons.1 hu with rfl|hu
 ·refine ⟨fun b o' hb=> ?_,fun b hb=> ?_⟩
  ·simp only [one]at hb
   split at hb
   ·rename_i e;subst e;cases hb;exact hD
   ·cases hb
  ·simp only [one]at hb
   split at hb
   ·rename_i e;subst e;exact ⟨.inl h2,h1⟩
   ·exact absurd rfl hb
 ·exact h.phs u hu
end
def zwk:Exit→Option Code
 | .ret=>some .ret
 | .exit id=>some (.exit id)
 |_=>none
end Go.Proofs.YtmjiojflncffeaaGreat.Vc

set_option linter.unusedVariables false
set_option linter.unusedSimpArgs false
namespace Go.Proofs.YtmjiojflncffeaaGreat.Vc
open Go Go.Shelf
section
variable {P:Program} {N:Nat} {ns:List (Nat×Nat)} {code:Code}
end
structure Slots (N:Nat) (fr:List (Nat×SV)) (a:Act):Prop where
 defers:a.defers=[]
 size:a.tmps.size=N
 at':∀t x,look fr t=some x→∃g,x= .g g∧GV.ok g∧a.tmps[t]? =some g.val
abbrev cw (P:Program) (N:Nat) (w:World):Ctx:=⟨P,N,w,PH.no⟩
theorem Slots.rel {P:Program} {N:Nat} {fr:List (Nat×SV)} {a:Act} (h:Slots N fr a) (w:World):Rel (cw P N w) ⟨fr,[],[],PH.no⟩ a w:=by
 refine ⟨fun _=>none,⟨by rw [h.defers];exact Marks.nil _,h.size,fun t x hx=> ?_⟩,⟨Kept.refl _ _,(fun k y hk=>by cases hk),(fun k k' y y' b o c o' c' hk=>by cases hk),(fun k y b o c hk=>by cases hk),(fun b o hb=>by cases hb),(fun b hb=>absurd rfl hb),fun u hu=>by cases hu⟩⟩
 obtain ⟨g,rfl,h1,h2⟩:=h.at' t x hx
 exact ⟨_,h2,h1,rfl⟩
def zmV (R:Exit→List (Nat×SV)→Prop):QT:=fun e τ=>(e= .normal∨e= .ret∨∃id,e= .exit id)∧τ.ph=[]∧∃fr,frG fr∧R e fr∧∀t x,look fr t=some x→look τ.fr t=some x
theorem zyH {R:Exit→List (Nat×SV)→Prop}:QOk (zmV R):=fun σ h=>by
 rcases h.1 with h|h|⟨id,h⟩<;>cases h
theorem Rel.slots {P:Program} {N:Nat} {w:World} {τ:SS} {a:Act} {w':World} (h:Rel (cw P N w) τ a w') (hp:τ.ph=[]) {fr:List (Nat×SV)} (hg:frG fr) (hs:∀t x,look fr t=some x→look τ.fr t=some x):Slots N fr a∧Kept PH.no w w':=by
 obtain ⟨loc,hF,hH⟩:=h
 refine ⟨⟨?_,hF.size,fun t x hx=> ?_⟩,hH.kept⟩
 ·cases hd:a.defers with
  |nil=>rfl
  |cons d ds=>
   obtain ⟨D,u,_,hu,_⟩:=hF.defers.2 d (by rw [hd];simp)
   rw [hp]at hu;cases hu
 ·obtain ⟨g,rfl⟩:=hg t x hx
  obtain ⟨v,hv,h1,h2⟩:=hF.slots t _ (hs t _ hx)
  exact ⟨g,rfl,h1,by rw [hv,h2]⟩
theorem zAl {P:Program} {N:Nat} {ns:List (Nat×Nat)} {cd:Cd} {code:Code} {fr:List (Nat×SV)} {a:Act} {w:World} {R:Exit→List (Nat×SV)→Prop} {Q:Exit→Act→World→Prop} (hc:comp P N ns code=er cd) (hn:zfO cd=true) (hp:zdc code=true)
  (hs:Slots N fr a) (h:vc (cw P N w) cd (zmV R) ⟨fr,[],[],PH.no⟩) (hQ:∀e fr' a' w',R e fr'→Slots N fr' a'→Kept PH.no w w'→(e= .normal∨e= .ret∨∃id,e= .exit id)→Q e a' w'):code.wpIn (zio none) 0 P Q a w:=by
 refine wpIn_mono (zeT (C:=cw P N w) ns none cd code (zmV R) ⟨fr,[],[],PH.no⟩ a w hc hn hp zyH h (hs.rel w)) fun e a' w' hq=> ?_
 obtain ⟨τ,⟨he,hph,fr',hg,hR,hl⟩,hrel⟩:=hq
 obtain ⟨h1,h2⟩:=hrel.slots hph hg hl
 exact hQ e fr' a' w' hR h1 h2 he
end Go.Proofs.YtmjiojflncffeaaGreat.Vc

set_option linter.unusedVariables false
set_option linter.unusedSimpArgs false
namespace Go.Proofs.YtmjiojflncffeaaGreat.Vc
open Go Go.Shelf
theorem zlk {P:Program} {ops:Array Oper} {Q1 Q:Exit→Act→World→Prop} (ro:Option Nat) {L2:List Oper} (hlet:∀a w,¬Q1 .outgrown a w) (hpan:∀c a w,¬Q1 (.panic c) a w) (hK:∀a w,Q1 .normal a w→wpListIn (zio ro) 0 P ops Q L2 a w):
  ∀(L1:List Oper) (a:Act) (w:World),(∀o∈L1,zhv o=true)→wpList P ops Q1 L1 a w→wpListIn (zio ro) 0 P ops Q (L1++L2) a w
 |[],a,w,_,h=>hK a w h
 |o::L,a,w,hp,h=>by
  have ih:=fun (a:Act) (w:World)=>zlk (P:=P) (ops:=ops) (Q1:=Q1) (Q:=Q) ro hlet hpan hK L a w (fun o ho=>hp o (List.mem_cons_of_mem _ ho))
  have hno:∀c,o.op≠ .defer c:=fun c e=>by
   have:=hp o (by simp)
   rw [zhv,e]at this;cases this
  have hl:¬LetsOut Q1:=fun ⟨a,w,h⟩=>hlet a w h
  unfold wpList at h
  rw [List.cons_append]
  unfold wpListIn
  by_cases hw:Region.wanted o (yielded ops a.tmps)=true
  ·rw [if_pos hw]at h ⊢
   rcases h with h|⟨_,h⟩
   ·refine ⟨fun _ _=>trivial, ?_⟩
    have hsem:o.semAt ro a.eval=execOp a.eval o:=zjA ro _ o hno
    rw [hsem]
    unfold Oper.wp at h
    generalize (execOp a.eval o).run P w=r at h ⊢
    cases r with
    |ok x w'=>
     cases x with
     |value v=>exact ih _ _ h
     |skip=>exact ih _ _ h
     |defer d=>exact ih _ _ h
     |enter f args=>
      refine ⟨(fun h=>by cases h),((zxb ro _).2 h).mono fun e w2 he=> ?_⟩
      cases e with
      |returned v=>exact ih _ _ he
      |panicked ch=>exact absurd he (hpan _ _ _)
      |outgrown=>exact absurd he hl
     |row row args=>
      refine ⟨(fun h=>by cases h),fun c cs _=> ?_⟩
      obtain ⟨v,w2,h1,h2⟩:=h c cs
      exact ⟨v,w2,ih _ _ h1,stepsIn_wide.2 h2⟩
     |_=>exact h.elim
    |halt x w'=>
     cases x with
     |panic v=>exact absurd h (hpan _ _ _)
     |_=>exact h.elim
   ·exact absurd h hl
  ·rw [if_neg hw]at h ⊢
   exact ⟨fun _ _=>trivial,ih _ _ h⟩
theorem zzj {P:Program} {N:Nat} {id:Nat} {ops:Array Oper} {Q:Exit→Act→World→Prop} {C:Ctx} (hCP:C.P=P) (hCN:C.N=N) (hd:ops.all (zcZ N)=true) (hg:ops.all (zbz ops)=true) (hpl:ops.all zhv=true)
  (n d tx l:Nat) (o:Oper) (c:Call) (hn:ops.toList.drop n=o::ops.toList.drop (n+1)) (hoc:o.op= .call c) (hog:o.guard=none) (hod:o.dst=some d) (hcc:c.callee= .value (.tmp tx))
  (s1 s2:List Seg) (h1:zoP P ops (ops.toList.take n)=s1.map zsz) (h2:zoP P ops (ops.toList.drop (n+1))=s2.map zsz)
  {σ:SS} {a:Act} {w:World} (hR:Rel C σ a w) (K1:SS→Prop) (hK1:zbO C s1 K1 σ)
  (hY:∀τ a w,K1 τ→Rel C τ a w→a.eval (.tmp tx)= .func (.yield l) #[] #[]∧YieldAt Fence.wide 0 P l (c.args.map a.eval) w fun e w2=>∃b,e= .returned (.bool b)∧∃(fr:List (Nat×SV)) (Q2:SS→Prop),Slots N fr (a.put (some d) (.bool b))∧zbO (cw P N w2) s2 Q2 ⟨fr,[],[],PH.no⟩∧∀τ2 a2 w3,Q2 τ2→Rel (cw P N w2) τ2 a2 w3→Q .normal a2 w3):
  (Code.region id ops false).wpIn (zio none) 0 P Q a w:=by
 subst hCP;subst hCN
 simp only [Array.all_eq_true_iff_forall_mem]at hd hg hpl
 have hmem:∀(l:List Oper),(∀o∈l,o∈ops.toList)→∀x∈grp ops l,∀o∈x.2,gOf ops o=x.1∧zcZ C.N o=true∧zbz ops o=true:=fun l hl x hx o ho=>by
  obtain ⟨h1,h2⟩:=zlB ops l x hx o ho
  have:=hl o h2
  exact ⟨h1,hd o (by simpa using this),hg o (by simpa using this)⟩
 refine wpIn_region_list ?_
 rw [←List.take_append_drop n ops.toList,hn]
 refine zlk (Q1:=fun e a w=>e= .normal∧∃τ,K1 τ∧Rel C τ a w) none (fun a w h=>by cases h.1) (fun c a w h=>by cases h.1) ?_ _ a w (fun o ho=>hpl o (by simpa using List.mem_of_mem_take ho)) ?_
 ·rintro a1 w1 ⟨_,τ,hK,hR1⟩
  obtain ⟨hev,fn,tmps,assign,body,hy,hround⟩:=hY τ a1 w1 hK hR1
  unfold wpListIn
  rw [if_pos (by unfold Region.wanted;rw [hog])]
  have hrun:(execOp a1.eval o).run C.P w1= .ok (.round l fn tmps assign body) w1:=by
   rw [←hy]
   unfold execOp
   rw [hoc]
   simp only [resolve,hcc,hev,Deferred.ofValue,Sem.run_bind,Sem.run_pure,Result.andThen,invoke]
   simp
  refine ⟨fun _ _=>trivial, ?_⟩
  rw [show o.semAt none a1.eval=execOp a1.eval o from rfl,hrun]
  refine ⟨(fun h=>by cases h),hround.mono fun e w2 he=> ?_⟩
  obtain ⟨b,rfl,fr,Q2,hS,hv,hQ2⟩:=he
  show wpListIn _ _ _ _ _ _ (a1.put o.dst (.bool b)) w2
  rw [hod]
  have hb:∀o'∈ops.toList.drop (n+1),o'∈ops.toList:=fun o' ho'=>List.mem_of_mem_drop ho'
  have hs2:=zdf (C:=cw C.P C.N w2) (ops:=ops) (K:=Q2) (Q:=fun e a w=>e= .normal∧∃τ,Q2 τ∧Rel (cw C.P C.N w2) τ a w) (fun σ' a' w' hK hR'=>⟨rfl,σ',hK,hR'⟩) s2 (grp ops (ops.toList.drop (n+1))) ⟨fr,[],[],PH.no⟩ _ w2 h2 (hmem _ hb) (hS.rel w2) hv
  rw [zgt]at hs2
  have:=zlk (Q:=Q) (L2:=[]) none (fun a w h=>by cases h.1) (fun c a w h=>by cases h.1) (fun a w h=>by
   obtain ⟨_,τ2,q1,q2⟩:=h
   exact hQ2 τ2 a w q1 q2) _ _ w2 (fun o ho=>hpl o (by simpa using hb o ho)) hs2
  rwa [List.append_nil]at this
 ·have:=zdf (C:=C) (ops:=ops) (K:=K1) (Q:=fun e a w=>e= .normal∧∃τ,K1 τ∧Rel C τ a w) (fun σ' a' w' hK hR'=>⟨rfl,σ',hK,hR'⟩) s1 (grp ops (ops.toList.take n)) σ a w h1 (hmem _ fun o ho=>List.mem_of_mem_take ho) hR hK1
  rwa [zgt]at this
def atL:Code→Code
 | .seq a _=>a
 | .cond _ a _=>a
 | .block _ a=>a
 | .loop a=>a
 |c=>c
def atR:Code→Code
 | .seq _ b=>b
 | .cond _ _ b=>b
 |c=>c
def zjD:Code→Array Oper
 | .region _ ops _=>ops
 |_=> #[]
def regId:Code→Nat
 | .region id _ _=>id
 |_=>0
end Go.Proofs.YtmjiojflncffeaaGreat.Vc

set_option linter.unusedVariables false
set_option linter.unusedSimpArgs false
namespace Go.Proofs.YtmjiojflncffeaaGreat.Vc
open Go Go.Shelf
def zfd:List Tmp→List GV→List (Nat×SV)
 |t::ts,g::gs=>zfd ts gs++[(t, .g g)]
 |_,_=>[]
theorem zjf:∀(ts:List Tmp) (gs:List GV) (tm:Array Value) (t:Nat),look (zfd ts gs) t=none→((ts.zip (gs.map GV.val)).foldl (fun tm (p:Tmp×Value)=>tm.setIfInBounds p.1 p.2) tm)[t]? =tm[t]?
 |[],gs,tm,t,_=>rfl
 |q::ts,[],tm,t,_=>rfl
 |q::ts,v::gs,tm,t,h=>by
  simp only [zfd,zje,Option.or_eq_none_iff,look]at h
  obtain ⟨h1,h2⟩:=h
  simp only [List.map_cons,List.zip_cons_cons,List.foldl_cons]
  rw [zjf ts gs _ t h1,Array.getElem?_setIfInBounds_ne]
  intro e
  rw [if_pos e.symm]at h2;cases h2
theorem zoi:∀(ts:List Tmp) (gs:List GV) (tm:Array Value),(∀t∈ts,t<tm.size)→∀t x,look (zfd ts gs) t=some x→∃g,x= .g g∧g∈gs∧((ts.zip (gs.map GV.val)).foldl (fun tm (p:Tmp×Value)=>tm.setIfInBounds p.1 p.2) tm)[t]? =some g.val
 |[],_,tm,_,t,x,h=>by simp [zfd,look]at h
 |_::_,[],tm,_,t,x,h=>by simp [zfd,look]at h
 |p::ts,g::gs,tm,hb,t,x,h=>by
  simp only [zfd,zje]at h
  simp only [List.map_cons,List.zip_cons_cons,List.foldl_cons]
  have hb':∀t∈ts,t<(tm.setIfInBounds p g.val).size:=fun t ht=>by rw [Array.size_setIfInBounds];exact hb t (by simp [ht])
  cases h1:look (zfd ts gs) t with
  |some y=>
   rw [h1]at h
   simp only [Option.some_or,Option.some.injEq]at h
   subst h
   obtain ⟨g',e,hm,hv⟩:=zoi ts gs _ hb' t y h1
   exact ⟨g',e,by simp [hm],hv⟩
  |none=>
   rw [h1]at h
   simp only [Option.none_or,look]at h
   split at h
   ·rename_i e
    cases h
    subst e
    exact ⟨g,rfl,by simp,by rw [zjf ts gs _ t h1,Array.getElem?_setIfInBounds_self_of_lt (hb t (by simp))]⟩
   ·cases h
def zCC (ph:List PH) (K:List PH→PH→List (Nat×SV)→Prop):QT
 | .normal,τ=>(∀u∈ph,u∈τ.ph)∧∃fr1,frG fr1∧(∀t x,look fr1 t=some x→look τ.fr t=some x)∧K τ.ph τ.m fr1
 |_,_=>False
theorem zBv {ph:List PH} {K:List PH→PH→List (Nat×SV)→Prop}:QOk (zCC ph K):=fun _ h=>h
theorem zvi {C:Ctx} {Q:QT} {fr:List (Nat×SV)} {ph0:List PH} {m0:PH} {code:Code} {t gf:Nat} {lb:List Value} {ui:PH} {encs:List (List GV)} (ns:List (Nat×Nat))
  (hc:code= .rangeFunc (.tmp t) (zxp code) (zwy code) (zxK code)) (ht:look fr t=some (.g (.s (.func (.func gf) #[] lb.toArray)))) (eg:∀args w,(callFunc gf args).run C.P w= .ok (.enter gf args) w)
  (hfr:frG fr) (hui:ui∈ph0) (hit:Iter C.P gf lb ui (encs.map fun x=>x.map GV.val)) (hps:∀x∈encs,x.length=(zxp code).size) (hone:∀x∈encs,∀g∈x,g.ok) (hpb:∀t∈(zxp code).toList,t<C.N)
  (cA cB:Cd) (hA:comp C.P C.N ns (zwy code)=er cA) (hA1:zfO cA=true) (hA2:zdc (zwy code)=true) (hB:comp C.P C.N ns (zxK code)=er cB) (hB1:zfO cB=true) (hB2:zdc (zxK code)=true)
  (I:Nat→List PH→PH→Prop) (Ix:Exit→List PH→PH→Prop) (h0:I 0 ph0 m0)
  (hround:∀i x (w':World) (m':PH) ph m,encs[i]? =some x→(∀b o,C.u0 b=some o→(⟨C.P,C.N,w',m'⟩:Ctx).u0 b=some o)→(∀u∈ph0,u∈ph)→I i ph m→
   vc ⟨C.P,C.N,w',m'⟩ cA (zCC ph fun ph1 m1 fr1=>∀(w2:World) (m2:PH),(∀b o,C.u0 b=some o→(⟨C.P,C.N,w2,m2⟩:Ctx).u0 b=some o)→vc ⟨C.P,C.N,w2,m2⟩ cB (zAh ⟨fr,[],ph0,m0⟩ (I (i+1)) Ix) ⟨fr1,[],ph1,m1⟩) ⟨zfd (zxp code).toList x++fr,[],ph,m⟩)
  (hdone:∀u ph m,(∀u∈ph0,u∈ph)→I encs.length ph m→Q .normal ⟨fr,[],u::ph,m⟩)
  (hstop:∀e c u ph m,zwk e=some c→(∀u∈ph0,u∈ph)→Ix e ph m→Q e ⟨fr,[],u::ph,m⟩):vc C (.raw code) Q ⟨fr,[],ph0,m0⟩:=by
 intro act w hR
 obtain ⟨loc,hF,hH⟩:=hR
 have hev:act.eval (.tmp t)= .func (.func gf) #[] lb.toArray:=by
  obtain ⟨v,hv,hr⟩:=hF.slots t _ ht
  obtain ⟨_,rfl⟩:=hr
  simp [Act.eval,hv,GV.val]
 rw [hc]
 refine (wpIn_wide (n:=0)).1 (wpIn_rangeFunc ?_)
 intro fn _
 generalize hpsE:zxp code=ps at*
 generalize hasE:zwy code=assign at*
 generalize hbdE:zxK code=body at*
 obtain ⟨rec,hrec⟩:∃rec:LoopState→Option Code→Loop,rec=fun st pe=>{state:=st,pending:=pe,fn,tmps:=act.tmps,params:=ps,assign,body,defers:=w.heap.size}:=⟨_,rfl⟩
 obtain ⟨W1,hW1⟩:∃W1,(w.alloc (.deferred (some []))).alloc (.loop (rec .ready none))=W1:=⟨_,rfl⟩
 have hk1:Kept PH.no w W1:=by rw [←hW1];exact zwz (zls _ _) (zls _ _)
 have hsz:W1.heap.size=w.heap.size+2:=by rw [←hW1,World.size_alloc,World.size_alloc]
 have hL1:W1.heap[w.heap.size+1]? =some (.loop (rec .ready none)):=by
  rw [←hW1];have:=World.alloc_heap_new (w.alloc (.deferred (some []))) (.loop (rec .ready none));rwa [World.size_alloc]at this
 have hK1:W1.heap[w.heap.size]? =some (.deferred (some [])):=by
  rw [←hW1]
  have h2:=(zls (w.alloc (.deferred (some []))) (.loop (rec .ready none))).2.2.2.2 w.heap.size (by rw [World.size_alloc];omega) rfl
  rw [h2]
  exact World.alloc_heap_new w _
 have hw0:C.w0.heap.size≤w.heap.size:=hH.kept.2.2.2.1
 obtain ⟨l,hl⟩:∃l,w.heap.size+1=l:=⟨_,rfl⟩
 obtain ⟨D,hD⟩:∃D,w.heap.size=D:=⟨_,rfl⟩
 obtain ⟨J,hJ⟩:∃J:Nat→World→Prop,J=fun i W=>∃ph m,(∀u∈ph0,u∈ph)∧I i ph m∧HR C loc [] ph m W∧(m l=none∧∀u∈ph,u l=none)∧(m D=none∧∀u∈ph,u D=none)∧W.heap[l]? =some (.loop (rec .ready none))∧W.heap[D]? =some (.deferred (some [])):=⟨_,rfl⟩
 obtain ⟨Jx,hJx⟩:∃Jx:World→Prop,Jx=fun W=>∃e c ph m,zwk e=some c∧(∀u∈ph0,u∈ph)∧Ix e ph m∧HR C loc [] ph m W∧(m l=none∧∀u∈ph,u l=none)∧(m D=none∧∀u∈ph,u D=none)∧W.heap[l]? =some (.loop (rec .done (some c)))∧W.heap[D]? =some (.deferred (some [])):=⟨_,rfl⟩
 have hlD:l≠D:=by omega
 have fresh:∀{b:Nat},w.heap.size≤b→m0 b=none∧∀u∈ph0,u b=none:=fun {b} hb=>by
  have hn:w.heap[b]? =none:=Array.getElem?_eq_none hb
  refine ⟨?_,fun u hu=> ?_⟩
  ·cases hm:m0 b with
   |none=>rfl
   |some o=>have:=hH.mle b o hm;rw [hn]at this;cases this
  ·cases hm:u b with
   |none=>rfl
   |some o=>have:=(hH.phs u hu).1 b o hm;rw [hn]at this;cases this
 have kept_at:∀{W W':World} {k:Nat} {o:Obj},Kept PH.no W W'→W.heap[k]? =some o→W'.heap[k]? =some o:=fun {W W' k o} hk h=>by
  rw [hk.2.2.2.2 k (Array.getElem?_eq_some_iff.1 h).1 rfl];exact h
 refine ⟨w.heap.size+1,[{target:= .collected w.heap.size,args:= #[]}],W1,{target:= .fn (.func gf) lb.toArray,args:= #[.func (.yield (w.heap.size+1)) #[] #[]]},W1,gf,
  #[.func (.yield (w.heap.size+1)) #[] #[]]++lb.toArray,W1, ?_, ?_, ?_, ?_,(fun h=>by cases h), ?_⟩
 ·rw [←hW1,hrec];exact run_enterLoop_outer _ _ _ _ _
 ·simp only [resolve,hev]
  simp [go_sem]
 ·intro f' _;trivial
 ·simp [invoke,go_sem,eg]
 rw [hl,hD]
 rw [hl]at hL1
 rw [hD]at hK1
 refine (hit l J Jx W1 ?_ ?_ ?_ ?_ ?_).mono ?_
 ·exact fun b o hb=>kept_at hk1 ((hH.phs ui hui).1 b o hb)
 ·intro i W W' h hk
  rw [hJ]at h ⊢
  obtain ⟨ph,m,q1,q2,q3,q4,q5,q6,q7⟩:=h
  exact ⟨ph,m,q1,q2,q3.grown hk,q4,q5,kept_at hk q6,kept_at hk q7⟩
 ·intro W W' h hk
  rw [hJx]at h ⊢
  obtain ⟨e,c,ph,m,q0,q1,q2,q3,q4,q5,q6,q7⟩:=h
  exact ⟨e,c,ph,m,q0,q1,q2,q3.grown hk,q4,q5,kept_at hk q6,kept_at hk q7⟩
 ·
  intro i x W hx h
  rw [List.getElem?_map]at hx
  obtain ⟨y,hy0,rfl⟩:=Option.map_eq_some_iff.1 hx
  clear hx
  rw [hJ]at h
  obtain ⟨ph,m,q1,q2,q3,q4,q5,q6,q7⟩:=h
  have hxm:y∈encs:=List.mem_of_getElem? hy0
  have hy:=run_yield (P:=C.P) (args:=(y.map GV.val).toArray) q6 (by rw [hrec];simpa using hps y hxm)
  rw [hrec]at hy
  refine ⟨fn,_,assign,body,hy,roundIn_of_wpIn trivial ?_⟩
  have htm:(ps.zip (y.map GV.val).toArray).foldl (fun tmps (t,a)=>tmps.setIfInBounds t a) act.tmps=(ps.toList.zip (y.map GV.val)).foldl (fun tm (p:Tmp×Value)=>tm.setIfInBounds p.1 p.2) act.tmps:=by
   rw [←Array.foldl_toList,Array.toList_zip]
  rw [htm]
  have hF0:FR loc C.N (zfd ps.toList y++fr) [] ph {tmps:=(ps.toList.zip (y.map GV.val)).foldl (fun tm (p:Tmp×Value)=>tm.setIfInBounds p.1 p.2) act.tmps,defers:=[]}:=by
   refine ⟨Marks.nil _,by simp only;rw [zxa];exact hF.size,fun t sv hy=> ?_⟩
   rw [zje]at hy
   cases h1:look (zfd ps.toList y) t with
   |some z=>
    rw [h1]at hy
    simp only [Option.some_or,Option.some.injEq]at hy
    subst hy
    obtain ⟨g,rfl,hv,hval⟩:=zoi ps.toList y act.tmps (fun t ht=>by rw [hF.size];exact hpb t ht) t z h1
    exact ⟨g.val,hval,hone y hxm g hv,rfl⟩
   |none=>
    rw [h1]at hy
    simp only [Option.none_or]at hy
    obtain ⟨g,rfl⟩:=hfr t sv hy
    obtain ⟨v,hv,hr⟩:=hF.slots t _ hy
    exact ⟨v,by simp only;rw [zjf _ _ _ _ h1];exact hv,hr⟩
  have hA':=zeT (C:=cx C ph m W) ns (some l) cA assign _ ⟨zfd ps.toList y++fr,[],ph,m⟩ _ W hA hA1 hA2 zBv (hround i y W (zfJ ph m W) ph m hy0 q3.u0_up q1 q2) ⟨loc,hF0,q3.rebase loc⟩
  refine wpIn_mono hA' fun e a1 W1' hq=> ?_
  obtain ⟨σ1,hq1,loc1,hF1,hH1⟩:=hq
  cases e with
  |normal=>
   obtain ⟨g0,fr1,hf1,e3,hK⟩:=hq1
   have h2:HR C loc [] σ1.ph σ1.m W1':=q3.unbase hH1
   have hl2:=(q3.rebase loc).other hH1 q6 q4.1 q4.2
   have hd2:=(q3.rebase loc).other hH1 q7 q5.1 q5.2
   have hap1:=q3.apart' hH1 (Array.getElem?_eq_some_iff.1 q6).1 q4.1 q4.2
   have hapD1:=q3.apart' hH1 (Array.getElem?_eq_some_iff.1 q7).1 q5.1 q5.2
   refine ⟨_,run_beginRound hl2 (by rw [hrec]), ?_⟩
   have hlt2:l<W1'.heap.size:=(Array.getElem?_eq_some_iff.1 hl2).1
   have h3:=h2.put_other loc (.loop {rec .ready none with state:= .busy}) hap1.1 hap1.2 (by omega)
   have hl3:(W1'.putObj l (.loop {rec .ready none with state:= .busy})).heap[l]? =some (.loop {rec .ready none with state:= .busy}):=World.putObj_heap_same hlt2
   have hd3:(W1'.putObj l (.loop {rec .ready none with state:= .busy})).heap[D]? =some (.deferred (some [])):=(World.putObj_heap_other (Ne.symm hlD)).trans hd2
   generalize W1'.putObj l (.loop {rec .ready none with state:= .busy})=W2 at h3 hl3 hd3 ⊢
   have hFb:FR loc C.N fr1 [] σ1.ph a1:=by
    refine ⟨hF1.defers,hF1.size,fun t y hy=> ?_⟩
    obtain ⟨g,rfl⟩:=hf1 t y hy
    exact hF1.slots t _ (e3 t _ hy)
   have hBq:=zeT (C:=cx C σ1.ph σ1.m W2) ns (some l) cB body (zAh ⟨fr,[],ph0,m0⟩ (I (i+1)) Ix) ⟨fr1,[],σ1.ph,σ1.m⟩ a1 W2 hB hB1 hB2 zAF (hK W2 (zfJ σ1.ph σ1.m W2) h3.u0_up) ⟨loc,hFb,h3.rebase loc⟩
   refine wpIn_mono hBq fun e a3 W3 hq=> ?_
   obtain ⟨τ,hq3,loc3,hF3,hH3⟩:=hq
   have hl4:=(h3.rebase loc).other hH3 hl3 hap1.1 hap1.2
   have hd4:=(h3.rebase loc).other hH3 hd3 hapD1.1 hapD1.2
   have hap:=h3.apart' hH3 (Array.getElem?_eq_some_iff.1 hl3).1 hap1.1 hap1.2
   have hapD:=h3.apart' hH3 (Array.getElem?_eq_some_iff.1 hd3).1 hapD1.1 hapD1.2
   have h5:HR C loc [] τ.ph τ.m W3:=h3.unbase hH3
   have hlt4:l<W3.heap.size:=(Array.getElem?_eq_some_iff.1 hl4).1
   have stop:∀(e:Exit) (c:Code),zwk e=some c→(∀u∈ph0,u∈τ.ph)→Ix e τ.ph τ.m→∃v w',(Instr.endRound l (some c)).run C.P W3= .ok v w'∧((Ending.returned v= .returned (.bool true)∧J (i+1) w'∧ui.le w')∨(Ending.returned v= .returned (.bool false)∧Jx w')):=fun e c hj g1 g2=>by
    refine ⟨_,_,run_endRound (some c) hl4, .inr ⟨rfl, ?_⟩⟩
    rw [hJx]
    refine ⟨e,c,τ.ph,τ.m,hj,g1,g2,h5.put_other loc _ hap.1 hap.2 (by omega),hap,hapD, ?_,(World.putObj_heap_other (Ne.symm hlD)).trans hd4⟩
    rw [World.putObj_heap_same hlt4,hrec]
    rfl
   cases e with
   |normal=>
    obtain ⟨g1,g2⟩:=hq3
    refine ⟨_,_,run_endRound none hl4, .inl ⟨rfl, ?_, ?_⟩⟩
    ·rw [hJ]
     refine ⟨τ.ph,τ.m,g1,g2,h5.put_other loc _ hap.1 hap.2 (by omega),hap,hapD, ?_,(World.putObj_heap_other (Ne.symm hlD)).trans hd4⟩
     rw [World.putObj_heap_same hlt4,hrec]
     rfl
    ·exact ((h5.put_other loc _ hap.1 hap.2 (by omega)).phs ui (g1 ui hui)).1
   |ret=>exact stop .ret .ret rfl hq3.1 hq3.2
   |exit id=>exact stop (.exit id) (.exit id) rfl hq3.1 hq3.2
   |goto l=>exact hq3.elim
   |panic c=>exact hq3.elim
   |outgrown=>exact hq3.elim
  |_=>exact hq1.elim
 ·rw [hJ]
  exact ⟨ph0,m0,fun _ h=>h,h0,hH.grown hk1,fresh (by omega),fresh (by omega),hL1,hK1⟩
 ·have mark:∀{ph:List PH} {m:PH} {W:World} {o:Obj},(∀u∈ph0,u∈ph)→HR C loc [] ph m W→(m l=none∧∀u∈ph,u l=none)→(m D=none∧∀u∈ph,u D=none)→W.heap[D]? =some (.deferred (some []))→
    Rel C ⟨fr,[],one D (.deferred (some []))::ph,m⟩ {act with defers:=[{target:= .collected D,args:= #[]}]++act.defers} (W.putObj l o):=by
   intro ph m W o g1 g2 g3 g4 g5
   have hp:=hF.plain (loc':=loc) (pv':=[]) (ph':=one D (.deferred (some []))::ph) hfr (fun u hu=>List.mem_cons_of_mem _ (g1 u hu))
   refine ⟨loc,⟨⟨List.pairwise_cons.2 ⟨fun d hd=> ?_,hF.defers.1⟩,fun d hd=> ?_⟩,hp.size,hp.slots⟩,(g2.put_other loc o g3.1 g3.2 (by omega)).add ((World.putObj_heap_other (Ne.symm hlD)).trans g5) g4.1 (by omega)⟩
   ·obtain ⟨D',u,h1,h2,h3⟩:=hF.defers.2 d hd
    rw [h1]
    intro e
    have e:D=D':=by simpa using e
    have:=(fresh (b:=D') (by omega)).2 u h2
    rw [h3]at this;cases this
   ·rcases List.mem_cons.1 hd with rfl|hd
    ·exact ⟨D,one D (.deferred (some [])),rfl,by simp,by simp [one]⟩
    ·exact hp.defers.2 d hd
  rintro e W2 ⟨⟨v,rfl⟩,(h|h)⟩
  ·rw [hJ]at h
   obtain ⟨ph,m,q1,q2,q3,q4,q5,q6,q7⟩:=h
   rw [List.length_map]at q2
   refine ⟨none,_,(by have:=run_endLoop (P:=C.P) q6 (by rw [hrec];simp);rw [hrec]at this;exact this), ?_⟩
   exact ⟨_,hdone _ ph m q1 q2,mark q1 q3 q4 q5 q7⟩
  ·rw [hJx]at h
   obtain ⟨e,c,ph,m,q0,q1,q2,q3,q4,q5,q6,q7⟩:=h
   refine ⟨some c,_,(by have:=run_endLoop (P:=C.P) q6 (by rw [hrec];simp);rw [hrec]at this;exact this), ?_⟩
   cases e with
   |ret=>cases q0;exact wpIn_ret ⟨_,hstop .ret _ _ ph m rfl q1 q2,mark q1 q3 q4 q5 q7⟩
   |exit id=>cases q0;exact wpIn_exit ⟨_,hstop (.exit id) _ _ ph m rfl q1 q2,mark q1 q3 q4 q5 q7⟩
   |_=>cases q0
end Go.Proofs.YtmjiojflncffeaaGreat.Vc

set_option linter.unusedVariables false
set_option maxRecDepth 100000
namespace Go.Proofs.YtmjiojflncffeaaGreat.Vc
open Go Go.Proofs
abbrev zpp:Nat:=24
def ziT:Cd:=
 (.seq (.rg [⟨none,[(some 2, .mv (.c .nilFunc))]⟩] [0])
 (.seq (.rg [⟨none,[(some 3, .new 79 (.s (.slice none 0 0)))]⟩] [0,3])
 (.seq (.seq (.rg [⟨none,[(some 4, .mv (.t 0)),(some 5, .call 35 [(.t 4)]),(some 6, .un .not (.t 5))]⟩] [0,3,6])
 (.ite (.t 6)
 (.rg [⟨none,[(some 7, .mv (.t 0)),(some 8, .nilc (.t 7)),(some 9, .fldA (.t 8) 3 3),(some 10, .ld (.t 9) 1 false),(some 11, .call 43 [(.t 10)]),(none, .st (.t 3) (.t 11) 1)]⟩] [3])
 .skip))
 (.seq (.rg [⟨none,[(none, .gh),(some 12, .mkf 61 [(.t 3)]),(some 2, .mv (.t 12))]⟩] [2])
 .ret))))
theorem zoU:Ok Tryz.prog 24 ziT 13 [] [.tmp 2]:=Ok.mk' Tryz.func24 (by kernel_rfl) (by kernel_rfl) (by kernel_rfl)
abbrev zco:Nat:=61
end Go.Proofs.YtmjiojflncffeaaGreat.Vc

set_option linter.unusedVariables false
set_option linter.unusedSimpArgs false
set_option maxRecDepth 100000
namespace Go.Proofs.YtmjiojflncffeaaGreat.Vc
open Go Go.Proofs Go.Shelf
theorem zBs {w:World} {u:PH} (hu:u.le w) {b:Nat} {L Lb:Lay} {p:PL} (hL:LogM u b L Lb p) (hl:p.ds.length≤549755813888):
  Spec Tryz.prog zpp [ptr b] PH.no w fun rs m'=>∃bo e v,rs=[.s (.func (.func zco) #[] #[ptr bo])]∧m' bo=some (.cells #[v] e (0,0))∧SlR m' v 22 (p.ds.map zap):=by
 refine zaT zoU [.g (.s (ptr b))] (by simp) (by simp [AV.ok,GV.ok,Value.oneCell',ptr]) ?_
 obtain ⟨ov,mT,mB,hS,_,_,hs⟩:=hL.look
 simp (maxSteps:=2000000) only [ziT,ptr,zi,zm,zf,zc,zb,zh,zd,za,zj,ev,look,zab,ze,zg,zk,Value.oneCell',cond_true,↓reduceIte,reduceCtorEq,Bool.true_and,true_and,zah,zaH,ptr]
 refine zbd _ [.s (.bool false)] rfl rfl (fun w' vs hv hw _ _=> ?_) ?_
 ·obtain ⟨vs,rfl,_,hv⟩:=zs hv
  obtain rfl:=zr hv
  exact zdb (fun b o h=>hw b o (by rw [zaL];exact hu b o h)) hL
 simp (maxSteps:=2000000) only [zJ,zm,zp,zf,zc,zb,zh,zd,za,zj,ev,look,ze,zg,zk,unV,Nat.reduceEqDiff,↓reduceIte,reduceCtorEq,Nat.zero_add,Bool.not_false,↓zL]
 refine zK _ (hs (zdJ hu)).2.2.2.1 rfl ?_
 simp (maxSteps:=2000000) only [za,zj,ze]
 refine zaE rfl rfl (Q:=fun rs m'=>∃v',rs=[.s v']∧SlO m' v' 97 22 (p.ds.map zap)) (fun w' vs hv hw _ _=> ?_) fun rs m1 _ hq _=> ?_
 ·obtain ⟨vs,rfl,_,hv⟩:=zs hv
  obtain rfl:=zr hv
  exact zjH w' ov p.ds hl u (fun b o h=>hw b o (by rw [zaL];exact hu b o h)) hS
 obtain ⟨v1,rfl,hs1⟩:=hq
 have hv1:=hs1.one
 simp (maxSteps:=2000000) only [zJ,zae,zi,zm,zf,zc,zb,zh,zd,za,zj,ev,look,zab,ze,zR,zg,zk,GV.getT,GV.sz,GV.same,GV.setT,Nat.reduceEqDiff,↓reduceIte,reduceCtorEq,Bool.and_true,Bool.true_and,true_and,and_true]
 refine zbI 3 3 rfl rfl fun v u2 hv hp hd=> ?_
 obtain ⟨hok,bo,e,rfl,rfl⟩:=hp
 simp (maxSteps:=2000000) only [dropK,zt,zf,zc,zV,zb,zd,za,zj,ev,evL,scL,look,ze,zg,zk,cond_true,↓reduceIte,BEq.rfl,Option.map_some,zbv,SV.mentions]
 exact zbj (rs:=[.s (.func (.func zco) #[] #[ptr bo])]) _ rfl (fun _ _ h=>h) ⟨bo,e,v1,rfl,by simp [uni,one,GV.flat],hs1.toR.up (zax hd)⟩
def zwe (x:Done):List GV:=[gOp x.op, .s (.bool x.taken)]
def zyZ (x:Done):List Value:=(zwe x).map GV.val
theorem zCs {C:Ctx} {ph:List PH} {m u:PH} (hk:KN C.u0 (m::ph) u) {b:Nat} {cs:Array Value} {e:TypeId} {fz:Nat×Nat} (h:u b=some (.cells cs e fz)) {j:Nat} {v:Value} (hj:cs[j]? =some v) (hv:v.oneCell'=true):zci C ph m b j (.s v):=zaC hk h hj hv
noncomputable def o1W:Code:=Tryz.f61.body.getD .skip
noncomputable def o1X:Code:=atL (atL (atR o1W))
noncomputable def o1R:Code:=atR (atR o1X)
noncomputable def o1S:Code:=atL (atL o1R)
noncomputable def o1Y:Code:=atL (atR o1S)
theorem zAO:o1W= .seq (atL o1W) (.block 0 (.loop (.seq (atL o1X) (.seq (.cond (.tmp 8) .skip (.exit 0)) (.seq (.block 1 (.seq (atL o1S) (.seq (.region (regId o1Y) (zjD o1Y) false) (.cond (.tmp 17) .ret .skip)))) (atR o1R)))))):=by kernel_rfl
theorem zxt:(zjD o1Y).all (zcZ 19)=true∧(zjD o1Y).all (zbz (zjD o1Y))=true∧(zjD o1Y).all zhv=true:=⟨by kernel_rfl,by kernel_rfl,by kernel_rfl⟩
noncomputable def o1o:Oper:=((zjD o1Y).toList[5]?).getD default
noncomputable def o1c:Call:=match o1o.op with| .call c=>c|_=>default
theorem o1_o:(zjD o1Y).toList.drop 5=o1o::(zjD o1Y).toList.drop 6:=by kernel_rfl
theorem zmH:o1o.op= .call o1c∧o1o.guard=none∧o1o.dst=some 16∧o1c.callee= .value (.tmp 11)∧o1c.args= #[.tmp 13, .tmp 15]:=⟨by kernel_rfl,by kernel_rfl,by kernel_rfl,by kernel_rfl,by kernel_rfl⟩
theorem ziH {N:Nat} {fr:List (Nat×SV)} {a:Act} (h:Slots N fr a) {t:Nat} {v:Value} (ht:look fr t=some (.g (.s v))):a.eval (.tmp t)=v:=by
 obtain ⟨g,e,_,h2⟩:=h.at' t _ ht
 cases e
 simp [Act.eval,h2,GV.val]
theorem zoM {N:Nat} {fr:List (Nat×SV)} {a:Act} (h:Slots N fr a) {t:Nat} {g:GV} (ht:look fr t=some (.g g)):a.eval (.tmp t)=g.val:=by
 obtain ⟨g',e,_,h2⟩:=h.at' t _ ht
 cases e
 simp [Act.eval,h2]
theorem zjn {fr:List (Nat×SV)} (h:fr.all (fun p=>match p.2 with| .g _=>true|_=>false)=true):frG fr:=by
 intro t x hx
 induction fr with
 |nil=>simp [look]at hx
 |cons p fr ih=>
  obtain ⟨k,y⟩:=p
  simp only [List.all_cons,Bool.and_eq_true]at h
  simp only [look]at hx
  split at hx
  ·cases hx
   cases x with
   |g x=>exact ⟨x,rfl⟩
   |_=>simp at h
  ·exact ih h.2 hx
def hd1 (yv v:Value) (n i:Nat):List (Nat×SV):=[(0, .g (.s yv)),(5, .g (.s v)),(6, .g (.s (.int .i64 (n)))),(7, .g (.s (.int .i64 (i))))]
theorem o1_c0 (w:World) (ui:PH) (hu:ui.le w) {b:Nat} {e:TypeId} {v yv:Value} {n:Nat} {a:Option Addr} {c:Nat} (hv:v= .slice a n c) (hb:ui b=some (.cells #[v] e (0,0))):
  vc (cw Tryz.prog 19 w) (.rg [⟨none,[(some 5, .ld (.t 1) 1 false),(some 6, .len (.t 5)),(some 7, .mv (.c (.int .i64 0)))]⟩] [0,5,6,7]) (zmV fun e fr=>e= .normal∧fr=hd1 yv v n 0) ⟨[(0, .g (.s yv)),(1, .g (.s (.pointer (some ⟨b,0,none⟩))))],[],[],PH.no⟩:=by
 have hk:∀{l:List PH},KN (⟨Tryz.prog,19,w,PH.no⟩:Ctx).u0 l ui:=zdJ hu
 subst hv
 simp (maxSteps:=2000000) only [zm,zh,za,zj,ev,look,↓reduceIte,reduceCtorEq]
 refine zK (.s (.slice a n c)) (zCs hk hb (j:=0) (v:= .slice a n c) rfl rfl) rfl ?_
 simp (maxSteps:=2000000) only [zc,zb,zd,za,zj,ev,look,ze,zg,zk,Value.oneCell',cond_true,Nat.reduceEqDiff,↓reduceIte,reduceCtorEq]
 exact ⟨.inl rfl,rfl,hd1 yv (.slice a n c) n 0,zjn rfl,⟨rfl,rfl⟩,fun t x hx=>by simpa [hd1]using hx⟩
theorem o1_cA (w:World) {v yv:Value} {n i:Nat}:
  vc (cw Tryz.prog 19 w) (.rg [⟨none,[(some 8, .bin .lss (.t 7) (.t 6))]⟩] [0,5,6,7,8]) (zmV fun e fr=>e= .normal∧fr=(8, .g (.s (.bool (decide ((i:Int)<n)))))::hd1 yv v n i) ⟨hd1 yv v n i,[],[],PH.no⟩:=by
 unfold hd1
 simp (maxSteps:=2000000) only [zm,zc,zb,zh,zd,za,zj,ev,look,ze,zg,zk,zN,zO,Nat.reduceEqDiff,↓reduceIte,reduceCtorEq,Bool.true_and,true_and]
 exact ⟨.inl rfl,rfl,_,zjn rfl,⟨rfl,rfl⟩,fun t x hx=>by
  simp only [look]at hx ⊢
  (repeat' split at hx)<;>simp_all⟩
theorem o1_cE (w:World) {v yv:Value} {n i:Nat} (hn:n≤9223372036854775800) (hi:i<n):
  vc (cw Tryz.prog 19 w) (.rg [⟨none,[(some 18, .bin .add (.t 7) (.c (.int .i64 1))),(some 7, .mv (.t 18))]⟩] [0,5,6,7]) (zmV fun e fr=>e= .normal∧fr=hd1 yv v n (i+1)) ⟨hd1 yv v n i,[],[],PH.no⟩:=by
 unfold hd1
 simp (maxSteps:=2000000) only [zm,zc,zb,zh,zd,za,zj,ev,look,ze,zg,zk,zN,zO,Value.oneCell',cond_true,Nat.reduceEqDiff,↓reduceIte,reduceCtorEq,Bool.true_and,true_and]
 rw [zaM (by omega)]
 exact ⟨.inl rfl,rfl,_,zjn rfl,⟨rfl,rfl⟩,fun t x hx=>by simpa using hx⟩
theorem o1_cB (w:World) (ui:PH) (hu:ui.le w) {yv:Value} {b0 o0 c:Nat} {xs:List Done} (hS:SlR ui (.slice (some ⟨b0,o0,none⟩) xs.length c) 22 (xs.map zap)) {i:Nat} (hi:i<xs.length):
  vc (cw Tryz.prog 19 w) (.rg [⟨none,[(some 9, .idxS (.t 5) (.t 7) 22),(some 10, .ld (.t 9) 22 true),(some 4, .new 97 (zap zbh)),(none, .st (.t 4) (.t 10) 22)]⟩] [0,4,5,6,7])
   (fun e τ=>e= .normal∧τ.ph=[]∧zbO (cw Tryz.prog 19 w) [⟨none,[(some 11, .mv (.t 0)),(some 12, .fldA (.t 4) 0 0),(some 13, .ld (.t 12) 8 true),(some 14, .fldA (.t 4) 1 8),(some 15, .ld (.t 14) 1 false)]⟩]
    (fun τ=>τ.ph=[]∧∀t x,look ([(11, .g (.s yv)),(13, .g (gOp (xs.getD i zbh).op)),(15, .g (.s (.bool (xs.getD i zbh).taken)))]++hd1 yv (.slice (some ⟨b0,o0,none⟩) xs.length c) xs.length i) t=some x→look τ.fr t=some x) τ) ⟨hd1 yv (.slice (some ⟨b0,o0,none⟩) xs.length c) xs.length i,[],[],PH.no⟩:=by
 have hk:∀{l:List PH},KN (⟨Tryz.prog,19,w,PH.no⟩:Ctx).u0 l ui:=zdJ hu
 rcases hS.shape with ⟨h1,_⟩|⟨_,b,o,c',h2,h3,h4⟩
 ·have:xs=[]:=by simpa using h1
  subst this;simp at hi
 simp only [Value.slice.injEq,Option.some.injEq,List.length_map]at h2 h3
 obtain ⟨h2,_,rfl⟩:=h2
 cases h2
 have hseen:=fun {C:Ctx} {ph:List PH} {m:PH} (hu:KN C.u0 (m::ph) ui)=>h4 hu i (zap (xs.getD i zbh)) (by rw [List.getElem?_map,List.getD_eq_getElem?_getD,List.getElem?_eq_getElem hi];rfl)
 generalize xs.getD i zbh=q at hseen ⊢
 unfold hd1
 simp (maxSteps:=2000000) only [zm,zb,zh,zd,za,zj,ev,look,ze,zdm,Nat.reduceEqDiff,↓reduceIte,reduceCtorEq,List.nil_append,List.cons_append,Nat.add_zero,Int.toNat_natCast]
 refine ⟨⟨by omega,by omega⟩,zK _ (hseen hk) rfl ?_⟩
 simp (maxSteps:=2000000) only [zc,zb,zd,za,zj,ev,look,zab,ze,zR,zg,zk,GV.getT,Nat.reduceEqDiff,↓reduceIte,reduceCtorEq,List.nil_append,Bool.and_true,Bool.true_and,Bool.not_false,true_and,and_true,zn,zaa,zF,zbM,zgG,zqO,zit,zeY,ziu,ziE]
 intro t x hx
 (repeat' split at hx)<;>simp_all
theorem zCF (w:World) {yv v:Value} {n i:Nat} {b:Bool}:
  zbO (cw Tryz.prog 19 w) [⟨none,[(some 17, .un .not (.t 16))]⟩] (fun τ=>τ.ph=[]∧∀t x,look ((17, .g (.s (.bool !b)))::hd1 yv v n i) t=some x→look τ.fr t=some x) ⟨(16, .g (.s (.bool b)))::hd1 yv v n i,[],[],PH.no⟩:=by
 unfold hd1
 simp (maxSteps:=2000000) only [zb,zh,zd,za,zj,ev,look,ze,unV,↓reduceIte,Bool.true_and,true_and]
 intro t x hx
 (repeat' split at hx)<;>simp_all
theorem ztH {yv v:Value} {n i:Nat} {t:Nat} {x:SV} (h:look (hd1 yv v n i) t=some x):t=0∨t=5∨t=6∨t=7:=by
 simp only [hd1,look]at h
 split at h
 ·exact .inl ‹_›
 ·split at h
  ·exact .inr (.inl ‹_›)
  ·split at h
   ·exact .inr (.inr (.inl ‹_›))
   ·split at h
    ·exact .inr (.inr (.inr ‹_›))
    ·cases h
theorem zqi {pre fr:List (Nat×SV)} {t:Nat} {x:SV} (h:look fr t=some x) (hn:look pre t=none):look (pre++fr) t=some x:=by
 rw [zje,hn,h];rfl
theorem Slots.sub {N:Nat} {fr fr':List (Nat×SV)} {a:Act} (h:Slots N fr a) (hs:∀t x,look fr' t=some x→look fr t=some x):Slots N fr' a:=⟨h.defers,h.size,fun t x hx=>h.at' t x (hs t x hx)⟩
theorem zzC (ui:PH) {b:Nat} {e:TypeId} {v:Value} {xs:List Done} (hb:ui b=some (.cells #[v] e (0,0))) (hS:SlR ui v 22 (xs.map zap)) (hl:xs.length≤9223372036854775800):
  Iter Tryz.prog zco [ptr b] ui (xs.map zyZ):=by
 intro l J Jx W hu hJ hJx hY h0
 obtain ⟨yv,hyv⟩:∃yv:Value,yv= .func (.yield l) #[] #[]:=⟨_,rfl⟩
 have hy1:yv.oneCell'=true:=by rw [hyv];rfl
 obtain ⟨a0,c0,hv⟩:=zcz hS
 rw [List.length_map]at hv
 have hbody:Tryz.f61.body=some o1W:=by kernel_rfl
 refine callsIn_of_wp_marks Tryz.func61 hbody trivial ?_ rfl
 have fin:∀(fr:List (Nat×SV)) (a:Act) (w:World),Slots 19 fr a→(J xs.length w∨Jx w)→LeavesInM Fence.wide 0 Tryz.prog Tryz.f61 a.tmps (fun e W'=>(∃v,e= .returned v)∧(J (xs.map zyZ).length W'∨Jx W')) a.defers .returning w:=fun fr a w hs h=>by
  rw [hs.defers]
  have hres:=(zoD (fn:=Tryz.f61) (hs.rel (P:=Tryz.prog) w) (rv:=[]) (rs:=[]) (by kernel_rfl) rfl).2
  exact ⟨_,hres,⟨_,rfl⟩,by rw [List.length_map];exact h⟩
 have hN:Tryz.f61.ntmps=19:=by kernel_rfl
 have hs0:Slots 19 [(0, .g (.s yv)),(1, .g (.s (.pointer (some ⟨b,0,none⟩))))] {tmps:= #[Value.func (.yield l) #[] #[]]++[ptr b].toArray++Array.replicate (Tryz.f61.ntmps - (#[Value.func (.yield l) #[] #[]]++[ptr b].toArray).size) undef,defers:=[]}:=by
  refine ⟨rfl,by rw [hN];simp,fun t x hx=> ?_⟩
  simp only [look]at hx
  split at hx
  ·rename_i ht;subst ht;cases hx;exact ⟨_,rfl,hy1,by rw [hyv];simp [GV.val]⟩
  ·split at hx
   ·rename_i ht;subst ht;cases hx;exact ⟨_,rfl,rfl,by simp [GV.val,ptr]⟩
   ·cases hx
 rw [zAO]
 refine wpIn_seq (zAl (P:=Tryz.prog) (N:=19) (ns:=[]) (cd:= .rg [⟨none,[(some 5, .ld (.t 1) 1 false),(some 6, .len (.t 5)),(some 7, .mv (.c (.int .i64 0)))]⟩] [0,5,6,7]) (by kernel_rfl) rfl (by kernel_rfl) hs0 (o1_c0 W ui hu hv hb) fun e fr' a1 W1 hR hs1 hk1 _=> ?_)
 obtain ⟨rfl,rfl⟩:=hR
 have keep:∀{w w':World},ui.le w→Kept PH.no w w'→ui.le w':=fun {w w'} h hk b o hb=>by
  have:=h b o hb
  rw [hk.2.2.2.2 b (Array.getElem?_eq_some_iff.1 this).1 rfl];exact this
 refine wpIn_block (wpIn_loop_ghost (fun k a w=>∃i,i≤xs.length∧k=xs.length - i∧Slots 19 (hd1 yv v xs.length i) a∧ui.le w∧J i w) xs.length ⟨0,by omega,by omega,hs1,keep hu hk1,hJ 0 W W1 h0 hk1⟩ ?_)
 rintro k a w ⟨i,hi,rfl,hs,hui,hj⟩
 refine wpIn_seq (zAl (P:=Tryz.prog) (N:=19) (ns:=[]) (cd:= .rg [⟨none,[(some 8, .bin .lss (.t 7) (.t 6))]⟩] [0,5,6,7,8]) (by kernel_rfl) rfl (by kernel_rfl) hs (o1_cA w) fun e fr' a2 w2 hR hs2 hk2 _=> ?_)
 obtain ⟨rfl,rfl⟩:=hR
 have hui2:=keep hui hk2
 have hj2:=hJ i w w2 hj hk2
 refine wpIn_seq (wpIn_cond_split (t:=decide ((i:Int)<xs.length)) (ziH hs2 rfl) (fun ht=>wpIn_skip ?_) (fun ht=>wpIn_exit ?_))
 ·have hlt:i<xs.length:=by simpa using ht
  obtain ⟨b1,o1,c1,rfl⟩:∃b1 o1 c1,v= .slice (some ⟨b1,o1,none⟩) xs.length c1:=by
   rcases hS.shape with ⟨h1,_⟩|⟨_,b1,o1,c1,h2,_⟩
   ·have:xs=[]:=by simpa using h1
    subst this;simp at hlt
   ·rw [List.length_map]at h2
    exact ⟨b1,o1,c1,h2⟩
  have hs2':Slots 19 (hd1 yv (.slice (some ⟨b1,o1,none⟩) xs.length c1) xs.length i) a2:=hs2.sub fun t x hx=>zqi (pre:=[(8,_)]) hx (by rcases ztH hx with rfl|rfl|rfl|rfl<;>rfl)
  refine wpIn_seq (wpIn_block (wpIn_seq ?_))
  have hcB:=zeT (C:=cw Tryz.prog 19 w2) [] none _ (atL o1S) _ _ a2 w2 (by kernel_rfl) rfl (by kernel_rfl) (fun σ h=>by cases h.1) (o1_cB w2 ui hui2 hS hlt) (hs2'.rel w2)
  refine wpIn_mono hcB fun e a3 w3 hq=> ?_
  obtain ⟨τ,⟨rfl,hph,hseg⟩,hrel⟩:=hq
  refine wpIn_seq (zzj (P:=Tryz.prog) (N:=19) (C:=cw Tryz.prog 19 w2) rfl rfl zxt.1 zxt.2.1 zxt.2.2 5 16 11 l o1o o1c o1_o zmH.1 zmH.2.1 zmH.2.2.1 zmH.2.2.2.1 _ [⟨none,[(some 17, .un .not (.t 16))]⟩] (by kernel_rfl) (by kernel_rfl) hrel _ hseg ?_)
  rintro τ1 a4 w4 ⟨hp1,hl1⟩ hr1
  obtain ⟨hs4,hk4⟩:=hr1.slots hp1 (zjn rfl) hl1
  refine ⟨by rw [←hyv];exact ziH hs4 rfl, ?_⟩
  have hargs:o1c.args.map a4.eval=(zyZ (xs.getD i zbh)).toArray:=by
   rw [zmH.2.2.2.2]
   simp only [List.map_toArray,List.map_cons,List.map_nil]
   rw [zoM hs4 (t:=13) rfl,zoM hs4 (t:=15) rfl]
   rfl
  rw [hargs]
  have hget:(xs.map zyZ)[i]? =some (zyZ (xs.getD i zbh)):=by
   rw [List.getElem?_map,List.getD_eq_getElem?_getD,List.getElem?_eq_getElem hlt];rfl
  obtain ⟨fn,tmps,assign,body,hy,hround⟩:=hY i _ w4 hget (hJ i w2 w4 hj2 hk4)
  refine ⟨fn,tmps,assign,body,hy,hround.mono fun e w5 he=> ?_⟩
  have zew:∀bb:Bool,Slots 19 ((16, .g (.s (.bool bb)))::hd1 yv (.slice (some ⟨b1,o1,none⟩) xs.length c1) xs.length i) (a4.put (some 16) (.bool bb)):=fun bb=>by
   refine ⟨hs4.defers,by simp [Act.put,hs4.size],fun t x hx=> ?_⟩
   simp only [look]at hx
   split at hx
   ·rename_i ht;subst ht;cases hx
    exact ⟨_,rfl,rfl,by simp only [Act.put];rw [Array.getElem?_setIfInBounds_self_of_lt (by rw [hs4.size];omega)];rfl⟩
   ·rename_i ht
    obtain ⟨g,rfl,h1,h2⟩:=hs4.at' t x (zqi hx (by rcases ztH hx with rfl|rfl|rfl|rfl<;>rfl))
    exact ⟨g,rfl,h1,by simp only [Act.put];rw [Array.getElem?_setIfInBounds_ne (fun e=>ht e.symm)];exact h2⟩
  rcases he with ⟨rfl,hj5,hui5⟩|⟨rfl,hjx⟩
  ·refine ⟨true,rfl,_,_,zew true,zCF w5,fun τ2 a5 w6 hq2 hr2=> ?_⟩
   obtain ⟨hs6,hk6⟩:=hr2.slots hq2.1 (zjn rfl) hq2.2
   refine wpIn_cond_split (t:= !true) (ziH hs6 rfl) (fun ht=>by cases ht) (fun ht=>wpIn_skip ?_)
   have hs6':Slots 19 (hd1 yv (.slice (some ⟨b1,o1,none⟩) xs.length c1) xs.length i) a5:=hs6.sub fun t x hx=>zqi (pre:=[(17,_)]) hx (by rcases ztH hx with rfl|rfl|rfl|rfl<;>rfl)
   refine zAl (P:=Tryz.prog) (N:=19) (ns:=[]) (cd:= .rg [⟨none,[(some 18, .bin .add (.t 7) (.c (.int .i64 1))),(some 7, .mv (.t 18))]⟩] [0,5,6,7]) (code:=atR o1R) (by kernel_rfl) rfl (by kernel_rfl) hs6' (o1_cE w6 hl hlt) fun e fr' a7 w7 hR hs7 hk7 _=> ?_
   obtain ⟨rfl,rfl⟩:=hR
   exact ⟨xs.length - (i+1),by omega,i+1,by omega,rfl,hs7,keep (keep hui5 hk6) hk7,hJ _ _ _ (hJ _ _ _ hj5 hk6) hk7⟩
  ·refine ⟨false,rfl,_,_,zew false,zCF w5,fun τ2 a5 w6 hq2 hr2=> ?_⟩
   obtain ⟨hs6,hk6⟩:=hr2.slots hq2.1 (zjn rfl) hq2.2
   refine wpIn_cond_split (t:= !false) (ziH hs6 rfl) (fun ht=>wpIn_ret ?_) (fun ht=>by cases ht)
   exact fin _ a5 w6 hs6 (.inr (hJx _ _ hjx hk6))
 ·have hge:i=xs.length:=by
   have:¬(i:Int)<xs.length:=by simpa using ht
   omega
  exact fin _ a2 w2 hs2 (.inl (hge▸hj2))
end Go.Proofs.YtmjiojflncffeaaGreat.Vc

set_option linter.unusedVariables false
set_option linter.unusedSimpArgs false
namespace Go.Proofs.YtmjiojflncffeaaGreat.Vc
open Go Go.Shelf
section
variable {C:Ctx} {σ:SS} {a:Act} {w:World} {K:KT}
theorem Rel.ownBox (h:Rel C σ a w) {t:Nat} (k:Nat) {v:Value} {g:GV} {u m':PH} (ht:look σ.fr t=some (.g (.s v))) (hk:look σ.pv k=none) (hp:PtO u v g) (hm:σ.m=uni u m') (hd:dis u m'):
  Rel C ⟨(t, .ref k [])::σ.fr,(k, .box g)::σ.pv,σ.ph,m'⟩ a w:=by
 obtain ⟨loc,hF,hH⟩:=h
 obtain ⟨v',hv,hvs⟩:=hF.slots t _ ht
 have hvv:v'=v:=hvs.2
 subst hvv
 have hmle:∀j,σ.m j=none→m' j=none:=fun j hj=>by
  rw [hm]at hj
  cases h1:m' j with
  |none=>rfl
  |some o=>simp [uni,h1]at hj
 have hm'le:∀j o,m' j=some o→σ.m j=some o:=fun j o hj=>by
  rw [hm];exact zax hd j o hj
 obtain ⟨hok,b0,e,hv0,hu⟩:=hp
 have hub:u b0=some (.cells g.flat.toArray e (0,0)):=by rw [hu];simp [one]
 have hmb:σ.m b0=some (.cells g.flat.toArray e (0,0)):=by rw [hm];simp [uni,hub]
 have hb:w.heap[b0]? =some (.cells g.flat.toArray e (0,0)):=hH.mle b0 _ hmb
 have hoff:g.offs []=0:=by cases g<;>rfl
 have hget:g.get []=some g:=by cases g<;>rfl
 refine ⟨fun j=>if j=k then some (b0,0,0)else loc j,⟨hF.defers,hF.size,fun s x hx=> ?_⟩,⟨hH.kept,fun j y hj=> ?_,fun j j' y y' b o c o' c' g1 g2 g3 g4 g5 g6=> ?_,fun j y b o c g1 g2 g3=> ?_,fun j o hj=>hH.mle j o (hm'le j o hj),fun j hj=>hH.mmine j (fun e=>hj (hmle j e)),fun u' hu=>⟨(hH.phs u' hu).1,fun j hj=>⟨((hH.phs u' hu).2 j hj).1,hmle j ((hH.phs u' hu).2 j hj).2⟩⟩⟩⟩
 ·simp only [look]at hx
  split at hx
  ·rename_i e1;subst e1
   simp at hx;subst hx
   exact ⟨v',hv,g,b0,0,g,by simp [look],by simp,hget,by rw [hoff];exact hv0⟩
  ·obtain ⟨v2,hv2,hr2⟩:=hF.slots s x hx
   refine ⟨v2,hv2,hr2.weaken fun j hj=> ?_⟩
   have hjk:j≠k:=fun e=>hr2.there j hj (e▸hk)
   exact ⟨by simp [hjk],by simp [look,hjk]⟩
 ·simp only [look]at hj
  split at hj
  ·rename_i e1;subst e1
   simp at hj;subst hj
   exact ⟨hok,b0,0,e,by simp,hb⟩
  ·rename_i hjk
   have hp:=hH.pvs j y hj
   cases y with
   |box g=>simpa [PVr,hjk]using hp
   |row e' z' df' xs'=>simpa [PVr,hjk]using hp
   |ro z' df' xs'=>simpa [PVr,hjk]using hp
 ·simp only [look]at g1 g4
  by_cases hj:j=k
  ·by_cases hj':j'=k
   ·rw [hj,hj']
   ·simp only [hj,if_true]at g3
    simp only [hj',if_false]at g4 g6
    have e2:=(hH.priv j' y' b o' c' g4 g5 g6).2.1
    simp only [Option.some.injEq,Prod.mk.injEq]at g3
    rw [←g3.1,hmb]at e2;cases e2
  ·simp only [hj,if_false]at g1 g3
   by_cases hj':j'=k
   ·simp only [hj',if_true]at g6
    have e2:=(hH.priv j y b o c g1 g2 g3).2.1
    simp only [Option.some.injEq,Prod.mk.injEq]at g6
    rw [←g6.1,hmb]at e2;cases e2
   ·simp only [hj',if_false]at g4 g6
    exact hH.apart j j' y y' b o c o' c' g1 g2 g3 g4 g5 g6
 ·simp only [look]at g1
  by_cases hj:j=k
  ·simp only [hj,if_true,Option.some.injEq,Prod.mk.injEq]at g3
   obtain ⟨rfl,_,_⟩:=g3
   have hmb':σ.m b0≠none:=by rw [hmb];simp
   refine ⟨hH.mmine b0 hmb',(hd b0).resolve_left (by rw [hub];simp),fun u' hu'=> ?_⟩
   cases hub':u' b0 with
   |none=>rfl
   |some x=>exact absurd ((hH.phs u' hu').2 b0 (by simp [hub'])).2 hmb'
  ·simp only [hj,if_false]at g1 g3
   obtain ⟨e1,e2,e3⟩:=hH.priv j y b o c g1 g2 g3
   exact ⟨e1,hmle b e2,e3⟩
end
end Go.Proofs.YtmjiojflncffeaaGreat.Vc

set_option linter.unusedVariables false
set_option linter.unusedSimpArgs false
set_option maxRecDepth 100000
namespace Go.Proofs.YtmjiojflncffeaaGreat.Vc
open Go Go.Proofs
theorem LHist.flags {mk:Value} {B:PT} {i0 ids:List Int} {ds:List Done} (h:LHist mk B i0 ds ids):zcX B (ds.map (·.op))=ds.map (·.taken):=by
 induction h with
 |nil=>rfl
 |no h hm ih=>rw [List.map_append,List.map_append,List.map_singleton,zhq,ih,hm];rfl
 |yes h hm _ _ _ ih=>rw [List.map_append,List.map_append,List.map_singleton,zhq,ih,hm];rfl
theorem zwE:(zxp zbC).toList=[63,64]:=by kernel_rfl
theorem zzV:zbC= .rangeFunc (.tmp 62) (zxp zbC) (zwy zbC) (zxK zbC):=by kernel_rfl
theorem zsF:zdc (zwy zbC)=true∧zdc (zxK zbC)=true:=⟨by kernel_rfl,by kernel_rfl⟩
theorem zyD (ds:List Done):(ds.map zwe).map (fun x=>x.map GV.val)=ds.map zyZ:=by rw [List.map_map];rfl
theorem zyO {ds:List Done} {n:Nat} (hn:n=2):∀x∈ds.map zwe,x.length=n:=fun x hx=>by
 obtain ⟨d,_,rfl⟩:=List.mem_map.1 hx
 rw [hn];rfl
theorem zzY {ds:List Done}:∀x∈ds.map zwe,∀g∈x,g.ok:=fun x hx g hg=>by
 obtain ⟨d,_,rfl⟩:=List.mem_map.1 hx
 simp only [zwe,List.mem_cons,List.not_mem_nil,or_false]at hg
 rcases hg with rfl|rfl
 ·exact zdp _
 ·rfl
theorem zjR {C:Ctx} {ph:List PH} {m u:PH} {b:Nat} {e:TypeId} {g:GV} (hu:u∈ph) (hb:u b=some (.cells g.flat.toArray e (0,0))) (hg:g.ok):zci C ph m b 0 g:=
 zpB (KN.mem (List.mem_cons_of_mem _ hu)) hb hg fun j v hj=>by simpa using hj
theorem zuX (x:Op):kin (gOp x) (gOp zOp):=⟨zlm x.stamp,rfl,rfl,rfl,trivial,trivial,trivial,trivial⟩
theorem zDf (x:Op):EqG Tryz.prog 26 (gOp x) (gOp x) true:=by
 have:=zwQ (P:=Tryz.prog) (t:=26) (z:=gOp zOp) (by kernel_rfl) (by kernel_rfl) rfl (zuX x) (zuX x) (zdp x) (zdp x)
 rwa [show zii (gOp x) (gOp x)=true from by simp [zii,gOp,zaA,zur]]at this
theorem zzS {w':World} {u1 u2:PH} {vx vy:Value} {tx ty:List TreeNode} {l1 l2:List TN} (e:l1=l2) (h1:SlR u1 vx 4 (tx.map zl)) (h2:SlR u2 vy 4 (ty.map zl)) (t1:TsOk u1 tx l1) (t2:TsOk u2 ty l2) (s1:PH.sub u1 w'.ph) (s2:PH.sub u2 w'.ph) (hn:l1.length≤1099511627776) (ha:∀r∈l1,r.attrs.length≤1099511627776):
  Spec Tryz.prog zmB [vx,vy] PH.no w' fun rs _=>rs=[.s (.bool true)]:=by
 have:=zwI w' vx vy tx ty _ _ w'.ph (fun _ _ h=>h) (h1.up s1) (h2.up s2) (t1.up s1) (t2.up s2) (by rw [t1.len];omega) (fun t ht=>by have:=ha t ht;omega)
 rw [decide_eq_true e]at this
 exact this
set_option maxHeartbeats 4000000 in
theorem zyN (w:World) (u:PH) (hu:u.le w) (b:Nat) (L Lb:Lay) (p:PL) (hL:LogM u b L Lb p) {mk:Value} {kb q:Nat} (hg:p.good mk kb q) (hq:q+4<1099511627776) (hfew:p.ds.length≤1048576) (hkb:kb≤1048576)
  (u2:PH) (hu2:u2.le w) (b2:Nat) (bv:Value) (hR:RLog u2 b2 bv p.fr (p.ds.map (·.op))) (ts:List TreeNode) (l:List TN) (U:PH) (hU:U.le w) (hb:RowsIn U bv ts l 1048576) (hf:zcF l) (hv:p.B.view=zcE l):
  Spec Tryz.prog zwc [ptr b,ptr b2, .int .i64 0] PH.no w fun rs _=>rs=[.s (.bool true)]:=by
 refine zaT zxn [.g (.s (ptr b)), .g (.s (ptr b2)), .g (.s (.int .i64 0))] (by simp) (by simp [AV.ok,GV.ok,Value.oneCell',ptr]) ?_
 have hB:=hg.bok.up hkb
 have hops:∀op∈p.ds.map (·.op),zfW op:=fun op h=>by
  obtain ⟨d,hd,rfl⟩:=List.mem_map.1 h
  exact hg.ops d hd
 have hlo:(p.ds.map (·.op)).length=p.ds.length:=List.length_map _
 have hTv:p.T.view=(zbn p.B (p.ds.map (·.op))).view:=hg.fl.view
 have hI:=zeP hB hops
 have hIg:=zgj hB hg.bgood hops
 rw [hlo]at hI
 obtain ⟨ov,hSo,hs⟩:=hR.look
 obtain ⟨a2,c2,rfl⟩:=zcz hSo
 have hlm:((p.ds.map (·.op)).map gOp).length=p.ds.length:=by rw [List.length_map,hlo]
 rw [hlm]at hSo hs
 simp (maxSteps:=2000000) only [zpP,ptr,zi,zm,zf,zc,zb,zh,zd,za,zj,ev,look,zab,ze,zg,zk,GV.getT,Nat.reduceEqDiff,Nat.reduceAdd,↓reduceIte,reduceCtorEq,Nat.zero_add,Bool.true_and,Bool.not_false,true_and,zah,zaH,Int.reduceAdd,zF,ptr]
 refine zbK rfl rfl (Q:=zwO (zbn p.B (p.ds.map (·.op))) (zcX p.B (p.ds.map (·.op)))) (fun w' vs hvv hw _ hm=> ?_) fun rs mt _ hq=> ?_
 ·obtain ⟨vs,rfl,_,hvv⟩:=zs hvv
  obtain rfl:=zr hvv
  have h0:∀b o,w.ph b=some o→w'.heap[b]? =some o:=fun b o h=>hw b o (by rw [zaL];exact h)
  exact zlS w' u2 (fun b o h=>h0 b o (hu2 b o h)) b2 bv p.fr _ hR ts l U (fun b o h=>h0 b o (hU b o h)) hb hf p.B hB hg.bgood hv (by omega) hops
 obtain ⟨bt,vf,mtt,mv,lr,ls,rfl,rfl,hdt,hRC,hLk,hvw,hSf⟩:=hq
 simp (maxSteps:=2000000) only [zJ,List.getElem?_cons_zero,List.getElem?_cons_succ,zi,zm,zf,zc,zb,zh,zd,za,zj,ev,look,zab,ze,zR,zg,zk,GV.getT,GV.sz,GV.same,GV.setT,Nat.reduceEqDiff,↓reduceIte,reduceCtorEq,Bool.and_true,Bool.true_and,true_and,and_true,ptr]
 refine zbK rfl rfl (Q:=fun rs m'=>∃L' T',rs=[.s (ptr (L' .t))]∧TM m' L' T'∧T'.ok (q+2)∧VGood T'.view∧T'.kidsOk∧T'.view=p.T.view) (fun w' vs hvv hw _ hm=> ?_) fun rs mT _ hq=> ?_
 ·obtain ⟨vs,rfl,_,hvv⟩:=zs hvv
  obtain rfl:=zr hvv
  exact ztI (fun b o h=>hw b o (by rw [zaL];exact hu b o h)) hL hg hq
 obtain ⟨L',T',rfl,hT',hok',hgd',_,hvT⟩:=hq
 simp (maxSteps:=2000000) only [zJ,zi,zeG,zf,zc,zb,zh,zd,za,zto,zeW,zbT,zaS,zdz,zj,ev,look,ze,zg,zk,Value.oneCell',cond_true,Nat.reduceEqDiff,↓reduceIte,reduceCtorEq,Bool.and_true,Bool.true_and,true_and,and_true,ptr]
 refine zcq (zxD _) ?_
 simp (maxSteps:=2000000) only [zb,zh,zH,zd,za,zeW,zhF,zbT,zgp,zaS,zkG,ldH,zdz,List.contains_cons,List.contains_nil,Bool.or_false,zj,ev,look,ze,GV.getT,Nat.reduceEqDiff,↓reduceIte,reduceCtorEq,Nat.zero_add,Bool.and_true,Bool.true_and,Bool.not_false,BEq.rfl,true_and,and_true,↓zbf,Bool.bne_false,zF]
 refine ⟨_,(hs (zdJ hu2)).2.1,rfl, ?_⟩
 refine zbd _ [.s (.int .i64 p.fr)] rfl rfl (fun w' vs hvv hw _ hm=> ?_) ?_
 ·obtain ⟨vs,rfl,_,hvv⟩:=zs hvv
  obtain rfl:=zr hvv
  exact zof (fun b o h=>hw b o (by rw [zaL];exact hu b o h)) hL
 simp (maxSteps:=2000000) only [zJ,bne_self_eq_false,zb,zh,zH,zd,za,zeW,zhF,zbT,zgp,zaS,zkG,ldH,zdz,List.contains_cons,List.contains_nil,Bool.or_false,zj,ev,look,ze,zN,zO,GV.getT,Value.oneCell',cond_true,Nat.reduceEqDiff,↓reduceIte,reduceCtorEq,Nat.zero_add,Bool.and_true,Bool.true_and,Bool.not_false,BEq.rfl,true_and,and_true,↓zbf,↓zM,zF]
 refine ⟨_,(hs (zdJ hu2)).2.2,rfl, ?_⟩
 simp (maxSteps:=2000000) only []
 refine zbd _ [.s (.int .i64 p.ds.length)] rfl rfl (fun w' vs hvv hw _ hm=> ?_) ?_
 ·obtain ⟨vs,rfl,_,hvv⟩:=zs hvv
  obtain rfl:=zr hvv
  exact zjy (fun b o h=>hw b o (by rw [zaL];exact hu b o h)) hL
 simp (maxSteps:=2000000) only [zJ,bne_self_eq_false,zb,zh,zH,zd,za,zeW,zbT,zaS,zdz,zj,ev,look,ze,zN,zO,Value.oneCell',cond_true,Nat.reduceEqDiff,↓reduceIte,reduceCtorEq,Bool.and_true,Bool.true_and,true_and,and_true,↓zbf,↓zM]
 have hpl:zal T'=zdW lr:=(zqI hLk (by rw [hvw,←hTv,hvT]) hok' hgd').symm
 obtain ⟨hb1,hb2⟩:=zjU hLk hvw hI hIg
 refine zbK rfl rfl (Q:=fun rs m'=>∃v ts,rs=[.s v]∧SlR m' v 4 (ts.map zl)∧TsOk m' ts (zal T')) (fun w' vs hvv _ hph _=> ?_) fun rs mx _ hq=> ?_
 ·obtain ⟨vs,rfl,_,hvv⟩:=zs hvv
  obtain rfl:=zr hvv
  exact zxJ (hph mT (by simp)) hT' hok' (by omega)
 obtain ⟨vx,tx,rfl,hsx,htx⟩:=hq
 simp (maxSteps:=2000000) only [zJ,zb,zH,zd,za,zeW,zbT,zaS,zyJ,zj,look,ze,Nat.reduceEqDiff,↓reduceIte,reduceCtorEq,Bool.and_true,Bool.true_and,true_and,and_true,↓zbf]
 refine zbK rfl rfl (Q:=fun rs m'=>∃v ts,rs=[.s v]∧SlR m' v 4 (ts.map zl)∧TsOk m' ts (zdW lr)) (fun w' vs hvv hw hph _=> ?_) fun rs my _ hq=> ?_
 ·obtain ⟨vs,rfl,_,hvv⟩:=zs hvv
  obtain rfl:=zr hvv
  obtain ⟨m1',A,hmR,hdA,hRM⟩:=hRC
  have s0:PH.sub mtt w'.ph:=fun b o h=>hph (uni mtt mv) (by simp) b o (zY _ _ b o h)
  exact zor w' A m1' (fun b o h=>s0 b o (by rw [hmR];exact zY _ _ b o h)) (fun b o h=>s0 b o (by rw [hmR];exact zax hdA b o h)) bt lr ls hRM (by omega) fun t ht=>by have:=hb2 t ht;omega
 obtain ⟨vy,ty,rfl,hsy,hty⟩:=hq
 simp (maxSteps:=2000000) only [zJ,zb,zH,zd,za,zeW,zbT,zaS,zrE,zj,look,ze,Nat.reduceEqDiff,↓reduceIte,reduceCtorEq,Bool.and_true,Bool.true_and,true_and,and_true,↓zbf]
 have hlx:=zhA T'
 have hmx:=hok'.many
 refine zbd _ [.s (.bool true)] rfl rfl (fun w' vs hvv _ hph _=> ?_) ?_
 ·obtain ⟨vs,rfl,_,hvv⟩:=zs hvv
  obtain ⟨vs,rfl,_,hvv⟩:=zs hvv
  obtain rfl:=zr hvv
  exact zzS hpl hsx hsy htx hty (hph mx (by simp)) (hph my (by simp)) (by omega) fun r hr=>by have:=zhs hok' hr;omega
 simp (maxSteps:=2000000) only [zJ,zb,zh,zH,zd,za,zeW,zhF,zbT,zgp,zaS,zkG,ldH,zrE,List.contains_cons,List.contains_nil,Bool.or_false,zj,ev,look,ze,unV,GV.getT,Value.oneCell',cond_true,Nat.reduceEqDiff,↓reduceIte,reduceCtorEq,Bool.and_true,Bool.true_and,Bool.not_true,Bool.not_false,BEq.rfl,true_and,and_true,↓zbf,↓zM,zF]
 refine zbK rfl rfl (Q:=fun rs m'=>∃v ts,rs=[.s v]∧SlR m' v 4 (ts.map zl)∧TsOk m' ts (zal p.B)) (fun w' vs hvv hw _ hm=> ?_) fun rs mb _ hq=> ?_
 ·obtain ⟨vs,rfl,_,hvv⟩:=zs hvv
  obtain rfl:=zr hvv
  exact zme (fun b o h=>hw b o (by rw [zaL];exact hu b o h)) hL hg (by omega)
 obtain ⟨vb,tb,rfl,hsb,htb⟩:=hq
 simp (maxSteps:=2000000) only [zJ,zb,zH,zd,za,zeW,zbT,zaS,zvV,zj,look,ze,Nat.reduceEqDiff,↓reduceIte,reduceCtorEq,Bool.and_true,Bool.true_and,true_and,and_true,↓zbf]
 refine zbK rfl rfl (Q:=fun rs m'=>∃v ts',rs=[.s v]∧SlR m' v 4 (ts'.map zl)∧TsOk m' ts' (zal p.B)) (fun w' vs hvv hw _ hm=> ?_) fun rs mp _ hq=> ?_
 ·obtain ⟨vs,rfl,_,hvv⟩:=zs hvv
  obtain rfl:=zr hvv
  have h0:∀b o,w.ph b=some o→w'.heap[b]? =some o:=fun b o h=>hw b o (by rw [zaL];exact h)
  exact zrq w' u2 (fun b o h=>h0 b o (hu2 b o h)) b2 bv p.fr _ hR ts l U (fun b o h=>h0 b o (hU b o h)) hb hf p.B hB hg.bgood hv
 obtain ⟨vp,tp,rfl,hsp,htp⟩:=hq
 have hM4:HeldM PH.no [mT,uni mtt mv] PH.no [mp,mb,my,mx,mT,uni mtt mv]=True:=eq_true ⟨fun _ _ h=>h,fun _ h=>List.mem_cons_of_mem _ (List.mem_cons_of_mem _ (List.mem_cons_of_mem _ (List.mem_cons_of_mem _ h)))⟩
 simp (maxSteps:=2000000) only [zJ,hM4,zb,zH,zd,za,zeW,zbT,zaS,zj,look,ze,Nat.reduceEqDiff,↓reduceIte,reduceCtorEq,Bool.and_true,Bool.true_and,true_and,and_true,↓zbf]
 have hlb:=zhA p.B
 have hmb:=hB.many
 refine zbd _ [.s (.bool true)] rfl rfl (fun w' vs hvv _ hph _=> ?_) ?_
 ·obtain ⟨vs,rfl,_,hvv⟩:=zs hvv
  obtain ⟨vs,rfl,_,hvv⟩:=zs hvv
  obtain rfl:=zr hvv
  exact zzS rfl hsb hsp htb htp (hph mb (by simp)) (hph mp (by simp)) (by omega) fun r hr=>by have:=zhs hB hr;omega
 simp (maxSteps:=2000000) only [zJ,hM4,zu,zi,zm,zp,zf,zc,zb,zh,zH,zd,za,zmR,zeW,zbT,zaS,zj,ev,look,ze,zg,zk,unV,Value.oneCell',cond_true,Nat.reduceEqDiff,↓reduceIte,reduceCtorEq,Bool.and_true,Bool.true_and,Bool.not_true,true_and,and_true,↓zbf,↓zM]
 refine zbK rfl rfl (Q:=fun rs m'=>∃bo e v,rs=[.s (.func (.func zco) #[] #[ptr bo])]∧m' bo=some (.cells #[v] e (0,0))∧SlR m' v 22 (p.ds.map zap)) (fun w' vs hvv hw _ hm=> ?_) fun rs mW _ hq=> ?_
 ·obtain ⟨vs,rfl,_,hvv⟩:=zs hvv
  obtain rfl:=zr hvv
  exact zBs (fun b o h=>hw b o (by rw [zaL];exact hu b o h)) hL (by omega)
 obtain ⟨bo,eo,vo,rfl,hbo,hso⟩:=hq
 simp (maxSteps:=2000000) only [zJ,zi,zm,zf,zc,zb,zh,zd,za,zj,ev,look,ze,zg,zk,Nat.reduceEqDiff,↓reduceIte,reduceCtorEq,ptr]
 refine zgz (zbI 4 4 rfl rfl fun v4 u4 _ hp4 hd4=> ?_)
 refine zgz (zhz rfl hd4 ?_)
 refine zgz (zbI 5 5 rfl rfl fun v5 u5 _ hp5 hd5=> ?_)
 refine zgz (zhz rfl hd5 ?_)
 refine zgz (zbI 8 8 rfl rfl fun v8 u8 _ hp8 hd8=> ?_)
 refine zgz (zhz rfl hd8 ?_)
 refine zbI 6 6 rfl rfl fun v6 u6 _ hp6 hd6=> ?_
 obtain ⟨_,b4,e4,rfl,rfl⟩:=hp4
 obtain ⟨_,b5,e5,rfl,rfl⟩:=hp5
 obtain ⟨_,b8,e8,rfl,rfl⟩:=hp8
 obtain ⟨_,b6,e6,rfl,rfl⟩:=hp6
 generalize hu4:one b4 _=u4
 generalize hu5:one b5 _=u5
 generalize hu8:one b8 _=u8
 simp (maxSteps:=2000000) only [dropK,zae,zB,zf,zc,zb,zd,za,zj,ev,look,ze,zg,zk,Value.oneCell',cond_true,cond_false,Nat.reduceEqDiff,Nat.reduceBEq,↓reduceIte,BEq.rfl,zbv,SV.mentions]
 generalize hu6:one b6 _=u6
 have g4:u4 b4=some (.cells (GV.s (.pointer (some ⟨b2,0,none⟩))).flat.toArray e4 (0,0)):=by rw [←hu4];exact zaD _ _
 have g5:u5 b5=some (.cells (GV.s (.int .i64 0)).flat.toArray e5 (0,0)):=by rw [←hu5];exact zaD _ _
 have g8:u8 b8=some (.cells (GV.s vf).flat.toArray e8 (0,0)):=by rw [←hu8];exact zaD _ _
 have hvf:vf.oneCell'=true:=hSf.one
 have hSr:SlR (uni mtt mv) vf 1 ((p.ds.map (·.taken)).map fun b=> .s (.bool b)):=by
  rw [←hg.fl.hist.flags]
  exact hSf.toR.up (zax hdt)
 have hlf:((p.ds.map (·.taken)).map fun b=>GV.s (.bool b)).length=p.ds.length:=by rw [List.length_map,List.length_map]
 obtain ⟨a3,c3,hv3⟩:=zcz hSr
 rw [hlf]at hv3
 subst hv3
 refine zaP (ι:=Nat×List PH) (fun q=>⟨[(4, .g (.s (.pointer (some ⟨b4,0,none⟩)))),(5, .g (.s (.pointer (some ⟨b5,0,none⟩)))),(6, .g (.s (.pointer (some ⟨b6,0,none⟩)))),(8, .g (.s (.pointer (some ⟨b8,0,none⟩)))),(10, .g (.s (.func (.func zco) #[] #[.pointer (some ⟨bo,0,none⟩)]))),(60, .g (.s (.int .i64 (q.1))))],[],q.2,u6⟩)
  (fun q=>q.1≤2∧u4∈q.2∧u5∈q.2∧u8∈q.2∧mW∈q.2∧uni mtt mv∈q.2) (fun q=>2 - q.1) (0,[u8,u5,u4,mW,mp,mb,my,mx,mT,uni mtt mv]) ⟨by simp,by simp,by simp,by simp,by simp,by simp⟩ (zS ?_ ?_ rfl rfl rfl) ?_
 ·simp [zag,look]
 ·simp [zaq,look]
 rintro ⟨i,ph0⟩ ⟨hi,m4,m5,m8,mWm,mF⟩
 simp only at hi m4 m5 m8 mWm mF
 generalize hQ:loopQ _ _ _ _ _=Q
 simp (maxSteps:=2000000) only [zkH,zu,zay,zi,zB,zm,zp,zf,zaz,zc,zb,zh,zd,za,zj,ev,look,zab,ze,zR,zg,zk,zN,zO,GV.getT,GV.sz,GV.setT,Value.oneCell',cond_true,Nat.reduceEqDiff,↓reduceIte,Bool.and_true,Bool.true_and,true_and,and_true,decide_eq_true_eq,decide_eq_false_iff_not,zav,zcJ]
 refine ⟨fun hlt=> ?_,fun hge=> ?_⟩
 ·refine zbI 11 11 rfl rfl fun v11 u11 _ hp11 hd11=> ?_
  obtain ⟨_,b11,e11,rfl,rfl⟩:=hp11
  simp (maxSteps:=2000000) only [dropK,zB,zf,zc,zb,zd,look,zg,zk,cond_true,cond_false,Nat.reduceEqDiff,↓reduceIte,BEq.rfl,zbv,SV.mentions]
  refine zvi (ns:=[(3,999998),(16,10),(12,999998)]) (code:=zbC) (t:=62) (gf:=zco) (lb:=[ptr bo]) (ui:=mW) (encs:=p.ds.map zwe) zzV rfl (enters_of Tryz.func61 (by kernel_rfl) rfl) (zjn rfl) mWm
   (by rw [zyD];exact zzC mW hbo hso (by omega)) (zyO (by have:=congrArg List.length zwE;simpa using this)) zzY (fun x hx=>by
    rw [zwE]at hx
    simp only [List.mem_cons,List.not_mem_nil,or_false]at hx
    show x<109
    rcases hx with rfl|rfl<;>decide)
   zhy zhr zsS rfl zsF.1 ztc rfl zsF.2
   (fun n _ m=>m=uni (one b11 (.cells #[.int .i64 n] e11 (0,0))) u6) (fun _ _ _=>False) rfl ?_ ?_ ?_
  ·intro n x w' m' ph m hx hu0 hph hI
   subst hI
   rw [List.getElem?_map]at hx
   obtain ⟨d,hdi,rfl⟩:=Option.map_eq_some_iff.1 hx
   have hn:n<p.ds.length:=(List.getElem?_eq_some_iff.1 hdi).1
   rw [zwE]
   unfold zwe
   simp (maxSteps:=2000000) only [zhy,zfd,List.nil_append,List.cons_append,zi,zm,zf,zc,zb,zh,zd,za,zj,ev,look,zab,ze,zR,zg,zk,Nat.reduceEqDiff,↓reduceIte,List.nil_append,List.cons_append,Bool.and_true,Bool.true_and,true_and,and_true,zn,zaa,zbe,zbS,zgR,zcW]
   refine zgz (zbI 12 12 rfl rfl fun v12 u12 _ hp12 hd12=> ?_)
   refine zhz rfl hd12 ?_
   obtain ⟨_,b12,e12,rfl,rfl⟩:=hp12
   generalize hu12:one b12 (Obj.cells (gOp d.op).flat.toArray e12 (0,0))=u12
   have g12:u12 b12=some (.cells (gOp d.op).flat.toArray e12 (0,0)):=by rw [←hu12];exact zaD _ _
   simp (maxSteps:=2000000) only [dropK,zc,zb,zd,look,zg,zk,cond_true,cond_false,Nat.reduceEqDiff,↓reduceIte,BEq.rfl,zbv,SV.mentions]
   refine ⟨fun u hu=>List.mem_cons_of_mem _ hu,[(4, .g (.s (.pointer (some ⟨b4,0,none⟩)))),(5, .g (.s (.pointer (some ⟨b5,0,none⟩)))),(6, .g (.s (.pointer (some ⟨b6,0,none⟩)))),(8, .g (.s (.pointer (some ⟨b8,0,none⟩)))),(11, .g (.s (.pointer (some ⟨b11,0,none⟩)))),(12, .g (.s (.pointer (some ⟨b12,0,none⟩)))),(13, .g (.s (.bool d.taken)))],zjn rfl, ?_,fun w2 m2 hu2'=> ?_⟩
   ·intro t x hx
    simp only [look]at hx ⊢
    (repeat' split at hx)<;>simp_all
   have s11:∀{C:Ctx} {ph':List PH},zci C ph' (uni (one b11 (.cells #[.int .i64 n] e11 (0,0))) u6) b11 0 (.s (.int .i64 n)):=zaC zce (zY _ _ _ _ (zaD _ _)) rfl rfl
   have s4:∀{C:Ctx} {m:PH},zci C (u12::ph) m b4 0 (.s (.pointer (some ⟨b2,0,none⟩))):=zjR (List.mem_cons_of_mem _ (hph u4 m4)) g4 rfl
   have s8:∀{C:Ctx} {m:PH},zci C (u12::ph) m b8 0 (.s (.slice a3 p.ds.length c3)):=zjR (List.mem_cons_of_mem _ (hph u8 m8)) g8 hvf
   have s12:∀{C:Ctx} {m:PH},zci C (u12::ph) m b12 0 (gOp d.op):=zjR List.mem_cons_self g12 (zdp _)
   have k2:∀{L:List PH},KN (⟨Tryz.prog,109,w2,m2⟩:Ctx).u0 L u2:=fun b o h=> .inl (hu2' b o (by rw [zaL];exact hu2 b o h))
   obtain ⟨bb,oo,rfl,_,_,hse⟩:=hSo.spot (by rw [hlm];omega)
   obtain ⟨bf,off,rfl,_,_,hsf⟩:=hSr.spot (by rw [hlf];omega)
   simp (maxSteps:=2000000) only [zhr,zu,zi,zB,zm,zeG,zp,zf,zc,zb,zh,zH,zd,za,zto,zmR,zeW,zqw,zhF,zbT,zgp,zaS,ldH,zdz,zj,RO.isGh,zI,zan,ev,look,ze,zg,zk,zaJ,zdm,zN,zO,Value.oneCell',cond_true,cond_false,Nat.reduceEqDiff,↓reduceIte,Bool.and_true,Bool.true_and,Bool.not_false,true_and,and_true,↓zL,↓zbf,↓zca,zav,zdx]
   refine ⟨_,s11,rfl,_,s4,rfl, ?_⟩
   simp (maxSteps:=2000000) only [↓reduceIte,Nat.zero_add,decide_eq_true_eq,decide_eq_false_iff_not]
   refine ⟨_,(hs k2).2.2,rfl, ?_⟩
   simp (maxSteps:=2000000) only []
   refine ⟨fun _=> ?_,fun h=>absurd h (by omega)⟩
   refine ⟨_,s12,zbM _,_,s4,rfl, ?_⟩
   simp (maxSteps:=2000000) only [Nat.zero_add]
   refine ⟨_,(hs k2).2.2,rfl,_,s11,rfl, ?_⟩
   simp (maxSteps:=2000000) only [Int.toNat_natCast]
   refine ⟨⟨by omega,by omega⟩,gOp d.op,hse k2 n (gOp d.op) (by rw [List.getElem?_map,List.getElem?_map,hdi];rfl),zbM _,zcq (zDf d.op) ?_⟩
   simp (maxSteps:=2000000) only [bne_self_eq_false,zb,zh,zH,zd,za,zeW,zhF,zbT,zgp,zaS,ldH,zdz,zj,ev,look,ze,zaJ,Value.oneCell',cond_true,Nat.reduceEqDiff,↓reduceIte,Bool.and_true,Bool.true_and,true_and,and_true,↓zbf,↓zM]
   refine ⟨_,s8,rfl,_,s11,rfl, ?_⟩
   simp (maxSteps:=2000000) only [Int.toNat_natCast]
   refine ⟨⟨by omega,by omega⟩, .s (.bool d.taken),hsf (KN.mem (List.mem_cons_of_mem _ (List.mem_cons_of_mem _ (hph _ mF)))) n _ (by rw [List.getElem?_map,List.getElem?_map,hdi];rfl),rfl,zcq (zlQ Tryz.underlying4 _ _) ?_⟩
   simp (maxSteps:=2000000) only [beq_self_eq_true,bne_self_eq_false,zu,zi,zm,zp,zf,zc,zb,zh,zd,za,zmR,zeW,zbT,zaS,zdz,zj,ev,look,ze,zg,zk,Value.oneCell',cond_true,Nat.reduceEqDiff,↓reduceIte,Bool.and_true,Bool.true_and,true_and,and_true,↓zM]
   refine zK (.s (.int .i64 n)) s11 rfl ?_
   simp (maxSteps:=2000000) only [za,zj,ev,look,ze,zN,zO,Value.oneCell',cond_true,Nat.reduceEqDiff,↓reduceIte,Bool.true_and,true_and]
   refine zfS rfl #[.int .i64 n] e11 ⟨zY _ _ _ _ (zaD _ _),by simp⟩ ?_
   simp (maxSteps:=2000000) only [zi,zm,zf,zc,zb,zh,zd,za,zj,ev,look,zR,zg,zk,Nat.reduceEqDiff,↓reduceIte]
   have eW:zau #[Value.int .i64 n] 0 (GV.s (.int .i64 (IntKind.i64.wrap ((n:Int)+1)))).flat= #[Value.int .i64 ((n+1:Nat):Int)]:=by rw [zaM (by omega)];rfl
   rw [zbY,eW]
   refine zK (.s (.int .i64 ((n+1:Nat):Int))) (zaC zce (zY _ _ _ _ (zaD _ _)) rfl rfl) rfl ?_
   simp (maxSteps:=2000000) only [za,zj,ev,look,ze,Nat.reduceEqDiff,↓reduceIte]
   refine zK (.s (.int .i64 0)) (zjR (List.mem_cons_of_mem _ (hph u5 m5)) g5 rfl) rfl ?_
   simp (maxSteps:=2000000) only [zu,zay,zp,zf,zT,zat,zc,zb,zd,za,zj,ev,look,ze,zg,zk,zN,zO,Nat.reduceEqDiff,↓reduceIte,Bool.true_and,true_and,zav]
   refine ⟨fun h=>absurd h (by simp only [beq_iff_eq];omega),fun _=> ?_⟩
   exact ⟨fun u hu=>List.mem_cons_of_mem _ (hph u hu),rfl⟩
  ·intro uL ph m hph hI
   subst hI
   simp (maxSteps:=2000000) only [zi,zbm,zf,zT,zas,zx,zZ,zj,zaF,ev,look,Nat.reduceEqDiff,↓reduceIte,Bool.true_and,true_and,List.length_map]
   refine zK (.s (.int .i64 p.ds.length)) (zaC zce (zY _ _ _ _ (zaD _ _)) rfl rfl) rfl ?_
   simp (maxSteps:=2000000) only [zx,zZ,zj,zaF,ev,look,ze,Nat.reduceEqDiff,↓reduceIte,Bool.true_and,true_and]
   refine zK _ (zjR (List.mem_cons_of_mem _ (hph u4 m4)) g4 rfl) rfl ?_
   simp (maxSteps:=2000000) only [zx,zZ,zj,zaF,ev,look,ze,↓reduceIte,Nat.zero_add,Bool.true_and,true_and]
   refine zK _ (hs (zdJ hu2)).2.2 rfl ?_
   simp (maxSteps:=2000000) only [bne_self_eq_false,zu,zm,zp,zf,zT,zc,zb,zh,zH,zd,za,zP,zcL,zU,zx,zZ,zj,zaF,RO.isGh,zI,zan,ev,look,ze,zg,zk,zN,zO,Value.oneCell',cond_true,cond_false,Nat.reduceEqDiff,↓reduceIte,Bool.true_and,Bool.not_true,true_and,↓zM]
   refine zhz rfl (zxQ hd11 _) ?_
   simp (maxSteps:=2000000) only [zc,zb,zd,za,zj,ev,look,ze,zg,zk,zN,zO,Value.oneCell',cond_true,Nat.reduceEqDiff,↓reduceIte,Bool.true_and,true_and]
   subst hQ;simp only [zaB];refine ⟨(i+1,one b11 (.cells #[.int .i64 p.ds.length] e11 (0,0))::uL::ph), ?_, ?_,zS ?_ ?_ rfl rfl rfl⟩
   ·exact ⟨by simp only;omega,List.mem_cons_of_mem _ (List.mem_cons_of_mem _ (hph u4 m4)),List.mem_cons_of_mem _ (List.mem_cons_of_mem _ (hph u5 m5)),List.mem_cons_of_mem _ (List.mem_cons_of_mem _ (hph u8 m8)),List.mem_cons_of_mem _ (List.mem_cons_of_mem _ (hph mW mWm)),List.mem_cons_of_mem _ (List.mem_cons_of_mem _ (hph _ mF))⟩
   ·simp only;omega
   ·simp only [zag,look,Nat.reduceEqDiff,↓reduceIte,Bool.and_true,Bool.true_and,true_and,and_true]
    rw [zaM (by omega)]
    try simp
   ·simp [zaq,look]
  ·intro e c uL ph m _ _ h
   exact h.elim
 ·subst hQ
  simp (maxSteps:=2000000) only [zi,zm,zf,zat,zaQ,zh,za,zj,ev,look,Value.oneCell',cond_true,Nat.reduceEqDiff,↓reduceIte]
  rw [←hu6]
  refine zfS rfl #[.bool false] e6 ⟨zaD _ _,by simp⟩ ?_
  simp (maxSteps:=2000000) only [zt,zf,zc,zV,zb,zd,look,zR,zg,zk,Nat.reduceEqDiff,↓reduceIte]
  rw [zmb,show zau #[Value.bool false] 0 (GV.s (Value.bool true)).flat= #[Value.bool true] from rfl]
  exact ⟨fun a w hR=>⟨_,[.s (.bool true)],PH.no,hR.ownBox (t:=6) (g:= .s (.bool true)) 6 rfl rfl ⟨rfl,b6,e6,rfl,rfl⟩ (zae _).symm (zdj _),rfl,rfl,fun _ _ h=>by cases h⟩⟩
end Go.Proofs.YtmjiojflncffeaaGreat.Vc

set_option linter.unusedVariables false
set_option linter.unusedSimpArgs false
set_option maxRecDepth 100000
namespace Go.Proofs.YtmjiojflncffeaaGreat.Vc
open Go Go.Proofs
theorem zBE {p p':PL} {mk:Value} {kb q:Nat} {ops:List Op} {n:Int} (h0:p.ds=[]) (hg:p'.good mk kb q) (hA:Added p ops p' n) (he:zbp p.ds p.fr [] ops=0):p'.ds.map (·.op)=zez [] ops:=by
 have hp:(p'.ds.map (·.op)).Perm (zez [] ops):=by
  have:=hA.perm
  rw [h0,List.map_nil,List.nil_append]at this
  refine this.trans ?_
  have h2:=(ziI [] ops).symm
  rwa [List.nil_append]at h2
 have hr2:Rising ((p'.ds.map (·.op)).map Op.k):=by rw [List.map_map];exact hg.ris
 have hn:=(zox he List.nodup_nil).2
 rw [List.nil_append]at hn
 exact Rising.uniq hp hr2 (zsX (by simp [Rising]) (by rw [List.nil_append];exact hn))
end Go.Proofs.YtmjiojflncffeaaGreat.Vc

namespace Go.Proofs
open Go.Shelf
def Tryz.cloneS_ren:Go.Shelf.Ren:=⟨fun|5=>100|7=>137|n=>n,fun|23=>129|25=>9|3=>9|4=>4|20=>20|n=>n,fun|n=>n⟩
theorem Tryz.cloneS:Go.Proofs.SlLaysW.n5 Tryz.prog Tryz.cloneS_ren:={
 mixed:=by kernel_rfl
 f5:=⟨Tryz.f100.name,by decide,Tryz.func100.trans (congrArg some (by kernel_rfl))⟩
 f7:=Tryz.func137.trans (congrArg some (by kernel_rfl))
 t4:=Tryz.underlying4
 a4:=Tryz.isAgg4
 z4:=Tryz.sizeOf4
 v4:=Tryz.zeroValue4
 t20:=Tryz.underlying20
 a20:=Tryz.isAgg20
 z20:=Tryz.sizeOf20
 v20:=Tryz.zeroValue20
 t23:=Tryz.underlying129
 a23:=Tryz.isAgg129
 z23:=Tryz.sizeOf129
 v23:=Tryz.zeroValue129}
def Tryz.cloneI_ren:Go.Shelf.Ren:=⟨fun|5=>101|7=>137|n=>n,fun|23=>130|25=>2|3=>3|4=>4|20=>20|n=>n,fun|n=>n⟩
theorem Tryz.cloneI:Go.Proofs.SlLaysW.n5 Tryz.prog Tryz.cloneI_ren:={
 mixed:=by kernel_rfl
 f5:=⟨Tryz.f101.name,by decide,Tryz.func101.trans (congrArg some (by kernel_rfl))⟩
 f7:=Tryz.func137.trans (congrArg some (by kernel_rfl))
 t4:=Tryz.underlying4
 a4:=Tryz.isAgg4
 z4:=Tryz.sizeOf4
 v4:=Tryz.zeroValue4
 t20:=Tryz.underlying20
 a20:=Tryz.isAgg20
 z20:=Tryz.sizeOf20
 v20:=Tryz.zeroValue20
 t23:=Tryz.underlying130
 a23:=Tryz.isAgg130
 z23:=Tryz.sizeOf130
 v23:=Tryz.zeroValue130}
end Go.Proofs

set_option linter.unusedVariables false
set_option linter.unusedSimpArgs false
set_option maxRecDepth 100000
namespace Go.Proofs.YtmjiojflncffeaaGreat.Vc
open Go Go.Proofs Go.Shelf
theorem zvM (w:World) (u:PH) (hu:u.le w) (b:Nat) (es:Array MapEntry) (cl:Nat) (hb:u b=some (.map es cl)):
  Spec Tryz.prog 100 [.map (some b)] PH.no w fun rs m'=>∃b',rs=[.s (.map (some b'))]∧m'=one b' (.map es cl):=
 ziq (AnyW.maps_Clone Tryz.cloneS b es cl w (hu b _ hb)) rfl (fun xs h=>by cases h) ⟨_,rfl,rfl⟩
theorem zvh (w:World) (u:PH) (hu:u.le w) (b:Nat) (es:Array MapEntry) (cl:Nat) (hb:u b=some (.map es cl)):
  Spec Tryz.prog 101 [.map (some b)] PH.no w fun rs m'=>∃b',rs=[.s (.map (some b'))]∧m'=one b' (.map es cl):=
 ziq (AnyW.maps_Clone Tryz.cloneI b es cl w (hu b _ hb)) rfl (fun xs h=>by cases h) ⟨_,rfl,rfl⟩
end Go.Proofs.YtmjiojflncffeaaGreat.Vc

set_option linter.unusedVariables false
set_option maxRecDepth 100000
namespace Go.Proofs.YtmjiojflncffeaaGreat.Vc
open Go Go.Proofs
abbrev zlO:Nat:=72
def zfn:Cd:=
 (.seq (.rg [⟨none,[(some 18, .nxt (.t 17)),(some 19, .ext (.t 18) 0)]⟩] [3,17,19])
 (.seq (.ite (.t 19)
 .skip
 (.exit 0))
 (.block 1 (.seq (.rg [⟨none,[(some 20, .ent (.t 17)),(some 21, .ext (.t 20) 0),(some 22, .ext (.t 20) 1),(some 4, .mv (.t 21)),(some 5, .mv (.t 22))]⟩] [3,4,5,17])
 (.rga (.heldF [3,4,5] (.op ⟨none,[(some 23, .mv (.t 3))]⟩ (.op ⟨none,[(some 24, .nilc (.t 23))]⟩ (.op ⟨none,[(some 25, .fldA (.t 24) 0 0)]⟩ (.op ⟨none,[(some 27, .mv (.t 4))]⟩ (.op ⟨none,[(some 28, .mv (.t 5))]⟩ (.op ⟨none,[(some 29, .nilc (.t 28))]⟩ (.op ⟨none,[(some 30, .fldA (.t 29) 0 0)]⟩ (.op ⟨none,[(some 32, .mv (.t 5))]⟩ (.op ⟨none,[(some 33, .nilc (.t 32))]⟩ (.op ⟨none,[(some 34, .fldA (.t 33) 1 2)]⟩ (.op ⟨none,[(some 37, .mv (.t 5))]⟩ (.op ⟨none,[(some 38, .nilc (.t 37))]⟩ (.op ⟨none,[(some 39, .fldA (.t 38) 2 3)]⟩ (.first ⟨none,[(some 26, .ld (.t 25) 1 false)]⟩ (.first ⟨none,[(some 31, .ld (.t 30) 2 true)]⟩ (.first ⟨none,[(some 35, .ld (.t 34) 1 false)]⟩ (.first ⟨none,[(some 40, .ld (.t 39) 1 false)]⟩ (.op ⟨none,[(some 36, .call 100 [(.t 35)])]⟩ (.op ⟨none,[(some 41, .call 101 [(.t 40)])]⟩ (.op ⟨none,[(some 42, .bld (.c (.c (.s (.int .i64 0)) (.c (.s (.string ⟨#[]⟩)) .u)) (.c (.s (.map none)) (.c (.s (.map none)) .u))) [(0,(.t 31)),(1,(.t 36)),(2,(.t 41))])]⟩ (.op ⟨none,[(some 43, .box 132 (.t 42))]⟩ (.gh (.op ⟨none,[(none, .mup (some .i64) (.t 26) (.t 27) (.t 43))]⟩ .done)))))))))))))))))))))))) [3,17])))))
def zhc:Cd:=
 (.seq (.rg [⟨none,[(some 2, .mv (.c (.pointer none)))]⟩] [0])
 (.seq (.seq (.rg [⟨none,[(some 6, .mv (.t 0)),(some 7, .call 56 [(.t 6)])]⟩] [0,7])
 (.ite (.t 7)
 (.seq (.rg [⟨none,[(some 2, .mv (.c (.pointer none)))]⟩] [2])
 .ret)
 .skip))
 (.seq (.rg [⟨none,[(some 8, .mkm),(some 9, .bld (.c (.s (.int .u8 0)) .u) []),(some 10, .box 139 (.t 9)),(none, .gh),(some 11, .bld (.c (.s (.map none)) (.c (.s (.pointer none)) (.c (.s (.int .i64 0)) (.c (.s (.slice none 0 0)) (.c (.s (.int .i64 0)) .u))))) [(0,(.t 8)),(1,(.t 10))]),(some 12, .box 118 (.t 11)),(some 3, .mv (.t 12))]⟩] [0,3])
 (.seq (.seq (.rg [⟨none,[(some 13, .mv (.t 0)),(some 14, .nilc (.t 13)),(some 15, .fldA (.t 14) 0 0),(some 16, .ld (.t 15) 1 false),(some 17, .rng (some .i64) (.t 16))]⟩] [3,17])
 (.block 0 (.loop zfn)))
 (.seq (.rg [⟨none,[(some 44, .mv (.t 3)),(some 2, .mv (.t 44)),(none, .gh)]⟩] [2])
 .ret)))))
theorem zmv:Ok Tryz.prog 72 zhc 45 [(7,999998)] [.tmp 2]:=Ok.mk' Tryz.func72 (by kernel_rfl) (by kernel_rfl) (by kernel_rfl)
end Go.Proofs.YtmjiojflncffeaaGreat.Vc

set_option linter.unusedVariables false
set_option linter.unusedSimpArgs false
set_option maxRecDepth 100000
namespace Go.Proofs.YtmjiojflncffeaaGreat.Vc
open Go Go.Proofs
structure NodeM (m:PH) (b a k:Nat) (x:PN):Prop where
 ba:b≠a
 bk:b≠k
 ak:a≠k
 node:∃e,m b=some (.cells #[.int .i64 x.parent, .string x.name, .map (some a), .map (some k)] e (0,0))
 attrs:∃o,m a=some o∧zcg none o (zhx x.attrs)
 kids:∃o,m k=some o∧zcg (some .i64) o (zeJ x.kids)
def PT.addX (T:PT) (n:Int) (x:PN):PT:={T with nodes:=T.nodes++[(n,x)]}
theorem PT.get_addX {T:PT} {n:Int} (h:T.get n=none) (x:PN) (j:Int):(T.addX n x).get j=if j=n then some x else T.get j:=by
 unfold PT.addX PT.get at*
 simp only [zmu]
 by_cases hj:j=n
 ·subst hj;rw [h];simp [zbZ]
 ·rw [if_neg hj]
  cases zbZ T.nodes j with
  |none=>simp [zbZ,Ne.symm hj]
  |some x=>rfl
theorem TreeT.addX {R:Role→Prop} {m mb:PH} {L:Lay} {T:PT} {idsV:Value} {n:Int} {b a k:Nat} {x0:PN} {o':Obj} (h:TreeT R m L T idsV) (hR:R .nb) (hb:NodeM mb b a k x0) (hd:dis mb m) (hn:T.get n=Option.none)
  (ho:zcg (some .i64) o' (zht (zcm L T.nodes) (.int .i64 n) (ptr b))):TreeT R ((uni mb m).upd (L .nb) o') (L.add n b a k) (T.addX n x0) idsV:=by
 obtain ⟨onb,hnb,_⟩:=h.has .nb hR trivial
 have hmb:∀{j:Nat} {o:Obj},m j=some o→mb j=Option.none:=fun {j o} hj=>by
  rcases hd j with e|e
  ·exact e
  ·rw [e]at hj;cases hj
 have hold:∀r,R r→act T r→∃o,m (L r)=some o:=fun r h1 h2=>by
  obtain ⟨o,h3,_⟩:=h.has r h1 h2
  exact ⟨o,h3⟩
 obtain ⟨e1,q1⟩:=hb.node
 obtain ⟨oa,q2,q2'⟩:=hb.attrs
 obtain ⟨ok,q3,q3'⟩:=hb.kids
 have hne:∀{j:Nat} {o:Obj},mb j=some o→∀r,R r→act T r→L r≠j:=fun {j o} hj r h1 h2 e=>by
  obtain ⟨o2,h3⟩:=hold r h1 h2
  rw [e]at h3
  rw [hmb h3]at hj;cases hj
 have new:∀{j:Nat} {o:Obj},mb j=some o→((uni mb m).upd (L .nb) o') j=some o:=fun {j o} hj=>by
  rw [zhw (fun e=>hne hj .nb hR trivial e.symm)]
  simp [uni,hj]
 have old:∀r,R r→act T r→r≠ .nb→∀o,m (L r)=some o→((uni mb m).upd (L .nb) o') (L r)=some o:=fun r h1 h2 h3 o hj=>by
  rw [zhw (fun e=>h3 (h.sep r .nb h1 hR h2 trivial e))]
  simp [uni,hmb hj,hj]
 have hg:=PT.get_addX hn x0
 have hkey:n∉T.nodes.map (·.1):=zbH.1 hn
 refine ⟨fun r hr ha=> ?_,fun r s hr hs ha hb'=> ?_, ?_⟩
 ·cases r with
  |t=>
   obtain ⟨o,h1,h2⟩:=h.has .t hr trivial
   exact ⟨o,old .t hr trivial (by simp) o h1,h2⟩
  |nb=>
   refine ⟨o',zeU _ _ _, ?_⟩
   show zcg (some .i64) o' (zcm (L.add n b a k) (T.nodes++[(n,x0)]))
   rw [znK _ _ _ _ hn]at ho
   have e:zcm (L.add n b a k) (T.nodes++[(n,x0)])=zcm L T.nodes++[(.int .i64 n,ptr b)]:=by
    have e1:zcm (L.add n b a k) T.nodes=zcm L T.nodes:=zlA fun j x hj=>by
     have:j≠n:=fun e=>hkey (List.mem_map.2 ⟨(j,x),hj,e⟩)
     simp [Lay.add,this]
    have e2:∀(l r:List (Int×PN)) (M:Lay),zcm M (l++r)=zcm M l++zcm M r:=fun l r M=>by simp [zcm]
    rw [e2,e1]
    simp [zcm,Lay.add]
   rw [e];exact ho
  |mk=>
   obtain ⟨o,h1,h2⟩:=h.has .mk hr trivial
   exact ⟨o,old .mk hr trivial (by simp) o h1,trivial⟩
  |nd j=>
   by_cases hj:j=n
   ·subst hj
    refine ⟨_,by show ((uni mb m).upd (L .nb) o') (if j=j then b else _)=_;rw [if_pos rfl];exact new q1,fun x hx=> ?_⟩
    rw [hg,if_pos rfl]at hx
    cases hx
    exact ⟨e1,by simp [Lay.add]⟩
   ·have ha':act T (.nd j):=by obtain ⟨x,hx⟩:=ha;rw [hg,if_neg hj]at hx;exact ⟨x,hx⟩
    obtain ⟨o,h1,h2⟩:=h.has _ hr ha'
    refine ⟨o,by show ((uni mb m).upd (L .nb) o') (if j=n then b else _)=_;rw [if_neg hj];exact old _ hr ha' (by simp) o h1,fun x hx=> ?_⟩
    rw [hg,if_neg hj]at hx
    obtain ⟨e',he'⟩:=h2 x hx
    exact ⟨e',by rw [he'];simp [Lay.add,hj]⟩
  |ab j=>
   by_cases hj:j=n
   ·subst hj
    refine ⟨_,by show ((uni mb m).upd (L .nb) o') (if j=j then a else _)=_;rw [if_pos rfl];exact new q2,fun x hx=> ?_⟩
    rw [hg,if_pos rfl]at hx
    cases hx
    exact q2'
   ·have ha':act T (.ab j):=by obtain ⟨x,hx⟩:=ha;rw [hg,if_neg hj]at hx;exact ⟨x,hx⟩
    obtain ⟨o,h1,h2⟩:=h.has _ hr ha'
    refine ⟨o,by show ((uni mb m).upd (L .nb) o') (if j=n then a else _)=_;rw [if_neg hj];exact old _ hr ha' (by simp) o h1,fun x hx=> ?_⟩
    rw [hg,if_neg hj]at hx
    exact h2 x hx
  |kb j=>
   by_cases hj:j=n
   ·subst hj
    refine ⟨_,by show ((uni mb m).upd (L .nb) o') (if j=j then k else _)=_;rw [if_pos rfl];exact new q3,fun x hx=> ?_⟩
    rw [hg,if_pos rfl]at hx
    cases hx
    exact q3'
   ·have ha':act T (.kb j):=by obtain ⟨x,hx⟩:=ha;rw [hg,if_neg hj]at hx;exact ⟨x,hx⟩
    obtain ⟨o,h1,h2⟩:=h.has _ hr ha'
    refine ⟨o,by show ((uni mb m).upd (L .nb) o') (if j=n then k else _)=_;rw [if_neg hj];exact old _ hr ha' (by simp) o h1,fun x hx=> ?_⟩
    rw [hg,if_neg hj]at hx
    exact h2 x hx
 ·
  intro e
  have cls:∀r,R r→act (T.addX n x0) r→(r= .nd n∧(L.add n b a k) r=b)∨(r= .ab n∧(L.add n b a k) r=a)∨(r= .kb n∧(L.add n b a k) r=k)∨(act T r∧(L.add n b a k) r=L r):=by
   intro r hr ha
   cases r with
   |nd j=>
    by_cases hj:j=n
    ·subst hj;exact .inl ⟨rfl,by simp [Lay.add]⟩
    ·obtain ⟨x,hx⟩:=ha;rw [hg,if_neg hj]at hx
     exact .inr (.inr (.inr ⟨⟨x,hx⟩,by simp [Lay.add,hj]⟩))
   |ab j=>
    by_cases hj:j=n
    ·subst hj;exact .inr (.inl ⟨rfl,by simp [Lay.add]⟩)
    ·obtain ⟨x,hx⟩:=ha;rw [hg,if_neg hj]at hx
     exact .inr (.inr (.inr ⟨⟨x,hx⟩,by simp [Lay.add,hj]⟩))
   |kb j=>
    by_cases hj:j=n
    ·subst hj;exact .inr (.inr (.inl ⟨rfl,by simp [Lay.add]⟩))
    ·obtain ⟨x,hx⟩:=ha;rw [hg,if_neg hj]at hx
     exact .inr (.inr (.inr ⟨⟨x,hx⟩,by simp [Lay.add,hj]⟩))
   |t=>exact .inr (.inr (.inr ⟨trivial,rfl⟩))
   |nb=>exact .inr (.inr (.inr ⟨trivial,rfl⟩))
   |mk=>exact .inr (.inr (.inr ⟨trivial,rfl⟩))
  rcases cls r hr ha with ⟨h1,h2⟩|⟨h1,h2⟩|⟨h1,h2⟩|⟨h1,h2⟩<;>rcases cls s hs hb' with ⟨g1,g2⟩|⟨g1,g2⟩|⟨g1,g2⟩|⟨g1,g2⟩<;>rw [h2,g2]at e
  ·rw [h1,g1]
  ·exact absurd e hb.ba
  ·exact absurd e hb.bk
  ·exact absurd e.symm (hne q1 s hs g1)
  ·exact absurd e.symm hb.ba
  ·rw [h1,g1]
  ·exact absurd e hb.ak
  ·exact absurd e.symm (hne q2 s hs g1)
  ·exact absurd e.symm hb.bk
  ·exact absurd e.symm hb.ak
  ·rw [h1,g1]
  ·exact absurd e.symm (hne q3 s hs g1)
  ·exact absurd e (hne q1 r hr h1)
  ·exact absurd e (hne q2 r hr h1)
  ·exact absurd e (hne q3 r hr h1)
  ·exact h.sep r s hr hs h1 g1 e
 ·show ((T.nodes++[(n,x0)]).map (·.1)).Nodup
  rw [List.map_append,List.nodup_append]
  refine ⟨h.nod,by simp,fun x hx y hy=> ?_⟩
  simp only [List.map_cons,List.map_nil,List.mem_singleton]at hy
  subst hy
  exact fun e=>hkey (e▸hx)
structure Cloned (T:PT) (l:List (Int×PN)):Prop where
 perm:(l.map (·.1)).Perm (T.nodes.map (·.1))
 at':∀n x,zbZ l n=some x→T.get n=some x
section
variable {T:PT} {l:List (Int×PN)}
theorem Cloned.get (h:Cloned T l) (n:Int):PT.get ⟨l,[],0⟩ n=T.get n:=by
 show zbZ l n=zbZ T.nodes n
 cases hg:zbZ l n with
 |some x=>exact (h.at' n x hg).symm
 |none=>exact (zbH.2 fun hm=>zbH.1 hg (h.perm.mem_iff.2 hm)).symm
theorem Cloned.view (h:Cloned T l):PT.view ⟨l,[],0⟩=T.view:=by
 funext n
 unfold PT.view
 rw [h.get]
theorem Cloned.ok (h:Cloned T l) {k:Nat} (hk:T.ok k):PT.ok ⟨l,[],0⟩ k:=by
 have hl:l.length=T.nodes.length:=by simpa using h.perm.length_eq
 refine ⟨h.perm.nodup_iff.2 hk.nod, ?_,Int.le_refl _,Int.natCast_nonneg k,Nat.zero_le _,fun n x hx=> ?_,fun n x hx=> ?_⟩
 ·show l.length≤_
  rw [hl];exact hk.many
 ·rw [h.get]at hx;exact hk.keys n x hx
 ·rw [h.get]at hx;exact hk.attrs n x hx
theorem Cloned.kids (h:Cloned T l) (hk:T.kidsOk):PT.kidsOk ⟨l,[],0⟩:=by
 refine ⟨fun n x hx=> ?_,fun n x c hx=> ?_⟩
 ·rw [h.get]at hx;exact hk.nod n x hx
 ·rw [h.get]at hx
  rw [hk.mem n x c hx,h.get]
end
theorem zvO {a b c:PH} (h:dis a b):uni a (uni b c)=uni b (uni a c):=by rw [←zaW,zcc h,zaW]
theorem zpD {a R K M:PH} (h:dis a (uni R (uni K M))) (h1:dis R (uni K M)) (h2:dis K M):uni a (uni R (uni K M))=uni R (uni K (uni a M))∧dis R (uni K (uni a M))∧dis K (uni a M)∧dis a M:=by
 obtain ⟨g1,g2⟩:=zA h
 obtain ⟨g3,g4⟩:=zA g2
 obtain ⟨g5,g6⟩:=zA h1
 refine ⟨by rw [zvO g1,zvO g3],zX g5 (zX (zC g1) g6),zX (zC g3) h2,g4⟩
theorem znq {a b:Nat} {o p:Obj} {m:PH} (h:dis (one a o) m) (hm:m b=some p):a≠b:=fun e=>by
 subst e
 rcases h a with q|q
 ·simp [one]at q
 ·rw [q]at hm;cases hm
theorem zBt {bn ab kb:Nat} {on oa ok:Obj} {x:PN} {e:TypeId} {M:PH} (hon:on= .cells #[.int .i64 x.parent, .string x.name, .map (some ab), .map (some kb)] e (0,0)) (ha:zcg Option.none oa (zhx x.attrs)) (hk:zcg (some .i64) ok (zeJ x.kids))
  (h1:dis (one bn on) (uni (one kb ok) (uni (one ab oa) M))) (h2:dis (one kb ok) (uni (one ab oa) M)) (h3:dis (one ab oa) M):NodeM (uni (one bn on) (uni (one kb ok) (one ab oa))) bn ab kb x∧dis (uni (one bn on) (uni (one kb ok) (one ab oa))) M∧uni (one bn on) (uni (one kb ok) (uni (one ab oa) M))=uni (uni (one bn on) (uni (one kb ok) (one ab oa))) M:=by
 have bk:bn≠kb:=znq h1 (p:=ok) (by simp [uni,one])
 have ka:kb≠ab:=znq h2 (p:=oa) (by simp [uni,one])
 have ba:bn≠ab:=znq h1 (p:=oa) (by simp [uni,one,Ne.symm ka])
 refine ⟨⟨ba,bk,Ne.symm ka,⟨e, ?_⟩,⟨oa, ?_,ha⟩,⟨ok, ?_,hk⟩⟩, ?_, ?_⟩
 ·simp [uni,one,hon]
 ·simp [uni,one,Ne.symm ba,Ne.symm ka]
 ·simp [uni,one,Ne.symm bk]
 ·have g1:=zA h1
  have g2:=zA g1.2
  have g3:=zA h2
  exact zC (zX (zC g2.2) (zX (zC g3.2) (zC h3)))
 ·rw [zaW,zaW]
set_option maxHeartbeats 1000000 in
theorem zqG (w:World) (u:PH) (hu:u.le w) (L:Lay) (T:PT) (hT:TM u L T):
  Spec Tryz.prog zlO [ptr (L .t)] PH.no w fun rs m'=>∃L' l,rs=[.s (ptr (L' .t))]∧Cloned T l∧TM m' L' ⟨l,[],0⟩:=by
 refine zaT zmv [.g (.s (ptr (L .t)))] (by simp) (by simp [AV.ok,GV.ok,Value.oneCell',ptr]) ?_
 have hk:∀{l:List PH},KN (⟨Tryz.prog,45,w,PH.no⟩:Ctx).u0 l u:=zdJ hu
 simp (maxSteps:=2000000) only [zhc,zi,zm,zf,zc,zb,zh,zd,za,zj,ev,look,ze,zg,zk,Value.oneCell',cond_true,↓reduceIte,reduceCtorEq,zah,zaH,ptr]
 refine zbR _ [.s (.bool false)] rfl rfl (fun w' vs hv hw=> ?_) ?_
 ·obtain ⟨vs,rfl,_,hv⟩:=zs hv
  obtain rfl:=zr hv
  intro _
  exact zhK (fun b o h=>hw b o (by rw [zaL];exact hu b o h)) hT
 simp (maxSteps:=2000000) only [zJ,zu,zi,zm,zp,zf,zc,zb,zh,zd,za,zj,ev,look,ze,zg,zk,↓reduceIte,reduceCtorEq,↓zM]
 intro nb o0 ho0 _
 simp (maxSteps:=2000000) only [za,zj,ev,evL,gvL,look,zab,ze,↓reduceIte,Bool.true_and,true_and,List.map_nil,GV.bldT,GV.bldC]
 refine zbI 10 10 rfl rfl fun v10 u10 _ hp10 hd10=> ?_
 obtain ⟨_,km,em,rfl,rfl⟩:=hp10
 simp (maxSteps:=2000000) only [dropK,zi,zm,zf,zc,zb,zh,zd,za,zj,ev,evL,gvL,look,zab,ze,zg,zk,GV.getT,GV.same,GV.setT,cond_true,cond_false,Nat.reduceEqDiff,↓reduceIte,reduceCtorEq,Nat.add_zero,Bool.and_true,Bool.true_and,BEq.rfl,true_and,and_true,List.map_cons,List.map_nil,Option.map_some,zbv,SV.mentions,GV.bldT,GV.bldC]
 refine ⟨⟨rfl,rfl⟩,zK _ (hT.s_map hk) rfl ?_⟩
 simp (maxSteps:=2000000) only [zae,za,zj,ev,look,ze,↓reduceIte]
 obtain ⟨ob,idsV,hob,hmap⟩:=hT.at .nb trivial
 have hmap:zcg (some .i64) ob (zhY L (T.nodes.map (·.1))):=by rw [←zzL];exact hmap
 refine ⟨ob,_,zki hk hob,hmap,fun rr it hit hdr=> ?_⟩
 simp (maxSteps:=2000000) only [zB,zf,zc,zb,zd,look,ze,zg,zk,Nat.reduceEqDiff,↓reduceIte,reduceCtorEq]
 generalize hom:Obj.cells ((GV.s (Value.int IntKind.u8 0)).c GV.u).flat.toArray em (0,0)=om at hd10 hdr ⊢
 have hd10':dis (one km om) (one nb o0):=by have:=hd10;simpa only [zae]using this
 refine zaP (ι:=List (Int×PN)×Lay×Obj×PH) (fun q=>⟨[(3, .ref 12 []),(17, .g (.s (.pointer (some ⟨rr,0,none⟩))))],[(12, .box ((GV.s (.map (some nb))).c ((GV.s (.pointer (some ⟨km,0,none⟩))).c ((GV.s (.int .i64 0)).c ((GV.s (.slice none 0 0)).c ((GV.s (.int .i64 0)).c GV.u))))))],[],uni (one rr q.2.2.1) (uni (one km om) q.2.2.2)⟩)
  (fun q=>IterM q.2.2.1 ob (L .nb) (zhY L (q.1.map (·.1)))∧TreeT part q.2.2.2 q.2.1 ⟨q.1,[],0⟩ (.slice none 0 0)∧q.2.1 .nb=nb∧(∀n x,zbZ q.1 n=some x→T.get n=some x)∧dis (one km om) q.2.2.2∧dis (one rr q.2.2.1) (uni (one km om) q.2.2.2))
  (fun q=>T.nodes.length - q.1.length) ([],fun _=>nb,it,one nb o0) ⟨hit,TreeT.none (ho0 (some .i64)),rfl,fun n x h=>(by cases h),hd10',hdr⟩ (zS ?_ ?_ rfl rfl rfl) ?_
 ·simp [zag,look]
 ·simp [zaq,look]
 clear hit hdr hd10 hd10'
 rintro ⟨l,L1,it,M⟩ ⟨hI,hT1,hnb,hl,hdm,hdr⟩
 simp only at hI hT1 hnb hl hdm hdr
 generalize hQ:loopQ _ _ _ _ _=Q
 simp (maxSteps:=2000000) only [zfn,zi,zm,zh,za,zj,ev,look,Nat.reduceEqDiff,↓reduceIte,zcD]
 refine ⟨it,_,ob,_,_,_,zeB _ _ _,zki hk hob,hmap,hI,fun hp=> ?_,fun p it' hp hps hit'=> ?_⟩
 ·simp (maxSteps:=2000000) only [List.getElem?_cons_zero,zay,zi,zp,zf,zaz,zc,zb,zd,za,zj,ev,look,ze,zg,zk,Nat.reduceEqDiff,↓reduceIte,↓zM]
  subst hQ
  simp (maxSteps:=2000000) only [zi,zm,zf,zat,zaQ,zh,za,zj,ev,look,ze,↓reduceIte]
  refine zbI 2 12 rfl rfl fun v2 u2 _ hp2 hd2=> ?_
  obtain ⟨_,tt,et,rfl,rfl⟩:=hp2
  simp (maxSteps:=2000000) only [zt,zf,zc,zV,zb,zd,look,zg,zk,cond_true,cond_false,↓reduceIte,BEq.rfl,zbv,SV.mentions]
  subst hnb
  have hd3:dis (one tt (.cells #[.map (some (L1 .nb)),ptr km, .int .i64 0, .slice Option.none 0 0, .int .i64 0] et (0,0))) (uni (one rr it) (uni (one km om) M)):=hd2
  have hd4:=zA hd3
  refine zbj (uni (one tt (.cells #[.map (some (L1 .nb)),ptr km, .int .i64 0, .slice Option.none 0 0, .int .i64 0] et (0,0))) (uni (one km om) M)) rfl (fun b o h=> ?_) ⟨L1.top tt km,l,rfl,⟨zsn hp,hl⟩,TreeM.make hT1 hdm hd4.2⟩
  show uni (one tt (.cells #[.map (some (L1 .nb)),ptr km, .int .i64 0, .slice Option.none 0 0, .int .i64 0] et (0,0))) (uni (one rr it) (uni (one km om) M)) b=some o
  have h5:=fun h=>zax hdr b o h
  unfold uni at h h5 ⊢
  generalize one tt _ b=z at h ⊢
  cases z with
  |none=>exact h5 h
  |some y=>exact h
 ·obtain ⟨c,hc,rfl⟩:=zvp hp
  obtain ⟨⟨c',x⟩,hcx,hcc⟩:=List.mem_map.1 hc
  simp only at hcc
  subst hcc
  have hx:T.get c'=some x:=zjB hT.nod hcx
  have hcs:c'∉l.map (·.1):=fun h=>hps (List.mem_map.2 ⟨c',h,rfl⟩)
  have hit2:IterM it' ob (L .nb) (zhY L (l.map (·.1)++[c'])):=by
   have e:zhY L (l.map (·.1)++[c'])=zhY L (l.map (·.1))++[(.int .i64 c',ptr (L (.nd c')))]:=by simp [zhY]
   rw [e];exact hit'
  have hlen2:=hit2.le hmap
  simp only [zhY,List.length_map,List.length_append,List.length_cons,List.length_nil]at hlen2
  have hdr':dis (one rr it') (uni (one km om) M):=zdC hdr
  simp (maxSteps:=2000000) only [List.getElem?_cons_zero,zu,zi,zB,zm,zp,zf,zc,zb,zh,zd,za,zj,ev,look,ze,zg,zk,Nat.reduceEqDiff,↓reduceIte,↓zL,ptr]
  rw [zbY]
  refine ⟨it',_,ob,_,_,_,_, .inl (zeB _ _ _),zki hk hob,hmap,hit', ?_⟩
  simp (maxSteps:=2000000) only [List.getElem?_cons_zero,List.getElem?_cons_succ,zeG,zf,zc,zb,zh,zd,za,zAm,zjV,zeW,zqw,zbT,zgp,zaS,zkG,ldH,List.contains_cons,List.contains_nil,Bool.or_false,zj,ev,look,ze,zg,zk,GV.getT,GV.fld,Nat.reduceEqDiff,↓reduceIte,List.nil_append,Nat.zero_add,Nat.add_zero,Bool.and_true,Bool.true_and,Bool.not_false,BEq.rfl,true_and,and_true,zF,ptr]
  obtain ⟨oa,ja,hoa,hma⟩:=hT.at (.ab c') ⟨x,hx⟩
  obtain ⟨okk,jk,hok,hmk⟩:=hT.at (.kb c') ⟨x,hx⟩
  have hma:zcg none oa (zhx x.attrs):=hma x hx
  have hmk:zcg (some .i64) okk (zeJ x.kids):=hmk x hx
  refine ⟨_,(hT.s_node hk hx).2.2.2.2,rfl,_,(hT.s_node hk hx).2.2.1,rfl,_,(hT.s_node hk hx).2.2.2.1,rfl, ?_⟩
  refine zaE rfl rfl (Q:=fun rs m'=>∃b',rs=[.s (.map (some b'))]∧m'=one b' oa) (fun w' vs hv hw _ _=> ?_) fun rs ma _ hq hda=> ?_
  ·obtain ⟨vs,rfl,_,hv⟩:=zs hv
   obtain rfl:=zr hv
   obtain ⟨es,cl,rfl,_⟩:=hma
   exact zvM w' u (fun b o h=>hw b o (by rw [zaL];exact hu b o h)) _ es cl hoa
  obtain ⟨ab,rfl,rfl⟩:=hq
  simp (maxSteps:=2000000) only [zJ,zb,zh,zd,za,zjV,zeW,zbT,zaS,zj,look,ze,Nat.reduceEqDiff,↓reduceIte,Bool.and_true,Bool.true_and,true_and,and_true]
  refine zaE rfl rfl (Q:=fun rs m'=>∃b',rs=[.s (.map (some b'))]∧m'=one b' okk) (fun w' vs hv hw _ _=> ?_) fun rs mk _ hq hdk=> ?_
  ·obtain ⟨vs,rfl,_,hv⟩:=zs hv
   obtain rfl:=zr hv
   obtain ⟨es,cl,rfl,_⟩:=hmk
   exact zvh w' u (fun b o h=>hw b o (by rw [zaL];exact hu b o h)) _ es cl hok
  obtain ⟨kb,rfl,rfl⟩:=hq
  simp (maxSteps:=2000000) only [zJ,zb,zh,zd,za,oh_gh,zjV,zeW,zbT,zaS,zj,ev,evL,gvL,look,zab,ze,GV.getT,GV.same,GV.setT,Nat.reduceEqDiff,↓reduceIte,Bool.and_true,Bool.true_and,true_and,and_true,List.map_cons,List.map_nil,Option.map_some,GV.bldT,GV.bldC,zn,zaa,zjr]
  refine ⟨⟨rfl,rfl,rfl⟩, ?_⟩
  refine zbI 43 43 rfl rfl fun v43 u43 _ hp43 hdb=> ?_
  obtain ⟨_,bn,en,rfl,rfl⟩:=hp43
  have hda':dis (one ab oa) (uni (one rr it') (uni (one km om) M)):=hda
  obtain ⟨e1,f1,f2,f3⟩:=zpD hda' hdr' hdm
  have hdk':dis (one kb okk) (uni (one rr it') (uni (one km om) (uni (one ab oa) M))):=by rw [←e1];exact hdk
  obtain ⟨e2,f4,f5,f6⟩:=zpD hdk' f1 f2
  generalize hon:Obj.cells (((zbw ⟨x.parent,x.name⟩).c ((GV.s (.map (some ab))).c ((GV.s (.map (some kb))).c GV.u))).flat.toArray) en (0,0)=on at hdb ⊢
  have hdb':dis (one bn on) (uni (one rr it') (uni (one km om) (uni (one kb okk) (uni (one ab oa) M)))):=by rw [←e2,←e1];exact hdb
  obtain ⟨e3,f7,f8,f9⟩:=zpD hdb' f4 f5
  obtain ⟨hN,hdN,e4⟩:=zBt (x:=x) (e:=en) (by rw [←hon];rfl) hma hmk f9 f6 f3
  simp (maxSteps:=2000000) only [dropK,zh,za,zjV,zeW,zbT,zaS,zj,ev,look,cond_true,cond_false,Nat.reduceEqDiff,Nat.reduceBEq,↓reduceIte,Bool.and_true,Bool.true_and,BEq.rfl,true_and,and_true,zbv,SV.mentions]
  rw [e1,e2,e3,e4]
  rw [e4]at f7 f8
  obtain ⟨onb,hM,hmb⟩:=hT1.has .nb ⟨by simp,by simp⟩ trivial
  rw [hnb]at hM
  have hM1:=zdQ hdN hM
  have hM2:=zdQ f8 hM1.1
  have hM3:=zdQ f7 hM2.1
  refine ⟨onb,_,hM3.1,hmb,rfl,fun o' ho'=> ?_⟩
  rw [zcK hM3.2,zcK hM2.2]
  have hcn:PT.get ⟨l,[],0⟩ c'=Option.none:=zbH.2 hcs
  have hT2:=hT1.addX (x0:=x) ⟨by simp,by simp⟩ hN hdN hcn ho'
  simp (maxSteps:=2000000) only [zT,zc,zb,zd,zjV,zmR,zbT,zaS,look,zR,zg,zk,Nat.reduceEqDiff,↓reduceIte,Bool.and_true,Bool.true_and,true_and,and_true]
  subst hQ;simp only [zaB];refine ⟨(l++[(c',x)],L1.add c' bn ab kb,it',(uni (uni (one bn on) (uni (one kb okk) (one ab oa))) M).upd nb o'), ?_, ?_,zS ?_ ?_ rfl rfl rfl⟩
  ·refine ⟨?_,by rw [←hnb];exact hT2,hnb,fun n y hy=> ?_,zga f8 hM2.2, ?_⟩
   ·simp only [List.map_append,List.map_cons,List.map_nil]
    exact hit2
   ·simp only at hy
    rw [zmu]at hy
    cases hg:zbZ l n with
    |some z=>rw [hg]at hy;cases hy;exact hl n _ hg
    |none=>
     rw [hg]at hy
     simp only [zbZ]at hy
     split at hy
     ·rename_i hn;cases hy;rw [←hn];exact hx
     ·cases hy
   ·simp only
    rw [←zcK hM2.2]
    exact zga f7 hM3.2
  ·simp only [List.length_append,List.length_cons,List.length_nil];omega
  ·simp [zag,look]
  ·simp [zaq,look]
end Go.Proofs.YtmjiojflncffeaaGreat.Vc

set_option linter.unusedVariables false
set_option linter.unusedSimpArgs false
set_option maxRecDepth 100000
namespace Go.Proofs.YtmjiojflncffeaaGreat.Vc
open Go Go.Proofs
def zym (l:List TN) (f:Int) (ops:List Op) (rs:List GV) (m':PH):Prop:=
 (¬(0≤f∧f≤1099511627776)→rs=[.s (.pointer none), .s (.int .i64 1)])∧
 ((0≤f∧f≤1099511627776)→(¬zcF l→rs=[.s (.pointer none), .s (.int .i64 121)])∧
  (zcF l→(zbp [] f [] ops≠0→rs=[.s (.pointer none), .s (.int .i64 (zbp [] f [] ops))])∧
   (zbp [] f [] ops=0→∃b L Lb p,rs=[.s (ptr b), .s (.int .i64 0)]∧LogM m' b L Lb p∧p.good (ptr (L .mk)) 1048576 (1048576+ops.length)∧p.fr=f∧p.ds.map (·.op)=zez [] ops∧p.B.view=zcE l)))
theorem zyW {T:PT} {l:List (Int×PN)} {f:Int} {mk:Value} (hC:Cloned T l) (hT:T.ok 1048576) (hg:VGood T.view):PL.good ⟨T,⟨l,[],0⟩,f,[],0,T.ids⟩ mk 1048576 1048576:=
 ⟨⟨.nil,by rw [List.map_nil,zzm];exact hC.view.symm,⟨_,hT⟩,hT.lastk,hT.ids⟩,hC.ok hT,by rw [hC.view];exact hg,by simp,List.Pairwise.nil,by simp⟩
theorem zuT (w:World) (bv:Value) (f:Int) (v:Value) (ops:List Op) (hops:zpQ ops) (hS:SlR w.ph v 8 (ops.map gOp)) (hl:ops.length≤1048576)
  (ts:List TreeNode) (l:List TN) (hb:RowsIn w.ph bv ts l 1048576):
  Spec Tryz.prog zmA [bv, .int .i64 f,v] PH.no w (zym l f ops):=by
 have hbv:bv.oneCell'=true:=hb.rows.one
 refine zaT zua [.g (.s bv), .g (.s (.int .i64 f)), .ro v 8 (gOp zOp) (ops.map gOp)] (by simp) (fun x hx=>by
  simp only [List.mem_cons,List.not_mem_nil,or_false]at hx
  rcases hx with rfl|rfl|rfl
  ·exact hbv
  ·rfl
  ·rw [zaL];exact hS) ?_
 simp (maxSteps:=2000000) only [zmc,zu,zt,zi,zm,zp,zf,zq,zc,zV,zb,zh,zH,zd,za,zj,RO.isGh,zI,zan,ev,look,ze,zg,zk,zN,zO,Value.oneCell',cond_true,cond_false,Nat.reduceEqDiff,Nat.reduceAdd,↓reduceIte,reduceCtorEq,Nat.zero_add,Bool.true_and,Bool.not_false,true_and,zah,zaH,Int.reduceAdd,decide_eq_true_eq,decide_eq_false_iff_not,↓zL,↓zM,zav,zdx,List.length_map]
 have bad:¬(0≤f∧f≤1099511627776)→zym l f ops [.s (.pointer none), .s (.int .i64 1)] PH.no:=fun h=>⟨fun _=>rfl,fun h2=>absurd h2 h⟩
 refine ⟨fun h1=>⟨fun h2=>zcb (rs:=[.s (.pointer none), .s (.int .i64 1)]) rfl (bad (by omega)),fun h2=> ?_⟩,fun h1=>zcb (rs:=[.s (.pointer none), .s (.int .i64 1)]) rfl (bad (by omega))⟩
 have hf:0≤f∧f≤1099511627776:=by omega
 have hT:∀w':World,PH.sub w.ph w'.ph→Spec Tryz.prog zoO [bv] PH.no w' fun rs m'=>(zcF l→∃L T,rs=[.s (ptr (L .t)), .s (.int .i64 0)]∧TM m' L T∧T.ok 1048576∧VGood T.view∧T.kidsOk∧T.view=zcE l)∧(¬zcF l→rs=[.s (.pointer none), .s (.int .i64 121)]):=fun w' hw'=>by
  have hb':=hb.up hw'
  exact zrH w' bv ts l w'.ph (fun _ _ h=>h) hb'.rows hb'.told 1048576 (by omega) hb.few hb.attrs hb.name hb.wf
 by_cases hA:zcF l
 case neg=>
  refine zbR _ [.s (.pointer none), .s (.int .i64 121)] rfl rfl (fun w' vs hvv hw _=> ?_) ?_
  ·obtain ⟨vs,rfl,_,hvv⟩:=zs hvv
   obtain rfl:=zr hvv
   exact (hT w' fun b o h=>hw b o (by rw [zaL];exact h)).mono fun rs m' h=>h.2 hA
  simp (maxSteps:=2000000) only [zJ,List.getElem?_cons_zero,List.getElem?_cons_succ,Int.reduceBNe,zt,zi,zm,zp,zf,zq,zc,zV,zb,zh,zd,za,zj,ev,look,ze,zg,zk,zN,zO,Value.oneCell',cond_true,Nat.reduceEqDiff,↓reduceIte,reduceCtorEq,Bool.true_and,true_and,↓zL]
  exact zcb (rs:=[.s (.pointer none), .s (.int .i64 121)]) rfl ⟨fun h=>absurd hf h,fun _=>⟨fun _=>rfl,fun h=>absurd h hA⟩⟩
 refine zaE rfl rfl (Q:=fun rs m'=>∃L T,rs=[.s (ptr (L .t)), .s (.int .i64 0)]∧TM m' L T∧T.ok 1048576∧VGood T.view∧T.kidsOk∧T.view=zcE l) (fun w' vs hvv hw _ _=> ?_) fun rs mT _ hq _=> ?_
 ·obtain ⟨vs,rfl,_,hvv⟩:=zs hvv
  obtain rfl:=zr hvv
  exact (hT w' fun b o h=>hw b o (by rw [zaL];exact h)).mono fun rs m' h=>h.1 hA
 obtain ⟨L,T,rfl,hTM,hok,hgd,hki,hvw⟩:=hq
 simp (maxSteps:=2000000) only [zJ,List.getElem?_cons_zero,List.getElem?_cons_succ,zae,bne_self_eq_false,zu,zi,zm,zp,zf,zc,zb,zh,zd,za,zj,ev,evL,gvL,look,ze,zg,zk,zN,zO,GV.getT,GV.same,GV.setT,Value.oneCell',cond_true,Nat.reduceEqDiff,↓reduceIte,reduceCtorEq,Bool.and_true,Bool.true_and,true_and,and_true,List.map_cons,List.map_nil,Option.map_some,↓zM,GV.bldT,GV.bldC,ptr]
 refine ⟨rfl, ?_⟩
 refine zaE rfl rfl (Q:=fun rs m'=>∃L' l',rs=[.s (ptr (L' .t))]∧Cloned T l'∧TM m' L' ⟨l',[],0⟩) (fun w' vs hvv hw _ hm=> ?_) fun rs mB _ hq hdB=> ?_
 ·obtain ⟨vs,rfl,_,hvv⟩:=zs hvv
  obtain rfl:=zr hvv
  exact zqG w' mT hm L T hTM
 obtain ⟨Lb,l',rfl,hC,hBM⟩:=hq
 simp (maxSteps:=2000000) only [zJ,GV.bldC,GV.bldT,za,zj,ev,evL,gvL,look,zab,ze,GV.getT,GV.same,GV.setT,Nat.reduceEqDiff,↓reduceIte,Bool.and_true,Bool.true_and,true_and,and_true,List.map_cons,List.map_nil,Option.map_some,GV.bldT,GV.bldC,zcJ,ptr]
 refine ⟨⟨rfl,rfl,rfl⟩,zbI 33 33 rfl rfl fun v33 u33 _ hp33 hd33=> ?_⟩
 obtain ⟨_,b,e,rfl,rfl⟩:=hp33
 have hdB:dis mB mT:=hdB
 have hd2:dis (one b (zev L Lb f (.slice none 0 0) 0 e)) (uni mB mT):=hd33
 simp (maxSteps:=2000000) only [dropK,zi,zm,zf,zc,zb,zh,zd,za,zj,ev,look,ze,zg,zk,cond_true,cond_false,Nat.reduceEqDiff,Nat.reduceBEq,↓reduceIte,BEq.rfl,zbv,SV.mentions]
 have em:uni mB mT=uni PH.no (uni mT mB):=by rw [zeN,zcc hdB]
 have hL:LogM (uni (one b (zev L Lb f (.slice none 0 0) 0 e)) (uni mB mT)) b L Lb ⟨T,⟨l',[],0⟩,f,[],0,T.ids⟩:=by
  rw [em]at hd2 ⊢
  exact ⟨.slice none 0 0,e,PH.no,mT,mB,rfl,⟨hd2,zfL _,zC hdB,⟨fun x hx=>by simp at hx, .inl ⟨rfl,rfl⟩⟩,hTM,hBM⟩⟩
 have hg:=zyW (f:=f) (mk:=ptr (L .mk)) hC hok hgd
 refine zlt _ PH.no rfl rfl (zae _).symm (zdj _) (Q:=AddQ b L Lb ⟨T,⟨l',[],0⟩,f,[],0,T.ids⟩ 1048576 1048576 ops) (fun w' vs hvv h0 _ _=> ?_) fun rs m1 _ hq _=> ?_
 ·obtain ⟨vs,rfl,_,hvv⟩:=zuc hvv
  obtain ⟨v',vs,rfl,hs,hvv⟩:=znF (z:=8) (xs:=ops.map gOp) rfl (by simp) hvv
  obtain rfl:=zmT hvv
  exact zvd w' _ b L Lb _ hL hg v' ops hops hs (by simp only [List.length_nil];omega) (by simp)
 by_cases he:zbp [] f [] ops=0
 ·obtain ⟨L1,p',n,hL1,hk1,rfl,hLM,hg1,hA1⟩:=hq.2 he
  simp (maxSteps:=2000000) only [zJ,zae,List.getElem?_cons_zero,List.getElem?_cons_succ,bne_self_eq_false,zu,zi,zm,zp,zf,zc,zb,zh,zd,za,zj,ev,look,ze,zg,zk,zN,zO,Value.oneCell',cond_true,Nat.reduceEqDiff,↓reduceIte,Nat.zero_add,Bool.true_and,true_and,↓zM]
  obtain ⟨ov,e',mo,mr,rfl,hd,hSo,hmr,_,hback⟩:=hLM.list
  refine zfS rfl _ e' ⟨(zdQ hd hmr).1,by simp⟩ ?_
  simp (maxSteps:=2000000) only [zt,zi,zm,zf,zc,zV,zb,zh,zd,za,zj,ev,look,ze,zR,zg,zk,Value.oneCell',cond_true,Nat.reduceEqDiff,↓reduceIte,ptr]
  rw [zcK (zdQ hd hmr).2]
  have hLM2:=hback (fr':=p'.fr) (red':=0) hSo hd
  refine zbj (rs:=[.s (ptr b), .s (.int .i64 0)]) _ rfl (fun _ _ h=>h) ⟨fun h=>absurd hf h,fun _=>⟨fun h=>absurd hA h,fun _=>⟨fun h=>absurd he h,fun _=>⟨b,L1,Lb,{p' with red:=0},rfl,hLM2, ?_,hA1.fr, ?_, ?_⟩⟩⟩⟩
  ·have:=hg1
   rw [←hk1]at this
   exact ⟨this.fl,this.bok,this.bgood,by simpa using this.many,this.ris,this.ops⟩
  ·show p'.ds.map (·.op)=zez [] ops
   exact zBE rfl hg1 hA1 he
  ·show PT.view p'.B=_
   rw [hA1.B]
   show PT.view ⟨l',[],0⟩=_
   rw [hC.view,hvw]
 ·obtain ⟨rfl,_⟩:=hq.1 he
  simp (maxSteps:=2000000) only [zJ,zae,List.getElem?_cons_zero,List.getElem?_cons_succ,bne_iff_ne.2 he,zt,zi,zm,zp,zf,zq,zc,zV,zb,zh,zd,za,zj,ev,look,ze,zg,zk,zN,zO,Value.oneCell',cond_true,Nat.reduceEqDiff,↓reduceIte,Bool.true_and,true_and,↓zL]
  exact zcb (rs:=[.s (.pointer none), .s (.int .i64 (zbp [] f [] ops))]) rfl ⟨fun h=>absurd hf h,fun _=>⟨fun h=>absurd hA h,fun _=>⟨fun _=>rfl,fun h=>absurd h he⟩⟩⟩
end Go.Proofs.YtmjiojflncffeaaGreat.Vc

set_option linter.unusedVariables false
set_option linter.unusedSimpArgs false
set_option maxRecDepth 100000
namespace Go.Proofs.YtmjiojflncffeaaGreat.Vc
open Go Go.Proofs
theorem zyL {l:List TN} (h:zcF l) (hlen:l.length≤1048576) (hat:∀r∈l,r.attrs.length≤1048576) (hwf:∀r∈l,(Lit.int .i64 r.node).wf=true):∃B:PT,B.ok 1048576∧VGood B.view∧B.view=zcE l:=by
 obtain ⟨T,h1,h2⟩:=h
 have hR:=zfx h1
 exact ⟨T,hR.ok hlen hat hwf,hR.good h2,hR.view⟩
theorem zuf (w:World) (bv:Value) (f:Int) (v:Value) (ops:List Op) (hops:zpQ ops) (hS:SlR w.ph v 8 (ops.map gOp)) (hl:ops.length≤1048576)
  (ts:List TreeNode) (l:List TN) (hb:RowsIn w.ph bv ts l 1048576):
  Spec Tryz.prog zdq [bv, .int .i64 f,v] PH.no w fun rs _=>rs=[.s (.bool true)]:=by
 have hbv:bv.oneCell'=true:=hb.rows.one
 refine zbL zmQ (Qf:=fun rs=>rs=[.s (.bool true)]) [.g (.s bv), .g (.s (.int .i64 f)), .ro v 8 (gOp zOp) (ops.map gOp)] (by simp) (fun x hx=>by
  simp only [List.mem_cons,List.not_mem_nil,or_false]at hx
  rcases hx with rfl|rfl|rfl
  ·exact hbv
  ·rfl
  ·rw [zaL];exact hS) ?_
 have hB:zcF l→∃B:PT,B.ok 1048576∧VGood B.view∧B.view=zcE l:=fun h=>zyL h hb.few hb.attrs hb.wf
 have h1:∀(w':World) (v':Value),PH.sub w.ph w'.ph→SlR w'.ph v' 8 (ops.map gOp)→Spec Tryz.prog zmA [bv, .int .i64 f,v'] PH.no w' (zym l f ops):=fun w' v' hw hs=>zuT w' bv f v' ops hops hs hl ts l (hb.up hw)
 have h2:∀(w':World) (v':Value),PH.sub w.ph w'.ph→SlR w'.ph v' 8 (ops.map gOp)→Spec Tryz.prog zmr [bv, .int .i64 f,v'] PH.no w' (zxu l bv f ops):=fun w' v' hw hs=>ztr w' bv f v' ops hops hs hl ts l (hb.up hw) hB
 simp (maxSteps:=2000000) only [zhn,zi,zm,zf,zc,zb,zh,zd,za,zj,ev,look,ze,zg,zk,Value.oneCell',cond_true,Nat.reduceEqDiff,Nat.reduceAdd,↓reduceIte,reduceCtorEq,Nat.zero_add,zah,zaH,Int.reduceAdd,List.length_map]
 by_cases hs:(0≤f∧f≤1099511627776)∧zcF l∧zbp [] f [] ops=0
 case neg=>
  obtain ⟨c,hc,g1,g2⟩:∃c:Int,c≠0∧(∀rs m',zym l f ops rs m'→rs=[.s (.pointer none), .s (.int .i64 c)])∧(∀rs m',zxu l bv f ops rs m'→rs=[.s (.pointer none), .s (.int .i64 c)]):=by
   by_cases hf:0≤f∧f≤1099511627776
   ·by_cases hA:zcF l
    ·exact ⟨_,fun h=>hs ⟨hf,hA,h⟩,fun rs m' h=>((h.2 hf).2 hA).1 fun h=>hs ⟨hf,hA,h⟩,fun rs m' h=>((h.2 hf).2 hA).1 fun h=>hs ⟨hf,hA,h⟩⟩
    ·exact ⟨121,by omega,fun rs m' h=>(h.2 hf).1 hA,fun rs m' h=>(h.2 hf).1 hA⟩
   ·exact ⟨1,by omega,fun rs m' h=>h.1 hf,fun rs m' h=>h.1 hf⟩
  refine zbR _ [.s (.pointer none), .s (.int .i64 c)] rfl rfl (fun w' vs hvv hw _=> ?_) ?_
  ·obtain ⟨vs,rfl,_,hvv⟩:=zs hvv
   obtain ⟨vs,rfl,_,hvv⟩:=zs hvv
   obtain ⟨v',vs,rfl,hs',hvv⟩:=zdM (z:=8) (xs:=ops.map gOp) rfl (by simp) hvv
   obtain rfl:=zr hvv
   exact (h1 w' v' (fun b o h=>hw b o (by rw [zaL];exact h)) hs').mono g1
  simp (maxSteps:=2000000) only [zJ,List.getElem?_cons_zero,List.getElem?_cons_succ,zi,zm,zf,zc,zb,zh,zd,za,zj,ev,look,ze,zg,zk,Nat.reduceEqDiff,↓reduceIte,reduceCtorEq]
  refine zbR _ [.s (.pointer none), .s (.int .i64 c)] rfl rfl (fun w' vs hvv hw _=> ?_) ?_
  ·obtain ⟨vs,rfl,_,hvv⟩:=zs hvv
   obtain ⟨vs,rfl,_,hvv⟩:=zs hvv
   obtain ⟨v',vs,rfl,hs',hvv⟩:=zdM (z:=8) (xs:=ops.map gOp) rfl (by simp) hvv
   obtain rfl:=zr hvv
   exact (h2 w' v' (fun b o h=>hw b o (by rw [zaL];exact h)) hs').mono g2
  simp (maxSteps:=2000000) only [zJ,List.getElem?_cons_zero,List.getElem?_cons_succ,zi,zm,zf,zc,zb,zh,zd,za,zj,ev,look,ze,zg,zk,Nat.reduceEqDiff,↓reduceIte,reduceCtorEq]
  refine zbR _ [.s (.bool true)] rfl rfl (fun w' vs hvv _ _=> ?_) ?_
  ·obtain rfl:=zr hvv
   exact zoz w'
  simp (maxSteps:=2000000) only [zJ,bne_self_eq_false,Bool.not_true,zh,zH,zd,za,zj,ev,look,ze,zN,zO,unV,Value.oneCell',cond_true,Nat.reduceEqDiff,↓reduceIte,Bool.true_and,Bool.not_true,true_and,↓zbf,↓zM]
  refine zcq (zmn Tryz.underlying27) ?_
  simp (maxSteps:=2000000) only [beq_eq_false_iff_ne.2 hc,Bool.bne_true,Bool.not_true,za,zj,ev,look,ze,zN,zO,Value.oneCell',cond_true,Nat.reduceEqDiff,↓reduceIte,Bool.true_and,Bool.not_true,true_and,Bool.bne_true]
  refine zcq (zlQ Tryz.underlying4 _ _) ?_
  simp (maxSteps:=2000000) only [beq_self_eq_true,bne_self_eq_false,zu,zi,zm,zp,zf,zc,zb,zh,zd,za,zj,ev,look,ze,zg,zk,Value.oneCell',cond_true,Nat.reduceEqDiff,↓reduceIte,↓zM]
  refine zcq (zmn Tryz.underlying27) ?_
  simp (maxSteps:=2000000) only [zt,zf,zc,zb,zh,zH,zd,za,zj,RO.isGh,zI,zan,ev,look,ze,zg,zk,Value.oneCell',cond_true,cond_false,Nat.reduceEqDiff,↓reduceIte,Bool.not_false,zG,zao,zD,↓zL,↓zca,Bool.bne_false]
 obtain ⟨hf,hA,he⟩:=hs
 refine zbK rfl rfl (Q:=fun rs m'=>∃b L Lb p,rs=[.s (ptr b), .s (.int .i64 0)]∧LogM m' b L Lb p∧p.good (ptr (L .mk)) 1048576 (1048576+ops.length)∧p.fr=f∧p.ds.map (·.op)=zez [] ops∧p.B.view=zcE l) (fun w' vs hvv hw _ _=> ?_) fun rs mL _ hq=> ?_
 ·obtain ⟨vs,rfl,_,hvv⟩:=zs hvv
  obtain ⟨vs,rfl,_,hvv⟩:=zs hvv
  obtain ⟨v',vs,rfl,hs',hvv⟩:=zdM (z:=8) (xs:=ops.map gOp) rfl (by simp) hvv
  obtain rfl:=zr hvv
  exact (h1 w' v' (fun b o h=>hw b o (by rw [zaL];exact h)) hs').mono fun rs m' h=>((h.2 hf).2 hA).2 he
 obtain ⟨b,L,Lb,p,rfl,hL,hg,hfr,hds,hv⟩:=hq
 simp (maxSteps:=2000000) only [zJ,List.getElem?_cons_zero,List.getElem?_cons_succ,zi,zm,zf,zc,zb,zh,zd,za,zj,ev,look,ze,zg,zk,Nat.reduceEqDiff,↓reduceIte,reduceCtorEq,ptr]
 refine zbK rfl rfl (Q:=fun rs m'=>∃b,rs=[.s (ptr b), .s (.int .i64 0)]∧RLog m' b bv f (zez [] ops)) (fun w' vs hvv hw _ _=> ?_) fun rs mR _ hq=> ?_
 ·obtain ⟨vs,rfl,_,hvv⟩:=zs hvv
  obtain ⟨vs,rfl,_,hvv⟩:=zs hvv
  obtain ⟨v',vs,rfl,hs',hvv⟩:=zdM (z:=8) (xs:=ops.map gOp) rfl (by simp) hvv
  obtain rfl:=zr hvv
  exact (h2 w' v' (fun b o h=>hw b o (by rw [zaL];exact h)) hs').mono fun rs m' h=>((h.2 hf).2 hA).2 he
 obtain ⟨b2,rfl,hR⟩:=hq
 simp (maxSteps:=2000000) only [zJ,List.getElem?_cons_zero,List.getElem?_cons_succ,zi,zm,zf,zc,zb,zh,zd,za,zj,ev,look,ze,zg,zk,Nat.reduceEqDiff,↓reduceIte,reduceCtorEq,ptr]
 refine zbR _ [.s (.bool true)] rfl rfl (fun w' vs hvv _ _=> ?_) ?_
 ·obtain rfl:=zr hvv
  exact zoz w'
 simp (maxSteps:=2000000) only [zJ,bne_self_eq_false,Bool.not_true,zh,zH,zd,za,zj,ev,look,ze,zN,zO,unV,Value.oneCell',cond_true,Nat.reduceEqDiff,↓reduceIte,Bool.true_and,Bool.not_true,true_and,↓zbf,↓zM]
 refine zcq (zxV _) ?_
 simp (maxSteps:=2000000) only [beq_self_eq_true,za,zj,ev,look,ze,zN,zO,Value.oneCell',cond_true,Nat.reduceEqDiff,↓reduceIte,Bool.true_and,Bool.not_false,true_and,Bool.bne_true]
 refine zcq (zlQ Tryz.underlying4 _ _) ?_
 simp (maxSteps:=2000000) only [beq_self_eq_true,bne_self_eq_false,zu,zi,zm,zp,zf,zc,zb,zh,zd,za,zj,ev,look,ze,zg,zk,Value.oneCell',cond_true,Nat.reduceEqDiff,↓reduceIte,↓zM]
 refine zcq (zxV _) ?_
 simp (maxSteps:=2000000) only [zH,zd,za,zj,ev,look,ze,Nat.reduceEqDiff,↓reduceIte,↓zbf,Bool.bne_false]
 refine zbR _ [.s (.bool true)] rfl rfl (fun w' vs hvv hw hph=> ?_) ?_
 ·obtain ⟨vs,rfl,_,hvv⟩:=zs hvv
  obtain ⟨vs,rfl,_,hvv⟩:=zs hvv
  obtain ⟨vs,rfl,_,hvv⟩:=zs hvv
  obtain rfl:=zr hvv
  have hlen:p.ds.length=ops.length:=by
   have:=congrArg List.length hds
   rw [List.length_map,(ziI [] ops).length_eq]at this
   simpa using this
  have hsub:PH.sub w.ph w'.ph:=fun b o h=>hw b o (by rw [zaL];exact h)
  exact zyN w' mL (hph mL (by simp)) b L Lb p hL hg (by omega) (by omega) (by omega) mR (hph mR (by simp)) b2 bv (by rw [hfr,hds];exact hR) ts l w'.ph (fun _ _ h=>h) (hb.up hsub) hA hv
 simp (maxSteps:=2000000) only [zJ,zt,zf,zc,zb,zh,zd,za,zj,ev,look,ze,zg,zk,Value.oneCell',cond_true,Nat.reduceEqDiff,↓reduceIte,zG,zao,zD,↓zM]
end Go.Proofs.YtmjiojflncffeaaGreat.Vc

set_option linter.unusedVariables false
set_option linter.unusedSimpArgs false
namespace Go.Proofs.YtmjiojflncffeaaGreat.Vc
open Go Go.Proofs Go.Proofs.YtmjiojflncffeaaGreat Go.ChangeShapes Go.WideShapes Go.ChangeAt
section
variable {H:Type} (enc:TypeId×Value→H) (P:Program) (W:World)
def zzO (t:TypeId) (v:Value) (n:Nat):Prop:=∃fuel x,DataW.trod enc P W 0 (fun _=>true) true fuel t [v]=some x∧(x.1.weights P t).all (· ≤reachBytes)=true∧Rows.uptoBulk x.1=n
def KB (n:Nat) (k:K1) (v:Value):Prop:=(∀s,v= .string s→s.size≤n)∧∀t,k= .sl t→∃m,m≤n∧zzO enc P W t v m
def FineB (n:Nat) (ks:List K1) (q:Raw):Prop:=∀(j:Nat) (k:K1),ks[j]? =some k→KB enc P W n k (q.at j k)
end
section
variable {H:Type} {enc:TypeId×Value→H} {P:Program} {W:World}
def KindsB (n:Nat) (ks:List K1) (cs:List Value):Prop:=cs.length=ks.length∧∀(j:Nat) (v:Value) (k:K1),cs[j]? =some v→ks[j]? =some k→KB enc P W n k v
theorem zhl:∀{l:List (DataW H)} {d:DataW H},d∈l→Rows.uptoBulk d≤Rows.uptoBulkAll l
 |[],_,h=>by simp at h
 |x::l,d,h=>by
  simp only [Rows.uptoBulkAll]
  rcases List.mem_cons.1 h with rfl|h
  ·omega
  ·have:=zhl h;omega
theorem zyK (l:List (DataW H)):l.length≤Rows.uptoBulkAll l:=by
 induction l with
 |nil=>simp
 |cons x l ih=>have:=zou x;simp only [Rows.uptoBulkAll,List.length_cons];omega
theorem KindsB.app {N:Nat} {a b:List K1} {cs:List Value} (h1:KindsB (enc:=enc) (P:=P) (W:=W) N a (cs.take a.length)) (h2:KindsB (enc:=enc) (P:=P) (W:=W) N b (cs.drop a.length)):KindsB (enc:=enc) (P:=P) (W:=W) N (a++b) cs:=by
 obtain ⟨l1,h1⟩:=h1
 obtain ⟨l2,h2⟩:=h2
 simp only [List.length_take,List.length_drop]at l1 l2
 refine ⟨by simp;omega,fun j v k hj hk=> ?_⟩
 rcases Nat.lt_or_ge j a.length with hl|hl
 ·rw [List.getElem?_append_left hl]at hk
  exact h1 j v k (by rw [List.getElem?_take_of_lt hl];exact hj) hk
 ·rw [List.getElem?_append_right hl]at hk
  exact h2 (j - a.length) v k (by rw [List.getElem?_drop,show a.length+(j - a.length)=j by omega];exact hj) hk
theorem zuN (N:Nat):∀(n:Nat) (fuel:Nat) (t:TypeId) (ks:List K1) (cs:List Value) (x:DataW H×List MemPlace),zpm P n t=some ks→DataW.trod enc P W 0 (fun _=>true) true fuel t cs=some x→
  (x.1.weights P t).all (· ≤reachBytes)=true→Rows.uptoBulk x.1≤N→KindsB (enc:=enc) (P:=P) (W:=W) N ks cs:=by
 intro n
 induction n with
 |zero=>intro fuel t ks cs x hk;cases hk
 |succ n ih=>
  intro fuel t ks cs x hk h hw hN
  unfold zpm at hk
  have single:∀(k:K1) (v:Value),KB enc P W N k v→KindsB (enc:=enc) (P:=P) (W:=W) N [k] [v]:=fun k v hkv=>by
   refine ⟨rfl,fun j v' k' hj hk'=> ?_⟩
   cases j with
   |zero=>simp at hj hk';subst hj;subst hk';exact hkv
   |succ j=>simp at hj
  cases hu:P.underlying t with
  |none=>rw [hu]at hk;cases hk
  |some d=>
   rw [hu]at hk
   cases d with
   |bool=>
    obtain ⟨b,rfl,rfl⟩:=DataW.trod_bool hu h
    simp at hk;subst hk
    exact single _ _ ⟨(fun s hs=>by cases hs),fun t e=>by cases e⟩
   |int k=>
    obtain ⟨m,rfl,rfl,hwf⟩:=DataW.trod_int hu h
    simp at hk;subst hk
    exact single _ _ ⟨(fun s hs=>by cases hs),fun t e=>by cases e⟩
   |string=>
    obtain ⟨s,rfl,rfl,hl⟩:=DataW.trod_string hu h
    simp at hk;subst hk
    have:s.size≤N:=by
     simp only [Rows.uptoBulk,Array.length_toList]at hN
     have e:s.data.size=s.size:=rfl
     omega
    exact single _ _ ⟨(fun s' hs=>by cases hs;exact this),fun t e=>by cases e⟩
   |slice e=>
    have hcs:∃a n c,cs=[.slice a n c]:=by
     rcases DataW.trod_slice hu h with ⟨rfl,_⟩|⟨a,len,cap,_,_,_,_,rfl,_⟩
     ·exact ⟨_,_,_,rfl⟩
     ·exact ⟨_,_,_,rfl⟩
    obtain ⟨a,m,c,rfl⟩:=hcs
    simp at hk;subst hk
    refine single _ _ ⟨(fun s hs=>by cases hs),fun t' e'=> ?_⟩
    cases e'
    exact ⟨_,hN,fuel,x,h,hw,rfl⟩
   |struct fs=>
    simp only [Option.bind_eq_some_iff]at hk
    obtain ⟨l,hl,hk⟩:=hk
    split at hk
    ·rename_i hlen
     simp at hk;subst hk
     obtain ⟨xs,m,_,rfl,hcl,hxl,hf⟩:=DataW.trod_struct hu h
     simp only [DataW.weights,hu]at hw
     simp only [Rows.uptoBulk]at hN
     have key:∀(gs:List Field) (i o:Nat) (l':List K1),(∀k f,gs[k]? =some f→fs[i+k]? =some f)→i+gs.length=fs.size→zhe (zpm P n) P gs o=some l'→(cs.drop o).length=l'.length→KindsB (enc:=enc) (P:=P) (W:=W) N l' (cs.drop o):=by
      intro gs
      induction gs with
      |nil=>
       intro i o l' _ _ hl' hlen'
       simp [zhe]at hl';subst hl'
       have:cs.drop o=[]:=List.length_eq_zero_iff.mp (by simpa using hlen')
       rw [this]
       exact ⟨rfl,fun j v k hj=>by simp at hj⟩
      |cons f gs ihg=>
       intro i o l' hgs hi hl' hlen'
       simp only [zhe]at hl'
       split at hl'
       ·rename_i hoff
        simp only [Option.bind_eq_some_iff]at hl'
        obtain ⟨a,ha,hl'⟩:=hl'
        split at hl'
        ·rename_i hal
         simp only [Option.map_eq_some_iff]at hl'
         obtain ⟨b,hb,rfl⟩:=hl'
         have hfi:=hgs 0 f rfl
         rw [Nat.add_zero]at hfi
         have hlt:i<fs.size:=by simp at hi;omega
         have ht:=hf i f hfi
         rw [List.getElem?_eq_getElem (by omega:i<xs.length)]at ht
         have hk1:=ih m f.type a _ _ ha ht (zks hw (fun y hy=>zfI (i:=i) (t:=f.type) (d:=xs[i].1) (by simp [hfi]) (by simp [List.getElem?_eq_getElem (by omega:i<xs.length)]) y hy)) (by
          have:=zhl (l:=xs.map fun x=>x.1) (d:=xs[i].1) (List.mem_map.2 ⟨xs[i],List.getElem_mem (by omega),rfl⟩)
          exact Nat.le_trans this (by omega))
         rw [hoff,←hal]at hk1
         refine KindsB.app hk1 ?_
         rw [List.drop_drop]
         simp only [List.length_append]at hlen'
         refine ihg (i+1) (o+a.length) b (fun k f' hk'=> ?_) (by simp at hi;omega) hb (by simp only [List.length_drop]at hlen' ⊢;omega)
         have:=hgs (k+1) f' (by simpa using hk')
         rw [show i+(k+1)=i+1+k by omega]at this
         exact this
        ·cases hl'
       ·cases hl'
     have:=key fs.toList 0 0 l (fun k f hk=>by simpa using hk) (by simp) hl (by simp [hcl,hlen])
     simpa using this
    ·cases hk
   |array m e=>
    simp only [Option.bind_eq_some_iff]at hk
    obtain ⟨l,hl,hk⟩:=hk
    split at hk
    ·rename_i hlen
     simp at hk;subst hk
     obtain ⟨xs,q,_,rfl,hcl,hxl,hf⟩:=DataW.trod_array hu h
     simp only [DataW.weights,hu]at hw
     simp only [Rows.uptoBulk]at hN
     have key:∀(r i:Nat),i+r=m→KindsB (enc:=enc) (P:=P) (W:=W) N ((List.range r).flatMap fun _=>l) (cs.drop (i*P.cellsOf e)):=by
      intro r
      induction r with
      |zero=>
       intro i hi
       have:cs.drop (i*P.cellsOf e)=[]:=List.drop_eq_nil_of_le (by rw [hcl,←hlen.2,show i=m by omega];exact Nat.le_refl _)
       rw [this]
       exact ⟨rfl,fun j v k hj=>by simp at hj⟩
      |succ r ihr=>
       intro i hi
       have hlt:i<xs.length:=by omega
       have ht:=hf i (by omega)
       rw [List.getElem?_eq_getElem hlt]at ht
       have hk1:=ih q e l _ _ hl ht (zks hw (fun y hy=>zdt (d:=xs[i].1) (List.mem_map.2 ⟨xs[i],List.getElem_mem hlt,rfl⟩) y hy)) (by
        have:=zhl (l:=xs.map fun x=>x.1) (d:=xs[i].1) (List.mem_map.2 ⟨xs[i],List.getElem_mem hlt,rfl⟩)
        exact Nat.le_trans this (by omega))
       have hr:(List.range (r+1)).flatMap (fun _=>l)=l++(List.range r).flatMap (fun _=>l):=by
        rw [List.range_succ_eq_map,List.flatMap_cons,List.flatMap_map]
       rw [hr]
       rw [←hlen.1]at hk1
       refine KindsB.app (by rw [←hlen.1];exact hk1) ?_
       rw [List.drop_drop,←hlen.1]
       have:=ihr (i+1) (by omega)
       rw [←hlen.1,Nat.add_mul,Nat.one_mul]at this
       exact this
     have:=key m 0 (by omega)
     simpa using this
    ·cases hk
   |_=>cases hk
theorem zsu {N:Nat} {t e:TypeId} {n0:Nat} {ks:List K1} {v:Value} {g:Raw→GV} (ht:P.underlying t=some (.slice e)) (hk:zpm P n0 e=some ks) (hn:ks.length=P.cellsOf e) (h0:0<P.cellsOf e) (hflat:∀q,(g q).flat=q.cells ks 0)
  (hok:∀q,(∀j t',ks[j]? =some (.sl t')→(q.v j).oneCell'=true)→(g q).ok) (hsz:∀q,(g q).sz=P.cellsOf e) (h:zzO enc P W t v N):
  ∃l:List Raw,SlR W.ph v (P.cellsOf e) (l.map g)∧l.length≤N∧∀q∈l,Fine enc P W ks q∧FineB enc P W N ks q:=by
 obtain ⟨fuel,x,hx,hw,hN⟩:=h
 rcases Go.Deep.open_slice ht hx with ⟨hv,rfl⟩|⟨a,len,cap,m,n,D,Pl,hv,_,hlc,_,hm,rfl,hel⟩
 ·simp at hv;subst hv
  exact ⟨[],⟨fun x hx=>by simp at hx, .inl ⟨rfl,rfl⟩⟩,by simp,fun q hq=>by simp at hq⟩
 ·simp at hv;subst hv
  simp only [if_true]at hm
  subst hm
  simp only [DataW.weights,ht,List.all_cons,Bool.and_eq_true,decide_eq_true_eq,List.length_map,List.length_range]at hw
  obtain ⟨q,hq⟩:=zny (p:=fun i q=>W.cells? 0 (a.add (i*P.cellsOf e)) (P.cellsOf e)=some (Raw.cells q ks 0)∧Fine enc P W ks q∧FineB enc P W N ks q) ⟨fun _=>0,fun _=>⟨#[]⟩,fun _=>false,fun _=>undef⟩ len fun i hi=>by
   obtain ⟨cs',h1,h2⟩:=hel i (by omega)
   have hw':((D i).weights P e).all (· ≤reachBytes)=true:=zks hw.2 fun y hy=>by
    refine List.mem_append_left _ (zdt (d:=D i) ?_ y hy)
    exact List.mem_map.2 ⟨i,List.mem_range.2 hi,rfl⟩
   obtain ⟨q,hq,hf⟩:=zrZ (zlz n0 n e ks cs' _ hk h2 hw')
   have hB:=zuN N n0 n e ks cs' _ hk h2 hw' (by
    show Rows.uptoBulk (D i)≤N
    have h5:=zhl (d:=D i) (l:=(List.range len).map D) (List.mem_map.2 ⟨i,List.mem_range.2 hi,rfl⟩)
    simp only [Rows.uptoBulk]at hN
    omega)
   refine ⟨q,by rw [←hq];exact h1,hf,fun j k hj=> ?_⟩
   have:=znQ q ks 0 j k hj
   rw [←hq,Nat.zero_add]at this
   exact hB.2 j _ k this hj
  refine ⟨(List.range len).map q,⟨fun y hy=> ?_, ?_⟩, ?_,fun y hy=> ?_⟩
  ·rw [List.map_map]at hy
   obtain ⟨i,hi,rfl⟩:=List.mem_map.1 hy
   exact ⟨hok _ fun j t' hj=>(hq i (List.mem_range.1 hi)).2.1.slv hj,hsz _⟩
  ·refine .inr ⟨a,m,by simp,by simpa using hlc,fun hc=> ?_⟩
   obtain ⟨cs0,h1,_⟩:=hel 0 hc
   obtain ⟨_,hl0,hc0⟩:=World.cells?_some h1
   have hblk:∃cs e' fz,a.spot=none∧W.heap[a.block]? =some (.cells cs e' fz):=by
    have h2:=hc0 0 h0
    rw [List.getElem?_eq_getElem (by omega)]at h2
    have hab:(a.add (0*P.cellsOf e)).add 0=a:=by simp [Addr.add]
    rw [hab]at h2
    unfold World.cell? at h2
    split at h2
    ·rename_i c ty fz hb
     split at h2
     ·cases h2
     ·rename_i hs
      exact ⟨c,ty,fz,by simpa using hs,hb⟩
    ·cases h2
   obtain ⟨cs,e',fz,hsp,hb⟩:=hblk
   refine ⟨cs,e',fz,hsp,hb,fun j v hj=> ?_⟩
   rw [List.map_map]at hj
   obtain ⟨i,k,hi,rfl,hkz,hv⟩:=zrI (z:=P.cellsOf e) (g:=g ∘ q) (fun i hi=>by
    simp only [Function.comp,hflat]
    have:=(hq i hi).1
    obtain ⟨_,hl,_⟩:=World.cells?_some this
    exact hl) hj
   obtain ⟨h1,_⟩:=hq i hi
   obtain ⟨_,hl,hc⟩:=World.cells?_some h1
   have h2:=hc k hkz
   simp only [Function.comp,hflat]at hv
   rw [hv]at h2
   unfold World.cell? at h2
   obtain ⟨b,o,sp⟩:=a
   simp only at hsp hb
   subst hsp
   rw [zcs,zcs]at h2
   simp only [hb]at h2
   simpa [Nat.add_assoc]using h2
  ·simp only [List.length_map,List.length_range]
   have h5:=zyK ((List.range len).map D)
   rw [List.length_map,List.length_range]at h5
   simp only [Rows.uptoBulk]at hN
   omega
  ·obtain ⟨i,hi,rfl⟩:=List.mem_map.1 hy
   exact (hq i (List.mem_range.1 hi)).2
theorem zBV {base:Nat} {t e:TypeId} {v:Value} {n:Nat} (ht:P.underlying t=some (.slice e)) (h:RdB enc P W t v n) (hv:Value.okWide P W .any base t v):zzO enc P W t v n:=by
 obtain ⟨fuel,x,hx,hw,hn⟩:=h
 have hw1:∃w,v.cells.toList=[w]:=by
  rcases DataW.trod_slice ht hx with ⟨h1,_⟩|⟨a,len,cap,_,_,_,_,h1,_⟩
  ·exact ⟨_,h1⟩
  ·exact ⟨_,h1⟩
 obtain ⟨w,hcl⟩:=hw1
 have:=znc hcl (zqs ht rfl hv)
 subst this
 rw [hcl]at hx
 exact ⟨fuel,x,hx,hw,hn⟩
theorem FineB.str {N:Nat} {ks:List K1} {q:Raw} (h:FineB enc P W N ks q) {j:Nat} (hk:ks[j]? =some .s):(q.y j).size≤N:=(h j _ hk).1 _ rfl
theorem FineB.rd {N:Nat} {ks:List K1} {q:Raw} (h:FineB enc P W N ks q) {j:Nat} {t:TypeId} (hk:ks[j]? =some (.sl t)):∃m,m≤N∧zzO enc P W t (q.v j) m:=(h j _ hk).2 t rfl
end
end Go.Proofs.YtmjiojflncffeaaGreat.Vc

set_option linter.unusedVariables false
set_option linter.unusedSimpArgs false
set_option maxRecDepth 100000
namespace Go.Proofs.YtmjiojflncffeaaGreat.Vc
open Go Go.Proofs Go.Proofs.YtmjiojflncffeaaGreat Go.ChangeShapes Go.WideShapes Go.ChangeAt
def Attr.ofRaw (q:Raw):Attr:=⟨q.y 0,q.y 1⟩
def zCJ:List K1:=[.s, .s]
theorem zwg (q:Raw):GV.flat (zaj (Attr.ofRaw q))=q.cells zCJ 0:=rfl
def TreeNode.ofRaw (q:Raw):TreeNode:=⟨q.x 0,q.x 1,q.y 2,q.v 3⟩
def kTN:List K1:=[.i .i64, .i .i64, .s, .sl 47]
theorem zpL (q:Raw):GV.flat (zl (TreeNode.ofRaw q))=q.cells kTN 0:=rfl
theorem zlo:Tryz.prog.cellsOf 75=2:=by kernel_rfl
theorem zqY:Tryz.prog.cellsOf 49=4:=by kernel_rfl
theorem zxE {H:Type} {enc:TypeId×Value→H} {W:World} {v:Value} {n:Nat} (h:zzO enc Tryz.prog W 47 v n):∃l:List Attr,SlR W.ph v 2 (l.map zaj)∧l.length≤n∧∀a∈l,a.key.size≤n∧a.value.size≤n:=by
 obtain ⟨l,h1,h2,h3⟩:=zsu (t:=47) (e:=75) (n0:=9) (ks:=zCJ) (g:=fun q=>zaj (Attr.ofRaw q)) (by kernel_rfl) (by kernel_rfl) (by kernel_rfl) (by rw [zlo];omega) (fun q=>zwg q) (fun q _=>zqS _) (fun q=>by rw [zec,zlo]) h
 rw [zlo]at h1
 refine ⟨l.map Attr.ofRaw,by rw [List.map_map];exact h1,by rw [List.length_map];exact h2,fun a ha=> ?_⟩
 obtain ⟨q,hq,rfl⟩:=List.mem_map.1 ha
 exact ⟨(h3 q hq).2.str (j:=0) rfl,(h3 q hq).2.str (j:=1) rfl⟩
theorem zyV {H:Type} {enc:TypeId×Value→H} {W:World} {base n:Nat} {v:Value} (h:RdB enc Tryz.prog W 43 v n) (hv:Value.okWide Tryz.prog W .any base 43 v) (hn:n≤1048576):∃ts l,RowsIn W.ph v ts l 1048576:=by
 have hd:=zBV (e:=49) (by kernel_rfl) h hv
 obtain ⟨l,h1,h2,h3⟩:=zsu (t:=43) (e:=49) (n0:=9) (ks:=kTN) (g:=fun q=>zl (TreeNode.ofRaw q)) (by kernel_rfl) (by kernel_rfl) (by kernel_rfl) (by rw [zqY];omega) (fun q=>zpL q) (fun q hq=>zeK _ (hq 3 _ rfl)) (fun q=>by rw [zaf,zqY]) hd
 rw [zqY]at h1
 have key:∀l:List Raw,(∀q∈l,Fine enc Tryz.prog W kTN q∧FineB enc Tryz.prog W n kTN q)→∃r:List TN,TsOk W.ph (l.map TreeNode.ofRaw) r∧∀x∈r,x.attrs.length≤1048576∧(∀a∈x.attrs,a.key.size≤140737488355328∧a.value.size≤140737488355328)∧x.name.size≤140737488355328∧(Lit.int .i64 x.node).wf=true:=by
  intro l
  induction l with
  |nil=>intro _;exact ⟨[],trivial,by simp⟩
  |cons q l ih=>
   intro hl
   obtain ⟨r,hr1,hr2⟩:=ih fun x hx=>hl x (by simp [hx])
   obtain ⟨f1,f2⟩:=hl q (by simp)
   obtain ⟨m,hm,hrd⟩:=f2.rd (j:=3) rfl
   obtain ⟨la,g1,g2,g3⟩:=zxE hrd
   refine ⟨⟨q.x 0,q.x 1,q.y 2,la⟩::r,⟨⟨rfl,rfl,rfl,g1⟩,hr1⟩,fun x hx=> ?_⟩
   rcases List.mem_cons.1 hx with rfl|hx
   ·refine ⟨by simp only;omega,fun a ha=> ?_, ?_, ?_⟩
    ·have:=g3 a ha;omega
    ·have:=f2.str (j:=2) rfl
     simp only;omega
    ·have:=f1.int (j:=0) (k:= .i64) rfl
     show (decide (IntKind.i64.min≤q.x 0)&&decide (q.x 0≤IntKind.i64.max))=true
     rw [Bool.and_eq_true]
     exact ⟨decide_eq_true this.1,decide_eq_true this.2⟩
   ·exact hr2 x hx
 obtain ⟨r,hr1,hr2⟩:=key l h3
 have hlen:=hr1.len
 rw [List.length_map]at hlen
 exact ⟨l.map TreeNode.ofRaw,r,⟨by rw [List.map_map];exact h1,hr1,by omega,fun x hx=>(hr2 x hx).1,fun x hx=>(hr2 x hx).2.1,fun x hx=>(hr2 x hx).2.2.1,fun x hx=>(hr2 x hx).2.2.2⟩⟩
end Go.Proofs.YtmjiojflncffeaaGreat.Vc

set_option linter.unusedVariables false
set_option linter.unusedSimpArgs false
set_option maxRecDepth 100000
namespace Go.Proofs.YtmjiojflncffeaaGreat.Vc
open Go Go.Proofs Go.Proofs.YtmjiojflncffeaaGreat Go.ChangeShapes Go.WideShapes Go.ChangeAt
theorem zqK {H:Type} (enc:TypeId×Value→H) (W:World) (base:Nat) (vs:List Value) (h:zxl enc Tryz.prog W base [43,2,22] vs 1048576) (_:W.ShapedOpen Tryz.prog):Spec Tryz.prog zdq vs PH.no W fun rs _=>rs=[.s (.bool true)]:=by
 obtain ⟨v1,vs,a,b,rfl,hab,h1,g1,h⟩:=znj h
 obtain ⟨v2,vs,a2,b2,rfl,hab2,h2,g2,h⟩:=znj h
 obtain ⟨v3,vs,a3,b3,rfl,hab3,h3,g3,h⟩:=znj h
 obtain rfl:=zzM h
 obtain ⟨ts,l,kb⟩:=zyV h1 g1 (by omega)
 obtain ⟨⟨n,rfl,_⟩,_⟩:=zCS (k:= .i .i64) (by kernel_rfl) (by kernel_rfl) h2.v g2
 obtain ⟨ops,k3,l3,o3⟩:=zwh h3 g3
 exact zuf W v1 n v3 ops ⟨by omega,o3⟩ k3 (by omega) ts l kb
theorem zpu (os:Os) {H:Type} (enc:TypeId×Value→H):∃places,DataW.whole enc Tryz.prog ((World.holding Tryz.prog os ⟨#[], #[],[]⟩).forCall (fun _ _=>0) ⟨#[], #[.slice none 0 0, .int .i64 0, .slice none 0 0],[]⟩).memory Tryz.f11.params.toList Rows.oplogFromSpec.vars false (#[.slice none 0 0, .int .i64 0, .slice none 0 0]:Array Value).toList 8=some ([.nil, .lit (.int .i64 0), .nil],[],places):=
 ⟨[],by kernel_rfl⟩
theorem znd (os:Os) (started:os.Started) (H:Type) (enc:TypeId×Value→H) (F:Stop.Interp):
  ReturnsInHanded {} Tryz.checked os zdq .any ((Rows.OpenSpec.upto Rows.oplogFromSpec).preRow enc Tryz.prog Tryz.f11 Rows.oplogFromUptoRow.domain false Rows.oplogFromUptoRow.laid) (((Rows.OpenSpec.upto Rows.oplogFromSpec).at F).post enc Tryz.prog Tryz.f11 false true false false):=by
 obtain ⟨places,hx⟩:=zpu os enc
 exact zoZ (C:=Tryz.checked) zBX zuB started (by kernel_rfl) Tryz.func11
  (witness_row_at (enc:=enc) (C:=Tryz.checked) false (World.holding Tryz.prog os ⟨#[], #[],[]⟩) #[.slice none 0 0, .int .i64 0, .slice none 0 0] rfl (by kernel_rfl) (by kernel_rfl) (by kernel_rfl)
   (OpenSpec.preRow_of_cond 8 hx (by kernel_rfl) (fun k hk=>by cases hk;kernel_rfl) (by kernel_rfl) (laidMet_of_run' 8 (by kernel_rfl) (by kernel_rfl))))
  (by kernel_rfl) rfl (tb:=4) (by kernel_rfl) (by kernel_rfl) (ts:=[43,2,22]) (by kernel_rfl) (fun ds h=>by match ds,h with|[d0,d1,d2],_=>rfl) (zqK enc)
theorem OplogFrom_upto:Rows.OplogFromUptoSaid:=
 OpenClaim.holds_of_cond zdq Tryz.f11 rfl rfl rfl rfl rfl rfl rfl ⟨rfl,rfl,rfl,rfl,rfl⟩ rfl rfl rfl rfl rfl (by kernel_rfl) Tryz.func11 (by kernel_rfl)
  (of_decide_eq_true (by kernel_rfl)) (by unfold Func.isWrapper;first|(rw [if_pos (by decide+kernel)];kernel_rfl)|(rw [if_neg (by decide+kernel)];exact ⟨rfl,rfl⟩))
  (fun os started H enc _ F=>by rw [OpenClaim.pre_eq_preRow];exact znd os started H enc F)
#print axioms OplogFrom_upto
end Go.Proofs.YtmjiojflncffeaaGreat.Vc

