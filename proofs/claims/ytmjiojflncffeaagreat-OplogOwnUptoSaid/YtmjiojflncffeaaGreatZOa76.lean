/- OplogOwn: where what is read is of bulk at most the row's bound, the law answers true and leaves its arguments as they were. -/
import Derived.Sort.LoopGhostIn
import Derived.OrdersIn
import Derived.RangeFuncCalls
import Derived.Test.YtmjiojflncffeaaGreatProg
import Derived.Test.YtmjiojflncffeaaGreatZOa75
set_option linter.unusedVariables false
set_option linter.unusedSimpArgs false
namespace Go.Proofs.YtmjiojflncffeaaGreat.Vc
open Go
def zhq (o:Oper):Bool:=match o.op with
 | .defer _=>false
 |_=>true
def zde:Code→Bool
 | .skip=>true
 | .ret=>true
 | .exit _=>true
 | .label _=>true
 | .seq a b=>zde a&&zde b
 | .cond _ a b=>zde a&&zde b
 | .block _ a=>zde a
 | .loop a=>zde a
 | .region _ ops _=>ops.all zhq
 |_=>false
abbrev ziq (ro:Option Nat):Fence:={Fence.wide with round:=ro}
theorem zjk (ro:Option Nat) (ρ:Operand→Value) (o:Oper) (h:∀c,o.op≠ .defer c):Oper.semAt ro ρ o=execOp ρ o:=by
 cases ro with
 |some l=>exact Oper.semAt_some l ρ o h
 |none=>rfl
theorem zwG {P:Program} {f:FuncId} {args:Array Value} {w:World} {R:Ending→World→Prop} (ro:Option Nat) (n:Nat):CallsIn (ziq ro) n P f args w R↔Calls P f args w R:=by
 cases ro with
 |some l=>exact ⟨fun h=>callsIn_wide.1 (CallsIn.outOfRound (l:=l) (F:=Fence.wide) h),fun h=>CallsIn.inRound (F:=Fence.wide) l (callsIn_wide.2 h)⟩
 |none=>exact callsIn_wide
def zfL:Cd→Bool
 | .seq a b=>zfL a&&zfL b
 | .ite _ a b=>zfL a&&zfL b
 | .block _ a=>zfL a
 | .loop a=>zfL a
 | .scope a=>zfL a
 | .gh a=>zfL a
 | .raw _=>false
 | .rgq .. =>false
 |_=>true
def QOk (Q:QT):Prop:=∀σ,¬Q .outgrown σ
theorem zsp {P:Program} {ops:Array Oper} {Q:Exit→Act→World→Prop} (ro:Option Nat) (hQ:∀a w,¬Q .outgrown a w):∀(L:List Oper) (a:Act) (w:World),(∀o∈L,zhq o=true)→wpList P ops Q L a w→wpListIn (ziq ro) 0 P ops Q L a w
 |[],a,w,_,h=>h
 |o::L,a,w,hp,h=>by
  have ih:=fun (a:Act) (w:World)=>zsp (P:=P) (ops:=ops) (Q:=Q) ro hQ L a w (fun o ho=>hp o (List.mem_cons_of_mem _ ho))
  have hno:∀c,o.op≠ .defer c:=fun c e=>by
   have:=hp o (by simp)
   rw [zhq,e]at this;cases this
  have hlet:¬LetsOut Q:=fun ⟨a,w,h⟩=>hQ a w h
  unfold wpList at h
  unfold wpListIn
  by_cases hw:Region.wanted o (yielded ops a.tmps)=true
  ·rw [if_pos hw]at h ⊢
   rcases h with h|⟨_,h⟩
   ·refine ⟨fun _ _=>trivial, ?_⟩
    have hsem:o.semAt ro a.eval=execOp a.eval o:=zjk ro _ o hno
    rw [hsem]
    unfold Oper.wp at h
    generalize (execOp a.eval o).run P w=r at h ⊢
    cases r with
    |ok x w'=>
     cases x with
     |value v=>exact ih _ _ h
     |skip=>exact ih _ _ h
     |defer d=>exact ih _ _ h
     |enter f args=>
      refine ⟨(fun h=>by cases h),((zwG ro _).2 h).mono fun e w2 he=> ?_⟩
      cases e with
      |returned v=>exact ih _ _ he
      |panicked ch=>exact he
      |outgrown=>exact he
     |row row args=>
      refine ⟨(fun h=>by cases h),fun c cs _=> ?_⟩
      obtain ⟨v,w2,h1,h2⟩:=h c cs
      exact ⟨v,w2,ih _ _ h1,stepsIn_wide.2 h2⟩
     |_=>exact h.elim
    |halt x w'=>
     cases x with
     |panic v=>exact h
     |_=>exact h.elim
   ·exact absurd h hlet
  ·rw [if_neg hw]at h ⊢
   exact ⟨fun _ _=>trivial,ih _ _ h⟩
theorem zyO {P:Program} {Q:Exit→Act→World→Prop} (ro:Option Nat) (hQ:∀a w,¬Q .outgrown a w) {o:Oper} {a:Act} {w:World} {K K':Act→World→Prop} (hp:zhq o=true) (hK:∀a w,K a w→K' a w) (h:o.wp P a w K Q∨(o.asks P a w∧LetsOut Q)):o.wpIn (ziq ro) 0 P a w K' Q:=by
 have hno:∀c,o.op≠ .defer c:=fun c e=>by
  rw [zhq,e]at hp;cases hp
 have hlet:¬LetsOut Q:=fun ⟨a,w,h⟩=>hQ a w h
 rcases h with h|⟨_,h⟩
 ·refine ⟨fun _ _=>trivial, ?_⟩
  have hsem:o.semAt ro a.eval=execOp a.eval o:=zjk ro _ o hno
  rw [hsem]
  unfold Oper.wp at h
  generalize (execOp a.eval o).run P w=r at h ⊢
  cases r with
  |ok x w'=>
   cases x with
   |value v=>exact hK _ _ h
   |skip=>exact hK _ _ h
   |defer d=>exact hK _ _ h
   |enter f args=>
    refine ⟨(fun h=>by cases h),((zwG ro _).2 h).mono fun e w2 he=> ?_⟩
    cases e with
    |returned v=>exact hK _ _ he
    |panicked ch=>exact he
    |outgrown=>exact he
   |row row args=>
    refine ⟨(fun h=>by cases h),fun c cs _=> ?_⟩
    obtain ⟨v,w2,h1,h2⟩:=h c cs
    exact ⟨v,w2,hK _ _ h1,stepsIn_wide.2 h2⟩
   |_=>exact h.elim
  |halt x w'=>
   cases x with
   |panic v=>exact h
   |_=>exact h.elim
 ·exact absurd h hlet
theorem zpQ {P:Program} {md:Region.Mode} {ops:Array Oper} {Q:Exit→Act→World→Prop} (ro:Option Nat) (hQ:∀a w,¬Q .outgrown a w) (hp:∀o∈ops,zhq o=true):∀(fuel:Nat) (listed:Array Bool) (a:Act) (w:World),wpAny P md ops Q fuel listed a w→wpAnyIn (ziq ro) 0 P md ops Q fuel listed a w
 |0,_,_,_,h=>h
 |fuel+1,listed,a,w,h=>by
  refine ⟨h.1,fun i hi=> ?_⟩
  have h2:=h.2 i hi
  have ih:=zpQ (P:=P) (md:=md) (Q:=Q) ro hQ hp fuel (listed.setIfInBounds i true)
  unfold wpOp at h2
  unfold wpOpIn
  cases ho:ops[i]? with
  |none=>rw [ho]at h2;exact ih _ _ h2
  |some o=>
   rw [ho]at h2
   simp only at h2 ⊢
   have hpo:=hp o (Array.mem_of_getElem? ho)
   split at h2
   ·rename_i hw
    rw [if_pos hw]
    exact zyO ro hQ hpo ih h2
   ·rename_i hw
    rw [if_neg hw]
    exact ⟨fun _ _=>trivial,ih _ _ h2⟩
section
variable {C:Ctx} {σ:SS} {a:Act} {w:World}
theorem QOk.lift {Q:QT} (h:QOk Q):∀a w,¬zlQ C Q .outgrown a w:=fun a w ⟨σ,hq,_⟩=>h σ hq
theorem QOk.thenQ {Q:QT} {K:KT} (h:QOk Q):QOk (thenQ K Q):=fun σ q=>h σ q
theorem QOk.blockQ {Q:QT} {id:Nat} (h:QOk Q):QOk (blockQ id Q):=fun σ q=>h σ q
theorem QOk.loopQ {Q:QT} {ι:Type} {st:ι→SS} {inv:ι→Prop} {ms:ι→Nat} {i:ι} (h:QOk Q):QOk (loopQ st inv ms i Q):=fun σ q=>h σ q
theorem zeH (ns:List (Nat×Nat)) (ro:Option Nat):∀(cd:Cd) (code:Code) (Q:QT) (σ:SS) (a:Act) (w:World),comp C.P C.N ns code=er cd→zfL cd=true→zde code=true→QOk Q→vc C cd Q σ→Rel C σ a w→code.wpIn (ziq ro) 0 C.P (zlQ C Q) a w:=by
 intro cd
 induction cd with
 |skip=>
  intro code Q σ a w hc hn hp hQk h hR
  cases code<;>simp only [comp,er]at hc<;>(try split at hc)<;>first|(cases hc;done)|(exact (zcm hc (by intros;simp) (by intros;simp) (by intros;simp) (by intros;simp)).elim)|skip
  ·exact wpIn_skip ⟨σ,h,hR⟩
  ·exact wpIn_label ⟨σ,h,hR⟩
 |ret=>
  intro code Q σ a w hc hn hp hQk h hR
  cases code<;>simp only [comp,er]at hc<;>(try split at hc)<;>first|(cases hc;done)|(exact (zcm hc (by intros;simp) (by intros;simp) (by intros;simp) (by intros;simp)).elim)|skip
  exact wpIn_ret ⟨σ,h,hR⟩
 |exit id=>
  intro code Q σ a w hc hn hp hQk h hR
  cases code<;>simp only [comp,er]at hc<;>(try split at hc)<;>first|(cases hc;done)|(exact (zcm hc (by intros;simp) (by intros;simp) (by intros;simp) (by intros;simp)).elim)|skip
  cases hc
  exact wpIn_exit ⟨σ,h,hR⟩
 |seq x y ihx ihy=>
  intro code Q σ a w hc hn hp hQk h hR
  cases code<;>simp only [comp,er]at hc<;>(try split at hc)<;>first|(cases hc;done)|(exact (zcm hc (by intros;simp) (by intros;simp) (by intros;simp) (by intros;simp)).elim)|skip
  rename_i x' y'
  simp only [Cd.seq.injEq]at hc
  refine wpIn_seq (wpIn_mono (ihx x' _ σ a w hc.1 (by simp only [zfL,Bool.and_eq_true]at hn;exact hn.1) (by simp only [zde,Bool.and_eq_true]at hp;exact hp.1) hQk.thenQ h hR) fun e a' w' hq=> ?_)
  obtain ⟨σ',hq,hR'⟩:=hq
  cases e with
  |normal=>exact ihy y' Q σ' a' w' hc.2 (by simp only [zfL,Bool.and_eq_true]at hn;exact hn.2) (by simp only [zde,Bool.and_eq_true]at hp;exact hp.2) hQk hq hR'
  |_=>exact ⟨σ',hq,hR'⟩
 |ite c x y ihx ihy=>
  intro code Q σ a w hc hn hp hQk h hR
  cases code<;>simp only [comp,er]at hc<;>(try split at hc)<;>first|(cases hc;done)|(exact (zcm hc (by intros;simp) (by intros;simp) (by intros;simp) (by intros;simp)).elim)|skip
  rename_i c' x' y' _ c2 hc2
  simp only [Cd.ite.injEq]at hc
  obtain ⟨rfl,h1,h2⟩:=hc
  simp only [vc,brB]at h
  split at h
  ·rename_i t ht
   have hF:=hR.choose_spec.1
   have hv:=(hF.ev rfl ht).s
   refine wpIn_cond_split (t:=t) (by rw [zs hc2 a];exact hv) (fun e=>ihx x' Q σ a w h1 (by simp only [zfL,Bool.and_eq_true]at hn;exact hn.1) (by simp only [zde,Bool.and_eq_true]at hp;exact hp.1) hQk (h.1 e) hR) (fun e=>ihy y' Q σ a w h2 (by simp only [zfL,Bool.and_eq_true]at hn;exact hn.2) (by simp only [zde,Bool.and_eq_true]at hp;exact hp.2) hQk (h.2 e) hR)
  ·exact h.elim
 |block id x ih=>
  intro code Q σ a w hc hn hp hQk h hR
  cases code<;>simp only [comp,er]at hc<;>(try split at hc)<;>first|(cases hc;done)|(exact (zcm hc (by intros;simp) (by intros;simp) (by intros;simp) (by intros;simp)).elim)|skip
  rename_i id' x'
  simp only [Cd.block.injEq]at hc
  obtain ⟨rfl,h1⟩:=hc
  refine wpIn_block (wpIn_mono (ih x' _ σ a w h1 hn hp hQk.blockQ h hR) fun e a' w' hq=> ?_)
  obtain ⟨σ',hq,hR'⟩:=hq
  cases e with
  |exit j=>
   simp only [blockQ]at hq
   simp only [Exit.inBlock]
   split
   ·rename_i e;rw [if_pos e]at hq;exact ⟨σ',hq,hR'⟩
   ·rename_i e;rw [if_neg e]at hq;exact ⟨σ',hq,hR'⟩
  |_=>exact ⟨σ',hq,hR'⟩
 |loop x ih=>
  intro code Q σ a w hc hn hp hQk h hR
  cases code<;>simp only [comp,er]at hc<;>(try split at hc)<;>first|(cases hc;done)|(exact (zcm hc (by intros;simp) (by intros;simp) (by intros;simp) (by intros;simp)).elim)|skip
  rename_i x'
  simp only [Cd.loop.injEq]at hc
  obtain ⟨ι,st,inv,ms,i0,hi0,hge,hstep⟩:=h
  refine wpIn_loop_ghost (fun n a w=>∃i,inv i∧ms i=n∧Rel C (st i) a w) (ms i0) ⟨i0,hi0,rfl,hge.rel hR⟩ fun n a w hI=> ?_
  obtain ⟨i,hi,rfl,hRi⟩:=hI
  refine wpIn_mono (ih x' _ (st i) a w hc hn hp hQk.loopQ (hstep i hi) hRi) fun e a' w' hq=> ?_
  obtain ⟨σ',hq,hR'⟩:=hq
  cases e with
  |normal=>
   obtain ⟨j,hj,hlt,hge'⟩:=hq
   exact ⟨ms j,hlt,j,hj,rfl,hge'.rel hR'⟩
  |_=>exact ⟨σ',hq,hR'⟩
 |scope x ih=>
  intro code Q σ a w hc hn hp hQk h hR
  cases code<;>simp only [comp,er]at hc<;>(try split at hc)<;>first|(cases hc;done)|(exact (zcm hc (by intros;simp) (by intros;simp) (by intros;simp) (by intros;simp)).elim)|skip
  cases hp
 |rg segs keep=>
  intro code Q σ a w hc hn hp hQk h hR
  cases code<;>simp only [comp,er]at hc<;>(try split at hc)<;>first|(cases hc;done)|skip
  rename_i id ops draw
  rcases zdx C.P C.N ns id ops draw with ⟨rfl,hd,hg,e⟩|⟨n,_,_,_,_,_,e⟩|⟨_,_,_,_,_,e⟩|⟨_,_,_,_,_,_,e⟩|e
  rotate_left
  ·rw [e]at hc;cases hc
  ·rw [e]at hc;cases hc
  ·rw [e]at hc;cases hc
  ·rw [e]at hc;cases hc
  rw [e]at hc
  simp only [Cd.rg.injEq,and_true]at hc
  simp only [Array.all_eq_true_iff_forall_mem]at hd hg
  refine wpIn_region_list ?_
  have:=zda (C:=C) (ops:=ops) (K:=zgE keep Q) (Q:=zlQ C Q) (fun σ' a' w' hK hR'=>⟨σ'.keep keep,hK,hR'.keep keep⟩) segs (grp ops ops.toList) σ a w hc (fun x hx o ho=>by
   obtain ⟨h1,h2⟩:=zlX ops ops.toList x hx o ho
   exact ⟨h1,hd o (by simpa using h2),hg o (by simpa using h2)⟩) hR h
  rw [zgP]at this
  simp only [zde,Array.all_eq_true_iff_forall_mem]at hp
  exact zsp ro hQk.lift _ _ _ (fun o ho=>hp o (by simpa using ho)) this
 |rgq hd' tl keep=>
  intro code Q σ a w hc hn hp hQk h hR
  cases hn
 |rga t keep=>
  intro code Q σ a w hc hn hp hQk h hR
  cases code<;>simp only [comp,er]at hc<;>(try split at hc)<;>first|(cases hc;done)|skip
  rename_i id ops draw
  rcases zdx C.P C.N ns id ops draw with ⟨_,_,_,e⟩|⟨n,_,_,_,_,_,e⟩|⟨rfl,hd,hg,hmix,hns,e⟩|⟨rfl,hd,hg,hmix,hns,hts,e⟩|e
  ·rw [e]at hc;cases hc
  ·rw [e]at hc;cases hc
  ·rw [e]at hc
   simp only [Cd.rga.injEq,and_true]at hc
   simp only [zde,Array.all_eq_true_iff_forall_mem]at hd hg hp
   obtain ⟨loc,hF,hH⟩:=hR
   exact wpIn_region_any hmix (zpQ ro hQk.lift hp _ _ _ _ (zek (D:=zbD C (zgE keep Q)) (fun a' w' ⟨τ,hK,hR'⟩=>⟨τ.keep keep,hK,hR'.keep keep⟩) _ _ _ _ (ztQ hns hd hg _ _ t σ a _ hc h ⟨loc,hF,hH.drew⟩)))
  ·rw [e]at hc
   simp only [Cd.rga.injEq,and_true]at hc
   simp only [zde,Array.all_eq_true_iff_forall_mem]at hd hg hts hp
   obtain ⟨t1,σ1,e1,hn,h,hR⟩:=zgB t σ h hR
   obtain ⟨u,σ0,hu,hh,h,hM⟩:=zpD (e1.trans hc.symm) hn h
   obtain ⟨loc,hF,hH⟩:=hR
   have hR':Rel C σ1 a {w with drawn:=w.drawn+1}:=⟨loc,hF,hH.drew⟩
   have hts':∀o∈ops,∀t∈zld C.P ops,o.dst≠some t:=fun o ho t ht=>by
    have h1:=hts o ho
    simp only [List.all_eq_true,bne_iff_ne,ne_eq]at h1
    exact h1 t ht
   exact wpIn_region_any hmix (zpQ ro hQk.lift hp _ _ _ _ (zek (D:=zbD C (zgE keep Q)) (fun a' w' ⟨τ,hK,hR'⟩=>⟨τ.keep keep,hK,hR'.keep keep⟩) _ _ _ _ (zje _ _ _ _
    (zrm hns hd hg hts' _ _ u σ1 a _ hu.symm h hh (fun _ _=>rfl) (zmE hR' hh hM fun _ _=>rfl) hR'))))
  ·rw [e]at hc;cases hc
 |gh x ih=>
  intro code Q σ a w hc hn hp hQk h hR
  obtain ⟨τ,hR',h'⟩:=h a w hR
  exact ih code Q τ a w hc hn hp hQk h' hR'
 |raw c=>
  intro code Q σ a w hc hn hp hQk h hR
  cases hn
end
end Go.Proofs.YtmjiojflncffeaaGreat.Vc

set_option linter.unusedVariables false
set_option linter.unusedSimpArgs false
namespace Go.Proofs.YtmjiojflncffeaaGreat.Vc
open Go Go.Shelf
def Iter (P:Program) (gf:Nat) (lb:List Value) (ui:PH) (encs:List (List Value)):Prop:=
 ∀(l:Nat) (J:Nat→World→Prop) (Jx:World→Prop) (W:World),ui.le W→(∀i W W',J i W→Kept PH.no W W'→J i W')→(∀W W',Jx W→Kept PH.no W W'→Jx W')→
  (∀i x W,encs[i]? =some x→J i W→YieldAt Fence.wide 0 P l x.toArray W fun e W'=>(e= .returned (.bool true)∧J (i+1) W'∧ui.le W')∨(e= .returned (.bool false)∧Jx W'))→
  J 0 W→CallsIn Fence.wide 0 P gf (#[.func (.yield l) #[] #[]]++lb.toArray) W fun e W'=>(∃v,e= .returned v)∧(J encs.length W'∨Jx W')
noncomputable def zfD (ph:List PH) (m:PH) (W:World):PH:=fun b=>open Classical in if m b≠none∨∃u∈ph,u b≠none then W.heap[b]? else none
theorem zrz {ph:List PH} {m:PH} {W:World} {b:Nat} (h:m b≠none∨∃u∈ph,u b≠none):zfD ph m W b=W.heap[b]? :=by rw [zfD,if_pos h]
theorem zic {ph:List PH} {m:PH} {W:World} {b:Nat} (h1:m b=none) (h2:∀u∈ph,u b=none):zfD ph m W b=none:=by
 rw [zfD,if_neg]
 rintro (h|⟨u,hu,h⟩)
 ·exact h h1
 ·exact h (h2 u hu)
theorem zwl {ph:List PH} {m:PH} {W:World} {b:Nat} (h:zfD ph m W b≠none):m b≠none∨∃u∈ph,u b≠none:=by
 rw [zfD]at h
 split at h
 ·assumption
 ·exact absurd rfl h
noncomputable abbrev cx (C:Ctx) (ph:List PH) (m:PH) (W:World):Ctx:=⟨C.P,C.N,W,zfD ph m W⟩
section
variable {C:Ctx} {loc:Loc} {ph:List PH} {m:PH} {W:World}
theorem HR.bare {pv:List (Nat×PV)} (h:HR C loc pv ph m W) (loc':Loc):HR C loc' [] ph m W:=
 ⟨h.kept,(fun k y hk=>by cases hk),(fun k k' y y' b o c o' c' hk=>by cases hk),(fun k y b o c hk=>by cases hk),h.mle,h.mmine,h.phs⟩
theorem HR.rebase (h:HR C loc [] ph m W) (loc':Loc):HR (cx C ph m W) loc' [] ph m W:=by
 refine ⟨Kept.refl _ _,(fun k y hk=>by cases hk),(fun k k' y y' b o c o' c' hk=>by cases hk),(fun k y b o c hk=>by cases hk),h.mle,fun b hb=> .inr ?_,fun u hu=>⟨(h.phs u hu).1,fun b hb=>⟨.inr ?_,((h.phs u hu).2 b hb).2⟩⟩⟩
 ·show zfD ph m W b≠none
  rw [zrz (.inl hb)]
  cases hm:m b with
  |none=>exact absurd hm hb
  |some o=>rw [h.mle b o hm];simp
 ·show zfD ph m W b≠none
  rw [zrz (.inr ⟨u,hu,hb⟩)]
  cases hm:u b with
  |none=>exact absurd hm hb
  |some o=>rw [(h.phs u hu).1 b o hm];simp
theorem HR.u0_up (h:HR C loc [] ph m W):∀b o,C.u0 b=some o→(cx C ph m W).u0 b=some o:=by
 intro b o hb
 unfold Ctx.u0 at hb ⊢
 split at hb
 ·rename_i h0
  have h0:C.m0 b=none:=by simpa using h0
  have hlt:b<C.w0.heap.size:=(Array.getElem?_eq_some_iff.1 hb).1
  have nm:¬C.mine b:=fun hmine=>hmine.elim (fun h=>by omega) fun h=>h h0
  have h1:m b=none:=by
   cases hm:m b with
   |none=>rfl
   |some o=>exact absurd (h.mmine b (by rw [hm];simp)) nm
  have h2:∀u∈ph,u b=none:=fun u hu=>by
   cases hm:u b with
   |none=>rfl
   |some o=>exact absurd ((h.phs u hu).2 b (by rw [hm];simp)).1 nm
  show (if (zfD ph m W b).isNone then W.heap[b]? else none)=some o
  rw [zic h1 h2]
  simp only [Option.isNone_none,if_true]
  rw [h.kept.2.2.2.2 b hlt h0];exact hb
 ·cases hb
theorem HR.mine_up (h:HR C loc [] ph m W) {b:Nat} (hb:(cx C ph m W).mine b):C.mine b:=by
 rcases hb with hb|hb
 ·exact .inl (Nat.le_trans h.kept.2.2.2.1 hb)
 ·rcases zwl hb with hm|⟨u,hu,hm⟩
  ·exact h.mmine b hm
  ·exact ((h.phs u hu).2 b hm).1
theorem HR.unbase (h:HR C loc [] ph m W) {loc' loc2:Loc} {pv':List (Nat×PV)} {ph':List PH} {m':PH} {W':World} (h':HR (cx C ph m W) loc' pv' ph' m' W'):HR C loc2 [] ph' m' W':=by
 refine ⟨?_,(fun k y hk=>by cases hk),(fun k k' y y' b o c o' c' hk=>by cases hk),(fun k y b o c hk=>by cases hk),h'.mle,fun b hb=>h.mine_up (h'.mmine b hb),fun u hu=>⟨(h'.phs u hu).1,fun b hb=>⟨h.mine_up ((h'.phs u hu).2 b hb).1,((h'.phs u hu).2 b hb).2⟩⟩⟩
 obtain ⟨k1,k2,k3,k4,k5⟩:=h.kept
 obtain ⟨q1,q2,q3,q4,q5⟩:=h'.kept
 refine ⟨q1.trans k1,q2.trans k2,q3.trans k3,Nat.le_trans k4 q4,fun k hk hn=> ?_⟩
 have nm:¬C.mine k:=fun hmine=>hmine.elim (fun h=>by omega) fun h=>h hn
 rw [q5 k (Nat.lt_of_lt_of_le hk k4) (zic ?_ ?_)]
 ·exact k5 k hk hn
 ·cases hm:m k with
  |none=>rfl
  |some o=>exact absurd (h.mmine k (by rw [hm];simp)) nm
 ·intro u hu
  cases hm:u k with
  |none=>rfl
  |some o=>exact absurd ((h.phs u hu).2 k (by rw [hm];simp)).1 nm
theorem HR.other (h':HR (cx C ph m W) loc [] ph m W) {loc':Loc} {pv':List (Nat×PV)} {ph':List PH} {m':PH} {W':World} (h2:HR (cx C ph m W) loc' pv' ph' m' W') {b:Nat} {o:Obj} (hb:W.heap[b]? =some o) (h3:m b=none) (h4:∀u∈ph,u b=none):W'.heap[b]? =some o:=by
 have hlt:b<W.heap.size:=(Array.getElem?_eq_some_iff.1 hb).1
 rw [h2.kept.2.2.2.2 b hlt (zic h3 h4)];exact hb
theorem HR.apart' (h:HR C loc [] ph m W) {loc':Loc} {pv':List (Nat×PV)} {ph':List PH} {m':PH} {W':World} (h2:HR (cx C ph m W) loc' pv' ph' m' W') {b:Nat} (hb:b<W.heap.size) (h3:m b=none) (h4:∀u∈ph,u b=none):m' b=none∧∀u∈ph',u b=none:=by
 have nm:¬(cx C ph m W).mine b:=fun hmine=>hmine.elim (fun h=>by simp only at h;omega) fun h=>h (zic h3 h4)
 refine ⟨?_,fun u hu=> ?_⟩
 ·cases hm:m' b with
  |none=>rfl
  |some o=>exact absurd (h2.mmine b (by rw [hm];simp)) nm
 ·cases hm:u b with
  |none=>rfl
  |some o=>exact absurd ((h2.phs u hu).2 b (by rw [hm];simp)).1 nm
end
def frG (fr:List (Nat×SV)):Prop:=∀t x,look fr t=some x→∃g,x= .g g
theorem FR.plain {loc loc':Loc} {N:Nat} {fr:List (Nat×SV)} {pv pv':List (Nat×PV)} {ph ph':List PH} {a:Act} (h:FR loc N fr pv ph a) (hg:frG fr) (hs:∀u∈ph,u∈ph'):FR loc' N fr pv' ph' a:=by
 refine ⟨h.defers.up hs,h.size,fun t x hx=> ?_⟩
 obtain ⟨g,rfl⟩:=hg t x hx
 exact h.slots t _ hx
def zAP (σ:SS) (I:List PH→PH→Prop) (Ix:Exit→List PH→PH→Prop):QT
 | .normal,τ=>(∀u∈σ.ph,u∈τ.ph)∧I τ.ph τ.m
 | .ret,τ=>(∀u∈σ.ph,u∈τ.ph)∧Ix .ret τ.ph τ.m
 | .exit id,τ=>(∀u∈σ.ph,u∈τ.ph)∧Ix (.exit id) τ.ph τ.m
 |_,_=>False
theorem zzN {σ:SS} {I:List PH→PH→Prop} {Ix:Exit→List PH→PH→Prop}:QOk (zAP σ I Ix):=fun _ h=>h
theorem zjO {α:Type}:∀(a b:List (Nat×α)) (t:Nat),look (a++b) t=(look a t).or (look b t)
 |[],b,t=>by simp [look]
 |(k,x)::a,b,t=>by
  simp only [List.cons_append,look]
  split
  ·simp
  ·exact zjO a b t
theorem zxb (l:List (Tmp×Value)):∀tm:Array Value,(l.foldl (fun tm (p:Tmp×Value)=>tm.setIfInBounds p.1 p.2) tm).size=tm.size:=by
 induction l with
 |nil=>intro tm;rfl
 |cons p l ih=>intro tm;rw [List.foldl_cons,ih,Array.size_setIfInBounds]
end Go.Proofs.YtmjiojflncffeaaGreat.Vc

set_option linter.unusedVariables false
set_option linter.unusedSimpArgs false
namespace Go.Proofs.YtmjiojflncffeaaGreat.Vc
open Go Go.Shelf
section
variable {C:Ctx} {loc:Loc} {ph:List PH} {m:PH} {W:World}
theorem HR.put_other (h:HR C loc [] ph m W) (loc':Loc) {l:Nat} (o:Obj) (h1:m l=none) (h2:∀u∈ph,u l=none) (h3:C.w0.heap.size≤l):HR C loc' [] ph m (W.putObj l o):=by
 have hne:∀{u:PH} {b:Nat} {o':Obj},u l=none→u b=some o'→b≠l:=fun hu hb e=>by rw [e,hu]at hb;cases hb
 refine ⟨?_,(fun k y hk=>by cases hk),(fun k k' y y' b o c o' c' hk=>by cases hk),(fun k y b o c hk=>by cases hk),fun b o' hb=> ?_,h.mmine,fun u hu=>⟨fun b o' hb=> ?_,(h.phs u hu).2⟩⟩
 ·obtain ⟨k1,k2,k3,k4,k5⟩:=h.kept
  exact ⟨k1,k2,k3,by rw [World.putObj_size];exact k4,fun k hk hn=>by rw [World.putObj_heap_other (by omega)];exact k5 k hk hn⟩
 ·rw [World.putObj_heap_other (hne h1 hb)];exact h.mle b o' hb
 ·rw [World.putObj_heap_other (hne (h2 u hu) hb)];exact (h.phs u hu).1 b o' hb
theorem HR.grown (h:HR C loc [] ph m W) {W':World} (hk:Kept PH.no W W'):HR C loc [] ph m W':=
 (h.after (m:=m) (m1:=PH.no) (mr:=m) (m':=PH.no) (zeX _).symm (zgC _) (fun b o hb=>by cases hb) (fun b hb=>absurd rfl hb) hk).2.2.1
theorem HR.add (h:HR C loc [] ph m W) {D:Nat} {o:Obj} (hD:W.heap[D]? =some o) (h1:m D=none) (h2:C.w0.heap.size≤D):HR C loc [] (one D o::ph) m W:=by
 refine ⟨h.kept,(fun k y hk=>by cases hk),(fun k k' y y' b o c o' c' hk=>by cases hk),(fun k y b o c hk=>by cases hk),h.mle,h.mmine,fun u hu=> ?_⟩
 rcases List.mem_cons.1 hu with rfl|hu
 ·refine ⟨fun b o' hb=> ?_,fun b hb=> ?_⟩
  ·simp only [one]at hb
   split at hb
   ·rename_i e;subst e;cases hb;exact hD
   ·cases hb
  ·simp only [one]at hb
   split at hb
   ·rename_i e;subst e;exact ⟨.inl h2,h1⟩
   ·exact absurd rfl hb
 ·exact h.phs u hu
end
def zxh:Exit→Option Code
 | .ret=>some .ret
 | .exit id=>some (.exit id)
 |_=>none
end Go.Proofs.YtmjiojflncffeaaGreat.Vc

set_option linter.unusedVariables false
set_option linter.unusedSimpArgs false
namespace Go.Proofs.YtmjiojflncffeaaGreat.Vc
open Go Go.Shelf
section
variable {P:Program} {N:Nat} {ns:List (Nat×Nat)} {code:Code}
end
structure Slots (N:Nat) (fr:List (Nat×SV)) (a:Act):Prop where
 defers:a.defers=[]
 size:a.tmps.size=N
 at':∀t x,look fr t=some x→∃g,x= .g g∧GV.ok g∧a.tmps[t]? =some g.val
abbrev cw (P:Program) (N:Nat) (w:World):Ctx:=⟨P,N,w,PH.no⟩
theorem Slots.rel {P:Program} {N:Nat} {fr:List (Nat×SV)} {a:Act} (h:Slots N fr a) (w:World):Rel (cw P N w) ⟨fr,[],[],PH.no⟩ a w:=by
 refine ⟨fun _=>none,⟨by rw [h.defers];exact Marks.nil _,h.size,fun t x hx=> ?_⟩,⟨Kept.refl _ _,(fun k y hk=>by cases hk),(fun k k' y y' b o c o' c' hk=>by cases hk),(fun k y b o c hk=>by cases hk),(fun b o hb=>by cases hb),(fun b hb=>absurd rfl hb),fun u hu=>by cases hu⟩⟩
 obtain ⟨g,rfl,h1,h2⟩:=h.at' t x hx
 exact ⟨_,h2,h1,rfl⟩
def znr (R:Exit→List (Nat×SV)→Prop):QT:=fun e τ=>(e= .normal∨e= .ret∨∃id,e= .exit id)∧τ.ph=[]∧∃fr,frG fr∧R e fr∧∀t x,look fr t=some x→look τ.fr t=some x
theorem zym {R:Exit→List (Nat×SV)→Prop}:QOk (znr R):=fun σ h=>by
 rcases h.1 with h|h|⟨id,h⟩<;>cases h
theorem Rel.slots {P:Program} {N:Nat} {w:World} {τ:SS} {a:Act} {w':World} (h:Rel (cw P N w) τ a w') (hp:τ.ph=[]) {fr:List (Nat×SV)} (hg:frG fr) (hs:∀t x,look fr t=some x→look τ.fr t=some x):Slots N fr a∧Kept PH.no w w':=by
 obtain ⟨loc,hF,hH⟩:=h
 refine ⟨⟨?_,hF.size,fun t x hx=> ?_⟩,hH.kept⟩
 ·cases hd:a.defers with
  |nil=>rfl
  |cons d ds=>
   obtain ⟨D,u,_,hu,_⟩:=hF.defers.2 d (by rw [hd];simp)
   rw [hp]at hu;cases hu
 ·obtain ⟨g,rfl⟩:=hg t x hx
  obtain ⟨v,hv,h1,h2⟩:=hF.slots t _ (hs t _ hx)
  exact ⟨g,rfl,h1,by rw [hv,h2]⟩
theorem zAy {P:Program} {N:Nat} {ns:List (Nat×Nat)} {cd:Cd} {code:Code} {fr:List (Nat×SV)} {a:Act} {w:World} {R:Exit→List (Nat×SV)→Prop} {Q:Exit→Act→World→Prop} (hc:comp P N ns code=er cd) (hn:zfL cd=true) (hp:zde code=true)
  (hs:Slots N fr a) (h:vc (cw P N w) cd (znr R) ⟨fr,[],[],PH.no⟩) (hQ:∀e fr' a' w',R e fr'→Slots N fr' a'→Kept PH.no w w'→(e= .normal∨e= .ret∨∃id,e= .exit id)→Q e a' w'):code.wpIn (ziq none) 0 P Q a w:=by
 refine wpIn_mono (zeH (C:=cw P N w) ns none cd code (znr R) ⟨fr,[],[],PH.no⟩ a w hc hn hp zym h (hs.rel w)) fun e a' w' hq=> ?_
 obtain ⟨τ,⟨he,hph,fr',hg,hR,hl⟩,hrel⟩:=hq
 obtain ⟨h1,h2⟩:=hrel.slots hph hg hl
 exact hQ e fr' a' w' hR h1 h2 he
end Go.Proofs.YtmjiojflncffeaaGreat.Vc

set_option linter.unusedVariables false
set_option linter.unusedSimpArgs false
namespace Go.Proofs.YtmjiojflncffeaaGreat.Vc
open Go Go.Shelf
theorem zla {P:Program} {ops:Array Oper} {Q1 Q:Exit→Act→World→Prop} (ro:Option Nat) {L2:List Oper} (hlet:∀a w,¬Q1 .outgrown a w) (hpan:∀c a w,¬Q1 (.panic c) a w) (hK:∀a w,Q1 .normal a w→wpListIn (ziq ro) 0 P ops Q L2 a w):
  ∀(L1:List Oper) (a:Act) (w:World),(∀o∈L1,zhq o=true)→wpList P ops Q1 L1 a w→wpListIn (ziq ro) 0 P ops Q (L1++L2) a w
 |[],a,w,_,h=>hK a w h
 |o::L,a,w,hp,h=>by
  have ih:=fun (a:Act) (w:World)=>zla (P:=P) (ops:=ops) (Q1:=Q1) (Q:=Q) ro hlet hpan hK L a w (fun o ho=>hp o (List.mem_cons_of_mem _ ho))
  have hno:∀c,o.op≠ .defer c:=fun c e=>by
   have:=hp o (by simp)
   rw [zhq,e]at this;cases this
  have hl:¬LetsOut Q1:=fun ⟨a,w,h⟩=>hlet a w h
  unfold wpList at h
  rw [List.cons_append]
  unfold wpListIn
  by_cases hw:Region.wanted o (yielded ops a.tmps)=true
  ·rw [if_pos hw]at h ⊢
   rcases h with h|⟨_,h⟩
   ·refine ⟨fun _ _=>trivial, ?_⟩
    have hsem:o.semAt ro a.eval=execOp a.eval o:=zjk ro _ o hno
    rw [hsem]
    unfold Oper.wp at h
    generalize (execOp a.eval o).run P w=r at h ⊢
    cases r with
    |ok x w'=>
     cases x with
     |value v=>exact ih _ _ h
     |skip=>exact ih _ _ h
     |defer d=>exact ih _ _ h
     |enter f args=>
      refine ⟨(fun h=>by cases h),((zwG ro _).2 h).mono fun e w2 he=> ?_⟩
      cases e with
      |returned v=>exact ih _ _ he
      |panicked ch=>exact absurd he (hpan _ _ _)
      |outgrown=>exact absurd he hl
     |row row args=>
      refine ⟨(fun h=>by cases h),fun c cs _=> ?_⟩
      obtain ⟨v,w2,h1,h2⟩:=h c cs
      exact ⟨v,w2,ih _ _ h1,stepsIn_wide.2 h2⟩
     |_=>exact h.elim
    |halt x w'=>
     cases x with
     |panic v=>exact absurd h (hpan _ _ _)
     |_=>exact h.elim
   ·exact absurd h hl
  ·rw [if_neg hw]at h ⊢
   exact ⟨fun _ _=>trivial,ih _ _ h⟩
theorem zyN {P:Program} {N:Nat} {id:Nat} {ops:Array Oper} {Q:Exit→Act→World→Prop} {C:Ctx} (hCP:C.P=P) (hCN:C.N=N) (hd:ops.all (zcY N)=true) (hg:ops.all (zbB ops)=true) (hpl:ops.all zhq=true)
  (n d tx l:Nat) (o:Oper) (c:Call) (hn:ops.toList.drop n=o::ops.toList.drop (n+1)) (hoc:o.op= .call c) (hog:o.guard=none) (hod:o.dst=some d) (hcc:c.callee= .value (.tmp tx))
  (s1 s2:List Seg) (h1:zot P ops (ops.toList.take n)=s1.map zrs) (h2:zot P ops (ops.toList.drop (n+1))=s2.map zrs)
  {σ:SS} {a:Act} {w:World} (hR:Rel C σ a w) (K1:SS→Prop) (hK1:zbN C s1 K1 σ)
  (hY:∀τ a w,K1 τ→Rel C τ a w→a.eval (.tmp tx)= .func (.yield l) #[] #[]∧YieldAt Fence.wide 0 P l (c.args.map a.eval) w fun e w2=>∃b,e= .returned (.bool b)∧∃(fr:List (Nat×SV)) (Q2:SS→Prop),Slots N fr (a.put (some d) (.bool b))∧zbN (cw P N w2) s2 Q2 ⟨fr,[],[],PH.no⟩∧∀τ2 a2 w3,Q2 τ2→Rel (cw P N w2) τ2 a2 w3→Q .normal a2 w3):
  (Code.region id ops false).wpIn (ziq none) 0 P Q a w:=by
 subst hCP;subst hCN
 simp only [Array.all_eq_true_iff_forall_mem]at hd hg hpl
 have hmem:∀(l:List Oper),(∀o∈l,o∈ops.toList)→∀x∈grp ops l,∀o∈x.2,gOf ops o=x.1∧zcY C.N o=true∧zbB ops o=true:=fun l hl x hx o ho=>by
  obtain ⟨h1,h2⟩:=zlX ops l x hx o ho
  have:=hl o h2
  exact ⟨h1,hd o (by simpa using this),hg o (by simpa using this)⟩
 refine wpIn_region_list ?_
 rw [←List.take_append_drop n ops.toList,hn]
 refine zla (Q1:=fun e a w=>e= .normal∧∃τ,K1 τ∧Rel C τ a w) none (fun a w h=>by cases h.1) (fun c a w h=>by cases h.1) ?_ _ a w (fun o ho=>hpl o (by simpa using List.mem_of_mem_take ho)) ?_
 ·rintro a1 w1 ⟨_,τ,hK,hR1⟩
  obtain ⟨hev,fn,tmps,assign,body,hy,hround⟩:=hY τ a1 w1 hK hR1
  unfold wpListIn
  rw [if_pos (by unfold Region.wanted;rw [hog])]
  have hrun:(execOp a1.eval o).run C.P w1= .ok (.round l fn tmps assign body) w1:=by
   rw [←hy]
   unfold execOp
   rw [hoc]
   simp only [resolve,hcc,hev,Deferred.ofValue,Sem.run_bind,Sem.run_pure,Result.andThen,invoke]
   simp
  refine ⟨fun _ _=>trivial, ?_⟩
  rw [show o.semAt none a1.eval=execOp a1.eval o from rfl,hrun]
  refine ⟨(fun h=>by cases h),hround.mono fun e w2 he=> ?_⟩
  obtain ⟨b,rfl,fr,Q2,hS,hv,hQ2⟩:=he
  show wpListIn _ _ _ _ _ _ (a1.put o.dst (.bool b)) w2
  rw [hod]
  have hb:∀o'∈ops.toList.drop (n+1),o'∈ops.toList:=fun o' ho'=>List.mem_of_mem_drop ho'
  have hs2:=zda (C:=cw C.P C.N w2) (ops:=ops) (K:=Q2) (Q:=fun e a w=>e= .normal∧∃τ,Q2 τ∧Rel (cw C.P C.N w2) τ a w) (fun σ' a' w' hK hR'=>⟨rfl,σ',hK,hR'⟩) s2 (grp ops (ops.toList.drop (n+1))) ⟨fr,[],[],PH.no⟩ _ w2 h2 (hmem _ hb) (hS.rel w2) hv
  rw [zgP]at hs2
  have:=zla (Q:=Q) (L2:=[]) none (fun a w h=>by cases h.1) (fun c a w h=>by cases h.1) (fun a w h=>by
   obtain ⟨_,τ2,q1,q2⟩:=h
   exact hQ2 τ2 a w q1 q2) _ _ w2 (fun o ho=>hpl o (by simpa using hb o ho)) hs2
  rwa [List.append_nil]at this
 ·have:=zda (C:=C) (ops:=ops) (K:=K1) (Q:=fun e a w=>e= .normal∧∃τ,K1 τ∧Rel C τ a w) (fun σ' a' w' hK hR'=>⟨rfl,σ',hK,hR'⟩) s1 (grp ops (ops.toList.take n)) σ a w h1 (hmem _ fun o ho=>List.mem_of_mem_take ho) hR hK1
  rwa [zgP]at this
def atL:Code→Code
 | .seq a _=>a
 | .cond _ a _=>a
 | .block _ a=>a
 | .loop a=>a
 |c=>c
def atR:Code→Code
 | .seq _ b=>b
 | .cond _ _ b=>b
 |c=>c
def zjf:Code→Array Oper
 | .region _ ops _=>ops
 |_=> #[]
def regId:Code→Nat
 | .region id _ _=>id
 |_=>0
end Go.Proofs.YtmjiojflncffeaaGreat.Vc

set_option linter.unusedVariables false
set_option linter.unusedSimpArgs false
namespace Go.Proofs.YtmjiojflncffeaaGreat.Vc
open Go Go.Shelf
def zeT:List Tmp→List GV→List (Nat×SV)
 |t::ts,g::gs=>zeT ts gs++[(t, .g g)]
 |_,_=>[]
theorem zjW:∀(ts:List Tmp) (gs:List GV) (tm:Array Value) (t:Nat),look (zeT ts gs) t=none→((ts.zip (gs.map GV.val)).foldl (fun tm (p:Tmp×Value)=>tm.setIfInBounds p.1 p.2) tm)[t]? =tm[t]?
 |[],gs,tm,t,_=>rfl
 |q::ts,[],tm,t,_=>rfl
 |q::ts,v::gs,tm,t,h=>by
  simp only [zeT,zjO,Option.or_eq_none_iff,look]at h
  obtain ⟨h1,h2⟩:=h
  simp only [List.map_cons,List.zip_cons_cons,List.foldl_cons]
  rw [zjW ts gs _ t h1,Array.getElem?_setIfInBounds_ne]
  intro e
  rw [if_pos e.symm]at h2;cases h2
theorem znZ:∀(ts:List Tmp) (gs:List GV) (tm:Array Value),(∀t∈ts,t<tm.size)→∀t x,look (zeT ts gs) t=some x→∃g,x= .g g∧g∈gs∧((ts.zip (gs.map GV.val)).foldl (fun tm (p:Tmp×Value)=>tm.setIfInBounds p.1 p.2) tm)[t]? =some g.val
 |[],_,tm,_,t,x,h=>by simp [zeT,look]at h
 |_::_,[],tm,_,t,x,h=>by simp [zeT,look]at h
 |p::ts,g::gs,tm,hb,t,x,h=>by
  simp only [zeT,zjO]at h
  simp only [List.map_cons,List.zip_cons_cons,List.foldl_cons]
  have hb':∀t∈ts,t<(tm.setIfInBounds p g.val).size:=fun t ht=>by rw [Array.size_setIfInBounds];exact hb t (by simp [ht])
  cases h1:look (zeT ts gs) t with
  |some y=>
   rw [h1]at h
   simp only [Option.some_or,Option.some.injEq]at h
   subst h
   obtain ⟨g',e,hm,hv⟩:=znZ ts gs _ hb' t y h1
   exact ⟨g',e,by simp [hm],hv⟩
  |none=>
   rw [h1]at h
   simp only [Option.none_or,look]at h
   split at h
   ·rename_i e
    cases h
    subst e
    exact ⟨g,rfl,by simp,by rw [zjW ts gs _ t h1,Array.getElem?_setIfInBounds_self_of_lt (hb t (by simp))]⟩
   ·cases h
def zCf (ph:List PH) (K:List PH→PH→List (Nat×SV)→Prop):QT
 | .normal,τ=>(∀u∈ph,u∈τ.ph)∧∃fr1,frG fr1∧(∀t x,look fr1 t=some x→look τ.fr t=some x)∧K τ.ph τ.m fr1
 |_,_=>False
theorem zzS {ph:List PH} {K:List PH→PH→List (Nat×SV)→Prop}:QOk (zCf ph K):=fun _ h=>h
theorem zvE {C:Ctx} {Q:QT} {fr:List (Nat×SV)} {ph0:List PH} {m0:PH} {code:Code} {t gf:Nat} {lb:List Value} {ui:PH} {encs:List (List GV)} (ns:List (Nat×Nat))
  (hc:code= .rangeFunc (.tmp t) (zwL code) (zvG code) (zxi code)) (ht:look fr t=some (.g (.s (.func (.func gf) #[] lb.toArray)))) (eg:∀args w,(callFunc gf args).run C.P w= .ok (.enter gf args) w)
  (hfr:frG fr) (hui:ui∈ph0) (hit:Iter C.P gf lb ui (encs.map fun x=>x.map GV.val)) (hps:∀x∈encs,x.length=(zwL code).size) (hone:∀x∈encs,∀g∈x,g.ok) (hpb:∀t∈(zwL code).toList,t<C.N)
  (cA cB:Cd) (hA:comp C.P C.N ns (zvG code)=er cA) (hA1:zfL cA=true) (hA2:zde (zvG code)=true) (hB:comp C.P C.N ns (zxi code)=er cB) (hB1:zfL cB=true) (hB2:zde (zxi code)=true)
  (I:Nat→List PH→PH→Prop) (Ix:Exit→List PH→PH→Prop) (h0:I 0 ph0 m0)
  (hround:∀i x (w':World) (m':PH) ph m,encs[i]? =some x→(∀b o,C.u0 b=some o→(⟨C.P,C.N,w',m'⟩:Ctx).u0 b=some o)→(∀u∈ph0,u∈ph)→I i ph m→
   vc ⟨C.P,C.N,w',m'⟩ cA (zCf ph fun ph1 m1 fr1=>∀(w2:World) (m2:PH),(∀b o,C.u0 b=some o→(⟨C.P,C.N,w2,m2⟩:Ctx).u0 b=some o)→vc ⟨C.P,C.N,w2,m2⟩ cB (zAP ⟨fr,[],ph0,m0⟩ (I (i+1)) Ix) ⟨fr1,[],ph1,m1⟩) ⟨zeT (zwL code).toList x++fr,[],ph,m⟩)
  (hdone:∀u ph m,(∀u∈ph0,u∈ph)→I encs.length ph m→Q .normal ⟨fr,[],u::ph,m⟩)
  (hstop:∀e c u ph m,zxh e=some c→(∀u∈ph0,u∈ph)→Ix e ph m→Q e ⟨fr,[],u::ph,m⟩):vc C (.raw code) Q ⟨fr,[],ph0,m0⟩:=by
 intro act w hR
 obtain ⟨loc,hF,hH⟩:=hR
 have hev:act.eval (.tmp t)= .func (.func gf) #[] lb.toArray:=by
  obtain ⟨v,hv,hr⟩:=hF.slots t _ ht
  obtain ⟨_,rfl⟩:=hr
  simp [Act.eval,hv,GV.val]
 rw [hc]
 refine (wpIn_wide (n:=0)).1 (wpIn_rangeFunc ?_)
 intro fn _
 generalize hpsE:zwL code=ps at*
 generalize hasE:zvG code=assign at*
 generalize hbdE:zxi code=body at*
 obtain ⟨rec,hrec⟩:∃rec:LoopState→Option Code→Loop,rec=fun st pe=>{state:=st,pending:=pe,fn,tmps:=act.tmps,params:=ps,assign,body,defers:=w.heap.size}:=⟨_,rfl⟩
 obtain ⟨W1,hW1⟩:∃W1,(w.alloc (.deferred (some []))).alloc (.loop (rec .ready none))=W1:=⟨_,rfl⟩
 have hk1:Kept PH.no w W1:=by rw [←hW1];exact zwq (zlc _ _) (zlc _ _)
 have hsz:W1.heap.size=w.heap.size+2:=by rw [←hW1,World.size_alloc,World.size_alloc]
 have hL1:W1.heap[w.heap.size+1]? =some (.loop (rec .ready none)):=by
  rw [←hW1];have:=World.alloc_heap_new (w.alloc (.deferred (some []))) (.loop (rec .ready none));rwa [World.size_alloc]at this
 have hK1:W1.heap[w.heap.size]? =some (.deferred (some [])):=by
  rw [←hW1]
  have h2:=(zlc (w.alloc (.deferred (some []))) (.loop (rec .ready none))).2.2.2.2 w.heap.size (by rw [World.size_alloc];omega) rfl
  rw [h2]
  exact World.alloc_heap_new w _
 have hw0:C.w0.heap.size≤w.heap.size:=hH.kept.2.2.2.1
 obtain ⟨l,hl⟩:∃l,w.heap.size+1=l:=⟨_,rfl⟩
 obtain ⟨D,hD⟩:∃D,w.heap.size=D:=⟨_,rfl⟩
 obtain ⟨J,hJ⟩:∃J:Nat→World→Prop,J=fun i W=>∃ph m,(∀u∈ph0,u∈ph)∧I i ph m∧HR C loc [] ph m W∧(m l=none∧∀u∈ph,u l=none)∧(m D=none∧∀u∈ph,u D=none)∧W.heap[l]? =some (.loop (rec .ready none))∧W.heap[D]? =some (.deferred (some [])):=⟨_,rfl⟩
 obtain ⟨Jx,hJx⟩:∃Jx:World→Prop,Jx=fun W=>∃e c ph m,zxh e=some c∧(∀u∈ph0,u∈ph)∧Ix e ph m∧HR C loc [] ph m W∧(m l=none∧∀u∈ph,u l=none)∧(m D=none∧∀u∈ph,u D=none)∧W.heap[l]? =some (.loop (rec .done (some c)))∧W.heap[D]? =some (.deferred (some [])):=⟨_,rfl⟩
 have hlD:l≠D:=by omega
 have fresh:∀{b:Nat},w.heap.size≤b→m0 b=none∧∀u∈ph0,u b=none:=fun {b} hb=>by
  have hn:w.heap[b]? =none:=Array.getElem?_eq_none hb
  refine ⟨?_,fun u hu=> ?_⟩
  ·cases hm:m0 b with
   |none=>rfl
   |some o=>have:=hH.mle b o hm;rw [hn]at this;cases this
  ·cases hm:u b with
   |none=>rfl
   |some o=>have:=(hH.phs u hu).1 b o hm;rw [hn]at this;cases this
 have kept_at:∀{W W':World} {k:Nat} {o:Obj},Kept PH.no W W'→W.heap[k]? =some o→W'.heap[k]? =some o:=fun {W W' k o} hk h=>by
  rw [hk.2.2.2.2 k (Array.getElem?_eq_some_iff.1 h).1 rfl];exact h
 refine ⟨w.heap.size+1,[{target:= .collected w.heap.size,args:= #[]}],W1,{target:= .fn (.func gf) lb.toArray,args:= #[.func (.yield (w.heap.size+1)) #[] #[]]},W1,gf,
  #[.func (.yield (w.heap.size+1)) #[] #[]]++lb.toArray,W1, ?_, ?_, ?_, ?_,(fun h=>by cases h), ?_⟩
 ·rw [←hW1,hrec];exact run_enterLoop_outer _ _ _ _ _
 ·simp only [resolve,hev]
  simp [go_sem]
 ·intro f' _;trivial
 ·simp [invoke,go_sem,eg]
 rw [hl,hD]
 rw [hl]at hL1
 rw [hD]at hK1
 refine (hit l J Jx W1 ?_ ?_ ?_ ?_ ?_).mono ?_
 ·exact fun b o hb=>kept_at hk1 ((hH.phs ui hui).1 b o hb)
 ·intro i W W' h hk
  rw [hJ]at h ⊢
  obtain ⟨ph,m,q1,q2,q3,q4,q5,q6,q7⟩:=h
  exact ⟨ph,m,q1,q2,q3.grown hk,q4,q5,kept_at hk q6,kept_at hk q7⟩
 ·intro W W' h hk
  rw [hJx]at h ⊢
  obtain ⟨e,c,ph,m,q0,q1,q2,q3,q4,q5,q6,q7⟩:=h
  exact ⟨e,c,ph,m,q0,q1,q2,q3.grown hk,q4,q5,kept_at hk q6,kept_at hk q7⟩
 ·
  intro i x W hx h
  rw [List.getElem?_map]at hx
  obtain ⟨y,hy0,rfl⟩:=Option.map_eq_some_iff.1 hx
  clear hx
  rw [hJ]at h
  obtain ⟨ph,m,q1,q2,q3,q4,q5,q6,q7⟩:=h
  have hxm:y∈encs:=List.mem_of_getElem? hy0
  have hy:=run_yield (P:=C.P) (args:=(y.map GV.val).toArray) q6 (by rw [hrec];simpa using hps y hxm)
  rw [hrec]at hy
  refine ⟨fn,_,assign,body,hy,roundIn_of_wpIn trivial ?_⟩
  have htm:(ps.zip (y.map GV.val).toArray).foldl (fun tmps (t,a)=>tmps.setIfInBounds t a) act.tmps=(ps.toList.zip (y.map GV.val)).foldl (fun tm (p:Tmp×Value)=>tm.setIfInBounds p.1 p.2) act.tmps:=by
   rw [←Array.foldl_toList,Array.toList_zip]
  rw [htm]
  have hF0:FR loc C.N (zeT ps.toList y++fr) [] ph {tmps:=(ps.toList.zip (y.map GV.val)).foldl (fun tm (p:Tmp×Value)=>tm.setIfInBounds p.1 p.2) act.tmps,defers:=[]}:=by
   refine ⟨Marks.nil _,by simp only;rw [zxb];exact hF.size,fun t sv hy=> ?_⟩
   rw [zjO]at hy
   cases h1:look (zeT ps.toList y) t with
   |some z=>
    rw [h1]at hy
    simp only [Option.some_or,Option.some.injEq]at hy
    subst hy
    obtain ⟨g,rfl,hv,hval⟩:=znZ ps.toList y act.tmps (fun t ht=>by rw [hF.size];exact hpb t ht) t z h1
    exact ⟨g.val,hval,hone y hxm g hv,rfl⟩
   |none=>
    rw [h1]at hy
    simp only [Option.none_or]at hy
    obtain ⟨g,rfl⟩:=hfr t sv hy
    obtain ⟨v,hv,hr⟩:=hF.slots t _ hy
    exact ⟨v,by simp only;rw [zjW _ _ _ _ h1];exact hv,hr⟩
  have hA':=zeH (C:=cx C ph m W) ns (some l) cA assign _ ⟨zeT ps.toList y++fr,[],ph,m⟩ _ W hA hA1 hA2 zzS (hround i y W (zfD ph m W) ph m hy0 q3.u0_up q1 q2) ⟨loc,hF0,q3.rebase loc⟩
  refine wpIn_mono hA' fun e a1 W1' hq=> ?_
  obtain ⟨σ1,hq1,loc1,hF1,hH1⟩:=hq
  cases e with
  |normal=>
   obtain ⟨g0,fr1,hf1,e3,hK⟩:=hq1
   have h2:HR C loc [] σ1.ph σ1.m W1':=q3.unbase hH1
   have hl2:=(q3.rebase loc).other hH1 q6 q4.1 q4.2
   have hd2:=(q3.rebase loc).other hH1 q7 q5.1 q5.2
   have hap1:=q3.apart' hH1 (Array.getElem?_eq_some_iff.1 q6).1 q4.1 q4.2
   have hapD1:=q3.apart' hH1 (Array.getElem?_eq_some_iff.1 q7).1 q5.1 q5.2
   refine ⟨_,run_beginRound hl2 (by rw [hrec]), ?_⟩
   have hlt2:l<W1'.heap.size:=(Array.getElem?_eq_some_iff.1 hl2).1
   have h3:=h2.put_other loc (.loop {rec .ready none with state:= .busy}) hap1.1 hap1.2 (by omega)
   have hl3:(W1'.putObj l (.loop {rec .ready none with state:= .busy})).heap[l]? =some (.loop {rec .ready none with state:= .busy}):=World.putObj_heap_same hlt2
   have hd3:(W1'.putObj l (.loop {rec .ready none with state:= .busy})).heap[D]? =some (.deferred (some [])):=(World.putObj_heap_other (Ne.symm hlD)).trans hd2
   generalize W1'.putObj l (.loop {rec .ready none with state:= .busy})=W2 at h3 hl3 hd3 ⊢
   have hFb:FR loc C.N fr1 [] σ1.ph a1:=by
    refine ⟨hF1.defers,hF1.size,fun t y hy=> ?_⟩
    obtain ⟨g,rfl⟩:=hf1 t y hy
    exact hF1.slots t _ (e3 t _ hy)
   have hBq:=zeH (C:=cx C σ1.ph σ1.m W2) ns (some l) cB body (zAP ⟨fr,[],ph0,m0⟩ (I (i+1)) Ix) ⟨fr1,[],σ1.ph,σ1.m⟩ a1 W2 hB hB1 hB2 zzN (hK W2 (zfD σ1.ph σ1.m W2) h3.u0_up) ⟨loc,hFb,h3.rebase loc⟩
   refine wpIn_mono hBq fun e a3 W3 hq=> ?_
   obtain ⟨τ,hq3,loc3,hF3,hH3⟩:=hq
   have hl4:=(h3.rebase loc).other hH3 hl3 hap1.1 hap1.2
   have hd4:=(h3.rebase loc).other hH3 hd3 hapD1.1 hapD1.2
   have hap:=h3.apart' hH3 (Array.getElem?_eq_some_iff.1 hl3).1 hap1.1 hap1.2
   have hapD:=h3.apart' hH3 (Array.getElem?_eq_some_iff.1 hd3).1 hapD1.1 hapD1.2
   have h5:HR C loc [] τ.ph τ.m W3:=h3.unbase hH3
   have hlt4:l<W3.heap.size:=(Array.getElem?_eq_some_iff.1 hl4).1
   have stop:∀(e:Exit) (c:Code),zxh e=some c→(∀u∈ph0,u∈τ.ph)→Ix e τ.ph τ.m→∃v w',(Instr.endRound l (some c)).run C.P W3= .ok v w'∧((Ending.returned v= .returned (.bool true)∧J (i+1) w'∧ui.le w')∨(Ending.returned v= .returned (.bool false)∧Jx w')):=fun e c hj g1 g2=>by
    refine ⟨_,_,run_endRound (some c) hl4, .inr ⟨rfl, ?_⟩⟩
    rw [hJx]
    refine ⟨e,c,τ.ph,τ.m,hj,g1,g2,h5.put_other loc _ hap.1 hap.2 (by omega),hap,hapD, ?_,(World.putObj_heap_other (Ne.symm hlD)).trans hd4⟩
    rw [World.putObj_heap_same hlt4,hrec]
    rfl
   cases e with
   |normal=>
    obtain ⟨g1,g2⟩:=hq3
    refine ⟨_,_,run_endRound none hl4, .inl ⟨rfl, ?_, ?_⟩⟩
    ·rw [hJ]
     refine ⟨τ.ph,τ.m,g1,g2,h5.put_other loc _ hap.1 hap.2 (by omega),hap,hapD, ?_,(World.putObj_heap_other (Ne.symm hlD)).trans hd4⟩
     rw [World.putObj_heap_same hlt4,hrec]
     rfl
    ·exact ((h5.put_other loc _ hap.1 hap.2 (by omega)).phs ui (g1 ui hui)).1
   |ret=>exact stop .ret .ret rfl hq3.1 hq3.2
   |exit id=>exact stop (.exit id) (.exit id) rfl hq3.1 hq3.2
   |goto l=>exact hq3.elim
   |panic c=>exact hq3.elim
   |outgrown=>exact hq3.elim
  |_=>exact hq1.elim
 ·rw [hJ]
  exact ⟨ph0,m0,fun _ h=>h,h0,hH.grown hk1,fresh (by omega),fresh (by omega),hL1,hK1⟩
 ·have mark:∀{ph:List PH} {m:PH} {W:World} {o:Obj},(∀u∈ph0,u∈ph)→HR C loc [] ph m W→(m l=none∧∀u∈ph,u l=none)→(m D=none∧∀u∈ph,u D=none)→W.heap[D]? =some (.deferred (some []))→
    Rel C ⟨fr,[],one D (.deferred (some []))::ph,m⟩ {act with defers:=[{target:= .collected D,args:= #[]}]++act.defers} (W.putObj l o):=by
   intro ph m W o g1 g2 g3 g4 g5
   have hp:=hF.plain (loc':=loc) (pv':=[]) (ph':=one D (.deferred (some []))::ph) hfr (fun u hu=>List.mem_cons_of_mem _ (g1 u hu))
   refine ⟨loc,⟨⟨List.pairwise_cons.2 ⟨fun d hd=> ?_,hF.defers.1⟩,fun d hd=> ?_⟩,hp.size,hp.slots⟩,(g2.put_other loc o g3.1 g3.2 (by omega)).add ((World.putObj_heap_other (Ne.symm hlD)).trans g5) g4.1 (by omega)⟩
   ·obtain ⟨D',u,h1,h2,h3⟩:=hF.defers.2 d hd
    rw [h1]
    intro e
    have e:D=D':=by simpa using e
    have:=(fresh (b:=D') (by omega)).2 u h2
    rw [h3]at this;cases this
   ·rcases List.mem_cons.1 hd with rfl|hd
    ·exact ⟨D,one D (.deferred (some [])),rfl,by simp,by simp [one]⟩
    ·exact hp.defers.2 d hd
  rintro e W2 ⟨⟨v,rfl⟩,(h|h)⟩
  ·rw [hJ]at h
   obtain ⟨ph,m,q1,q2,q3,q4,q5,q6,q7⟩:=h
   rw [List.length_map]at q2
   refine ⟨none,_,(by have:=run_endLoop (P:=C.P) q6 (by rw [hrec];simp);rw [hrec]at this;exact this), ?_⟩
   exact ⟨_,hdone _ ph m q1 q2,mark q1 q3 q4 q5 q7⟩
  ·rw [hJx]at h
   obtain ⟨e,c,ph,m,q0,q1,q2,q3,q4,q5,q6,q7⟩:=h
   refine ⟨some c,_,(by have:=run_endLoop (P:=C.P) q6 (by rw [hrec];simp);rw [hrec]at this;exact this), ?_⟩
   cases e with
   |ret=>cases q0;exact wpIn_ret ⟨_,hstop .ret _ _ ph m rfl q1 q2,mark q1 q3 q4 q5 q7⟩
   |exit id=>cases q0;exact wpIn_exit ⟨_,hstop (.exit id) _ _ ph m rfl q1 q2,mark q1 q3 q4 q5 q7⟩
   |_=>cases q0
end Go.Proofs.YtmjiojflncffeaaGreat.Vc

set_option linter.unusedVariables false
set_option maxRecDepth 100000
namespace Go.Proofs.YtmjiojflncffeaaGreat.Vc
open Go Go.Proofs
abbrev zox:Nat:=24
def ziY:Cd:=
 (.seq (.rg [⟨none,[(some 2, .mv (.c .nilFunc))]⟩] [0])
 (.seq (.rg [⟨none,[(some 3, .new 79 (.s (.slice none 0 0)))]⟩] [0,3])
 (.seq (.seq (.rg [⟨none,[(some 4, .mv (.t 0)),(some 5, .call 35 [(.t 4)]),(some 6, .un .not (.t 5))]⟩] [0,3,6])
 (.ite (.t 6)
 (.rg [⟨none,[(some 7, .mv (.t 0)),(some 8, .nilc (.t 7)),(some 9, .fldA (.t 8) 3 3),(some 10, .ld (.t 9) 1 false),(some 11, .call 43 [(.t 10)]),(none, .st (.t 3) (.t 11) 1)]⟩] [3])
 .skip))
 (.seq (.rg [⟨none,[(none, .gh),(some 12, .mkf 61 [(.t 3)]),(some 2, .mv (.t 12))]⟩] [2])
 .ret))))
theorem zoC:Ok Tryz.prog 24 ziY 13 [] [.tmp 2]:=Ok.mk' Tryz.func24 (by kernel_rfl) (by kernel_rfl) (by kernel_rfl)
abbrev zcg:Nat:=61
end Go.Proofs.YtmjiojflncffeaaGreat.Vc

set_option linter.unusedVariables false
set_option linter.unusedSimpArgs false
set_option maxRecDepth 100000
namespace Go.Proofs.YtmjiojflncffeaaGreat.Vc
open Go Go.Proofs Go.Shelf
theorem zAB {w:World} {u:PH} (hu:u.le w) {b:Nat} {L Lb:Lay} {p:PL} (hL:LogM u b L Lb p) (hl:p.ds.length≤549755813888):
  Spec Tryz.prog zox [ptr b] PH.no w fun rs m'=>∃bo e v,rs=[.s (.func (.func zcg) #[] #[ptr bo])]∧m' bo=some (.cells #[v] e (0,0))∧SlR m' v 22 (p.ds.map zan):=by
 refine zbb zoC [.g (.s (ptr b))] (by simp) (by simp [AV.ok,GV.ok,Value.oneCell',ptr]) ?_
 obtain ⟨ov,mT,mB,hS,_,_,hs⟩:=hL.look
 simp (maxSteps:=2000000) only [ziY,ptr,zi,zm,zf,zc,zb,zh,ze,za,zj,ev,look,zZ,zd,zg,zk,Value.oneCell',cond_true,↓reduceIte,reduceCtorEq,Bool.true_and,true_and,zak,zaK,ptr]
 refine zaM _ [.s (.bool false)] rfl rfl (fun w' vs hv hw _ _=> ?_) ?_
 ·obtain ⟨vs,rfl,_,hv⟩:=zt hv
  obtain rfl:=zr hv
  exact zcG (fun b o h=>hw b o (by rw [zbr];exact hu b o h)) hL
 simp (maxSteps:=2000000) only [zK,zm,zq,zf,zc,zb,zh,ze,za,zj,ev,look,zd,zg,zk,unV,Nat.reduceEqDiff,↓reduceIte,reduceCtorEq,Nat.zero_add,Bool.not_false,↓zL]
 refine zJ _ (hs (zdy hu)).2.2.2.1 rfl ?_
 simp (maxSteps:=2000000) only [za,zj,zd]
 refine zaJ rfl rfl (Q:=fun rs m'=>∃v',rs=[.s v']∧SlO m' v' 97 22 (p.ds.map zan)) (fun w' vs hv hw _ _=> ?_) fun rs m1 _ hq _=> ?_
 ·obtain ⟨vs,rfl,_,hv⟩:=zt hv
  obtain rfl:=zr hv
  exact zjN w' ov p.ds hl u (fun b o h=>hw b o (by rw [zbr];exact hu b o h)) hS
 obtain ⟨v1,rfl,hs1⟩:=hq
 have hv1:=hs1.one
 simp (maxSteps:=2000000) only [zK,zaz,zi,zm,zf,zc,zb,zh,ze,za,zj,ev,look,zZ,zd,zS,zg,zk,GV.getT,GV.sz,GV.same,GV.setT,Nat.reduceEqDiff,↓reduceIte,reduceCtorEq,Bool.and_true,Bool.true_and,true_and,and_true]
 refine zcu 3 3 rfl rfl fun v u2 hv hp hd=> ?_
 obtain ⟨hok,bo,e,rfl,rfl⟩:=hp
 simp (maxSteps:=2000000) only [dropK,zx,zf,zc,zab,zb,ze,za,zj,ev,evL,scL,look,zd,zg,zk,cond_true,↓reduceIte,BEq.rfl,Option.map_some,zbA,SV.mentions]
 exact zbq (rs:=[.s (.func (.func zcg) #[] #[ptr bo])]) _ rfl (fun _ _ h=>h) ⟨bo,e,v1,rfl,by simp [uni,one,GV.flat],hs1.toR.up (zao hd)⟩
def zvM (x:Done):List GV:=[gOp x.op, .s (.bool x.taken)]
def zyy (x:Done):List Value:=(zvM x).map GV.val
theorem zAV {C:Ctx} {ph:List PH} {m u:PH} (hk:KN C.u0 (m::ph) u) {b:Nat} {cs:Array Value} {e:TypeId} {fz:Nat×Nat} (h:u b=some (.cells cs e fz)) {j:Nat} {v:Value} (hj:cs[j]? =some v) (hv:v.oneCell'=true):zce C ph m b j (.s v):=zaC hk h hj hv
noncomputable def o1W:Code:=Tryz.f61.body.getD .skip
noncomputable def o1X:Code:=atL (atL (atR o1W))
noncomputable def o1R:Code:=atR (atR o1X)
noncomputable def o1S:Code:=atL (atL o1R)
noncomputable def o1Y:Code:=atL (atR o1S)
theorem zzy:o1W= .seq (atL o1W) (.block 0 (.loop (.seq (atL o1X) (.seq (.cond (.tmp 8) .skip (.exit 0)) (.seq (.block 1 (.seq (atL o1S) (.seq (.region (regId o1Y) (zjf o1Y) false) (.cond (.tmp 17) .ret .skip)))) (atR o1R)))))):=by kernel_rfl
theorem zvN:(zjf o1Y).all (zcY 19)=true∧(zjf o1Y).all (zbB (zjf o1Y))=true∧(zjf o1Y).all zhq=true:=⟨by kernel_rfl,by kernel_rfl,by kernel_rfl⟩
noncomputable def o1o:Oper:=((zjf o1Y).toList[5]?).getD default
noncomputable def o1c:Call:=match o1o.op with| .call c=>c|_=>default
theorem o1_o:(zjf o1Y).toList.drop 5=o1o::(zjf o1Y).toList.drop 6:=by kernel_rfl
theorem zmf:o1o.op= .call o1c∧o1o.guard=none∧o1o.dst=some 16∧o1c.callee= .value (.tmp 11)∧o1c.args= #[.tmp 13, .tmp 15]:=⟨by kernel_rfl,by kernel_rfl,by kernel_rfl,by kernel_rfl,by kernel_rfl⟩
theorem ziv {N:Nat} {fr:List (Nat×SV)} {a:Act} (h:Slots N fr a) {t:Nat} {v:Value} (ht:look fr t=some (.g (.s v))):a.eval (.tmp t)=v:=by
 obtain ⟨g,e,_,h2⟩:=h.at' t _ ht
 cases e
 simp [Act.eval,h2,GV.val]
theorem zon {N:Nat} {fr:List (Nat×SV)} {a:Act} (h:Slots N fr a) {t:Nat} {g:GV} (ht:look fr t=some (.g g)):a.eval (.tmp t)=g.val:=by
 obtain ⟨g',e,_,h2⟩:=h.at' t _ ht
 cases e
 simp [Act.eval,h2]
theorem zjC {fr:List (Nat×SV)} (h:fr.all (fun p=>match p.2 with| .g _=>true|_=>false)=true):frG fr:=by
 intro t x hx
 induction fr with
 |nil=>simp [look]at hx
 |cons p fr ih=>
  obtain ⟨k,y⟩:=p
  simp only [List.all_cons,Bool.and_eq_true]at h
  simp only [look]at hx
  split at hx
  ·cases hx
   cases x with
   |g x=>exact ⟨x,rfl⟩
   |_=>simp at h
  ·exact ih h.2 hx
def hd1 (yv v:Value) (n i:Nat):List (Nat×SV):=[(0, .g (.s yv)),(5, .g (.s v)),(6, .g (.s (.int .i64 (n)))),(7, .g (.s (.int .i64 (i))))]
theorem o1_c0 (w:World) (ui:PH) (hu:ui.le w) {b:Nat} {e:TypeId} {v yv:Value} {n:Nat} {a:Option Addr} {c:Nat} (hv:v= .slice a n c) (hb:ui b=some (.cells #[v] e (0,0))):
  vc (cw Tryz.prog 19 w) (.rg [⟨none,[(some 5, .ld (.t 1) 1 false),(some 6, .len (.t 5)),(some 7, .mv (.c (.int .i64 0)))]⟩] [0,5,6,7]) (znr fun e fr=>e= .normal∧fr=hd1 yv v n 0) ⟨[(0, .g (.s yv)),(1, .g (.s (.pointer (some ⟨b,0,none⟩))))],[],[],PH.no⟩:=by
 have hk:∀{l:List PH},KN (⟨Tryz.prog,19,w,PH.no⟩:Ctx).u0 l ui:=zdy hu
 subst hv
 simp (maxSteps:=2000000) only [zm,zh,za,zj,ev,look,↓reduceIte,reduceCtorEq]
 refine zJ (.s (.slice a n c)) (zAV hk hb (j:=0) (v:= .slice a n c) rfl rfl) rfl ?_
 simp (maxSteps:=2000000) only [zc,zb,ze,za,zj,ev,look,zd,zg,zk,Value.oneCell',cond_true,Nat.reduceEqDiff,↓reduceIte,reduceCtorEq]
 exact ⟨.inl rfl,rfl,hd1 yv (.slice a n c) n 0,zjC rfl,⟨rfl,rfl⟩,fun t x hx=>by simpa [hd1]using hx⟩
theorem o1_cA (w:World) {v yv:Value} {n i:Nat}:
  vc (cw Tryz.prog 19 w) (.rg [⟨none,[(some 8, .bin .lss (.t 7) (.t 6))]⟩] [0,5,6,7,8]) (znr fun e fr=>e= .normal∧fr=(8, .g (.s (.bool (decide ((i:Int)<n)))))::hd1 yv v n i) ⟨hd1 yv v n i,[],[],PH.no⟩:=by
 unfold hd1
 simp (maxSteps:=2000000) only [zm,zc,zb,zh,ze,za,zj,ev,look,zd,zg,zk,zO,zP,Nat.reduceEqDiff,↓reduceIte,reduceCtorEq,Bool.true_and,true_and]
 exact ⟨.inl rfl,rfl,_,zjC rfl,⟨rfl,rfl⟩,fun t x hx=>by
  simp only [look]at hx ⊢
  (repeat' split at hx)<;>simp_all⟩
theorem o1_cE (w:World) {v yv:Value} {n i:Nat} (hn:n≤9223372036854775800) (hi:i<n):
  vc (cw Tryz.prog 19 w) (.rg [⟨none,[(some 18, .bin .add (.t 7) (.c (.int .i64 1))),(some 7, .mv (.t 18))]⟩] [0,5,6,7]) (znr fun e fr=>e= .normal∧fr=hd1 yv v n (i+1)) ⟨hd1 yv v n i,[],[],PH.no⟩:=by
 unfold hd1
 simp (maxSteps:=2000000) only [zm,zc,zb,zh,ze,za,zj,ev,look,zd,zg,zk,zO,zP,Value.oneCell',cond_true,Nat.reduceEqDiff,↓reduceIte,reduceCtorEq,Bool.true_and,true_and]
 rw [zaN (by omega)]
 exact ⟨.inl rfl,rfl,_,zjC rfl,⟨rfl,rfl⟩,fun t x hx=>by simpa using hx⟩
theorem o1_cB (w:World) (ui:PH) (hu:ui.le w) {yv:Value} {b0 o0 c:Nat} {xs:List Done} (hS:SlR ui (.slice (some ⟨b0,o0,none⟩) xs.length c) 22 (xs.map zan)) {i:Nat} (hi:i<xs.length):
  vc (cw Tryz.prog 19 w) (.rg [⟨none,[(some 9, .idxS (.t 5) (.t 7) 22),(some 10, .ld (.t 9) 22 true),(some 4, .new 97 (zan zbe)),(none, .st (.t 4) (.t 10) 22)]⟩] [0,4,5,6,7])
   (fun e τ=>e= .normal∧τ.ph=[]∧zbN (cw Tryz.prog 19 w) [⟨none,[(some 11, .mv (.t 0)),(some 12, .fldA (.t 4) 0 0),(some 13, .ld (.t 12) 8 true),(some 14, .fldA (.t 4) 1 8),(some 15, .ld (.t 14) 1 false)]⟩]
    (fun τ=>τ.ph=[]∧∀t x,look ([(11, .g (.s yv)),(13, .g (gOp (xs.getD i zbe).op)),(15, .g (.s (.bool (xs.getD i zbe).taken)))]++hd1 yv (.slice (some ⟨b0,o0,none⟩) xs.length c) xs.length i) t=some x→look τ.fr t=some x) τ) ⟨hd1 yv (.slice (some ⟨b0,o0,none⟩) xs.length c) xs.length i,[],[],PH.no⟩:=by
 have hk:∀{l:List PH},KN (⟨Tryz.prog,19,w,PH.no⟩:Ctx).u0 l ui:=zdy hu
 rcases hS.shape with ⟨h1,_⟩|⟨_,b,o,c',h2,h3,h4⟩
 ·have:xs=[]:=by simpa using h1
  subst this;simp at hi
 simp only [Value.slice.injEq,Option.some.injEq,List.length_map]at h2 h3
 obtain ⟨h2,_,rfl⟩:=h2
 cases h2
 have hseen:=fun {C:Ctx} {ph:List PH} {m:PH} (hu:KN C.u0 (m::ph) ui)=>h4 hu i (zan (xs.getD i zbe)) (by rw [List.getElem?_map,List.getD_eq_getElem?_getD,List.getElem?_eq_getElem hi];rfl)
 generalize xs.getD i zbe=q at hseen ⊢
 unfold hd1
 simp (maxSteps:=2000000) only [zm,zb,zh,ze,za,zj,ev,look,zd,zdh,Nat.reduceEqDiff,↓reduceIte,reduceCtorEq,List.nil_append,List.cons_append,Nat.add_zero,Int.toNat_natCast]
 refine ⟨⟨by omega,by omega⟩,zJ _ (hseen hk) rfl ?_⟩
 simp (maxSteps:=2000000) only [zc,zb,ze,za,zj,ev,look,zZ,zd,zS,zg,zk,GV.getT,Nat.reduceEqDiff,↓reduceIte,reduceCtorEq,List.nil_append,Bool.and_true,Bool.true_and,Bool.not_false,true_and,and_true,zn,zY,zF,zbp,zgl,zpO,zia,zeN,zir,zhZ]
 intro t x hx
 (repeat' split at hx)<;>simp_all
theorem zCi (w:World) {yv v:Value} {n i:Nat} {b:Bool}:
  zbN (cw Tryz.prog 19 w) [⟨none,[(some 17, .un .not (.t 16))]⟩] (fun τ=>τ.ph=[]∧∀t x,look ((17, .g (.s (.bool !b)))::hd1 yv v n i) t=some x→look τ.fr t=some x) ⟨(16, .g (.s (.bool b)))::hd1 yv v n i,[],[],PH.no⟩:=by
 unfold hd1
 simp (maxSteps:=2000000) only [zb,zh,ze,za,zj,ev,look,zd,unV,↓reduceIte,Bool.true_and,true_and]
 intro t x hx
 (repeat' split at hx)<;>simp_all
theorem zst {yv v:Value} {n i:Nat} {t:Nat} {x:SV} (h:look (hd1 yv v n i) t=some x):t=0∨t=5∨t=6∨t=7:=by
 simp only [hd1,look]at h
 split at h
 ·exact .inl ‹_›
 ·split at h
  ·exact .inr (.inl ‹_›)
  ·split at h
   ·exact .inr (.inr (.inl ‹_›))
   ·split at h
    ·exact .inr (.inr (.inr ‹_›))
    ·cases h
theorem zpX {pre fr:List (Nat×SV)} {t:Nat} {x:SV} (h:look fr t=some x) (hn:look pre t=none):look (pre++fr) t=some x:=by
 rw [zjO,hn,h];rfl
theorem Slots.sub {N:Nat} {fr fr':List (Nat×SV)} {a:Act} (h:Slots N fr a) (hs:∀t x,look fr' t=some x→look fr t=some x):Slots N fr' a:=⟨h.defers,h.size,fun t x hx=>h.at' t x (hs t x hx)⟩
theorem zyL (ui:PH) {b:Nat} {e:TypeId} {v:Value} {xs:List Done} (hb:ui b=some (.cells #[v] e (0,0))) (hS:SlR ui v 22 (xs.map zan)) (hl:xs.length≤9223372036854775800):
  Iter Tryz.prog zcg [ptr b] ui (xs.map zyy):=by
 intro l J Jx W hu hJ hJx hY h0
 obtain ⟨yv,hyv⟩:∃yv:Value,yv= .func (.yield l) #[] #[]:=⟨_,rfl⟩
 have hy1:yv.oneCell'=true:=by rw [hyv];rfl
 obtain ⟨a0,c0,hv⟩:=zch hS
 rw [List.length_map]at hv
 have hbody:Tryz.f61.body=some o1W:=by kernel_rfl
 refine callsIn_of_wp_marks Tryz.func61 hbody trivial ?_ rfl
 have fin:∀(fr:List (Nat×SV)) (a:Act) (w:World),Slots 19 fr a→(J xs.length w∨Jx w)→LeavesInM Fence.wide 0 Tryz.prog Tryz.f61 a.tmps (fun e W'=>(∃v,e= .returned v)∧(J (xs.map zyy).length W'∨Jx W')) a.defers .returning w:=fun fr a w hs h=>by
  rw [hs.defers]
  have hres:=(znP (fn:=Tryz.f61) (hs.rel (P:=Tryz.prog) w) (rv:=[]) (rs:=[]) (by kernel_rfl) rfl).2
  exact ⟨_,hres,⟨_,rfl⟩,by rw [List.length_map];exact h⟩
 have hN:Tryz.f61.ntmps=19:=by kernel_rfl
 have hs0:Slots 19 [(0, .g (.s yv)),(1, .g (.s (.pointer (some ⟨b,0,none⟩))))] {tmps:= #[Value.func (.yield l) #[] #[]]++[ptr b].toArray++Array.replicate (Tryz.f61.ntmps - (#[Value.func (.yield l) #[] #[]]++[ptr b].toArray).size) undef,defers:=[]}:=by
  refine ⟨rfl,by rw [hN];simp,fun t x hx=> ?_⟩
  simp only [look]at hx
  split at hx
  ·rename_i ht;subst ht;cases hx;exact ⟨_,rfl,hy1,by rw [hyv];simp [GV.val]⟩
  ·split at hx
   ·rename_i ht;subst ht;cases hx;exact ⟨_,rfl,rfl,by simp [GV.val,ptr]⟩
   ·cases hx
 rw [zzy]
 refine wpIn_seq (zAy (P:=Tryz.prog) (N:=19) (ns:=[]) (cd:= .rg [⟨none,[(some 5, .ld (.t 1) 1 false),(some 6, .len (.t 5)),(some 7, .mv (.c (.int .i64 0)))]⟩] [0,5,6,7]) (by kernel_rfl) rfl (by kernel_rfl) hs0 (o1_c0 W ui hu hv hb) fun e fr' a1 W1 hR hs1 hk1 _=> ?_)
 obtain ⟨rfl,rfl⟩:=hR
 have keep:∀{w w':World},ui.le w→Kept PH.no w w'→ui.le w':=fun {w w'} h hk b o hb=>by
  have:=h b o hb
  rw [hk.2.2.2.2 b (Array.getElem?_eq_some_iff.1 this).1 rfl];exact this
 refine wpIn_block (wpIn_loop_ghost (fun k a w=>∃i,i≤xs.length∧k=xs.length - i∧Slots 19 (hd1 yv v xs.length i) a∧ui.le w∧J i w) xs.length ⟨0,by omega,by omega,hs1,keep hu hk1,hJ 0 W W1 h0 hk1⟩ ?_)
 rintro k a w ⟨i,hi,rfl,hs,hui,hj⟩
 refine wpIn_seq (zAy (P:=Tryz.prog) (N:=19) (ns:=[]) (cd:= .rg [⟨none,[(some 8, .bin .lss (.t 7) (.t 6))]⟩] [0,5,6,7,8]) (by kernel_rfl) rfl (by kernel_rfl) hs (o1_cA w) fun e fr' a2 w2 hR hs2 hk2 _=> ?_)
 obtain ⟨rfl,rfl⟩:=hR
 have hui2:=keep hui hk2
 have hj2:=hJ i w w2 hj hk2
 refine wpIn_seq (wpIn_cond_split (t:=decide ((i:Int)<xs.length)) (ziv hs2 rfl) (fun ht=>wpIn_skip ?_) (fun ht=>wpIn_exit ?_))
 ·have hlt:i<xs.length:=by simpa using ht
  obtain ⟨b1,o1,c1,rfl⟩:∃b1 o1 c1,v= .slice (some ⟨b1,o1,none⟩) xs.length c1:=by
   rcases hS.shape with ⟨h1,_⟩|⟨_,b1,o1,c1,h2,_⟩
   ·have:xs=[]:=by simpa using h1
    subst this;simp at hlt
   ·rw [List.length_map]at h2
    exact ⟨b1,o1,c1,h2⟩
  have hs2':Slots 19 (hd1 yv (.slice (some ⟨b1,o1,none⟩) xs.length c1) xs.length i) a2:=hs2.sub fun t x hx=>zpX (pre:=[(8,_)]) hx (by rcases zst hx with rfl|rfl|rfl|rfl<;>rfl)
  refine wpIn_seq (wpIn_block (wpIn_seq ?_))
  have hcB:=zeH (C:=cw Tryz.prog 19 w2) [] none _ (atL o1S) _ _ a2 w2 (by kernel_rfl) rfl (by kernel_rfl) (fun σ h=>by cases h.1) (o1_cB w2 ui hui2 hS hlt) (hs2'.rel w2)
  refine wpIn_mono hcB fun e a3 w3 hq=> ?_
  obtain ⟨τ,⟨rfl,hph,hseg⟩,hrel⟩:=hq
  refine wpIn_seq (zyN (P:=Tryz.prog) (N:=19) (C:=cw Tryz.prog 19 w2) rfl rfl zvN.1 zvN.2.1 zvN.2.2 5 16 11 l o1o o1c o1_o zmf.1 zmf.2.1 zmf.2.2.1 zmf.2.2.2.1 _ [⟨none,[(some 17, .un .not (.t 16))]⟩] (by kernel_rfl) (by kernel_rfl) hrel _ hseg ?_)
  rintro τ1 a4 w4 ⟨hp1,hl1⟩ hr1
  obtain ⟨hs4,hk4⟩:=hr1.slots hp1 (zjC rfl) hl1
  refine ⟨by rw [←hyv];exact ziv hs4 rfl, ?_⟩
  have hargs:o1c.args.map a4.eval=(zyy (xs.getD i zbe)).toArray:=by
   rw [zmf.2.2.2.2]
   simp only [List.map_toArray,List.map_cons,List.map_nil]
   rw [zon hs4 (t:=13) rfl,zon hs4 (t:=15) rfl]
   rfl
  rw [hargs]
  have hget:(xs.map zyy)[i]? =some (zyy (xs.getD i zbe)):=by
   rw [List.getElem?_map,List.getD_eq_getElem?_getD,List.getElem?_eq_getElem hlt];rfl
  obtain ⟨fn,tmps,assign,body,hy,hround⟩:=hY i _ w4 hget (hJ i w2 w4 hj2 hk4)
  refine ⟨fn,tmps,assign,body,hy,hround.mono fun e w5 he=> ?_⟩
  have zes:∀bb:Bool,Slots 19 ((16, .g (.s (.bool bb)))::hd1 yv (.slice (some ⟨b1,o1,none⟩) xs.length c1) xs.length i) (a4.put (some 16) (.bool bb)):=fun bb=>by
   refine ⟨hs4.defers,by simp [Act.put,hs4.size],fun t x hx=> ?_⟩
   simp only [look]at hx
   split at hx
   ·rename_i ht;subst ht;cases hx
    exact ⟨_,rfl,rfl,by simp only [Act.put];rw [Array.getElem?_setIfInBounds_self_of_lt (by rw [hs4.size];omega)];rfl⟩
   ·rename_i ht
    obtain ⟨g,rfl,h1,h2⟩:=hs4.at' t x (zpX hx (by rcases zst hx with rfl|rfl|rfl|rfl<;>rfl))
    exact ⟨g,rfl,h1,by simp only [Act.put];rw [Array.getElem?_setIfInBounds_ne (fun e=>ht e.symm)];exact h2⟩
  rcases he with ⟨rfl,hj5,hui5⟩|⟨rfl,hjx⟩
  ·refine ⟨true,rfl,_,_,zes true,zCi w5,fun τ2 a5 w6 hq2 hr2=> ?_⟩
   obtain ⟨hs6,hk6⟩:=hr2.slots hq2.1 (zjC rfl) hq2.2
   refine wpIn_cond_split (t:= !true) (ziv hs6 rfl) (fun ht=>by cases ht) (fun ht=>wpIn_skip ?_)
   have hs6':Slots 19 (hd1 yv (.slice (some ⟨b1,o1,none⟩) xs.length c1) xs.length i) a5:=hs6.sub fun t x hx=>zpX (pre:=[(17,_)]) hx (by rcases zst hx with rfl|rfl|rfl|rfl<;>rfl)
   refine zAy (P:=Tryz.prog) (N:=19) (ns:=[]) (cd:= .rg [⟨none,[(some 18, .bin .add (.t 7) (.c (.int .i64 1))),(some 7, .mv (.t 18))]⟩] [0,5,6,7]) (code:=atR o1R) (by kernel_rfl) rfl (by kernel_rfl) hs6' (o1_cE w6 hl hlt) fun e fr' a7 w7 hR hs7 hk7 _=> ?_
   obtain ⟨rfl,rfl⟩:=hR
   exact ⟨xs.length - (i+1),by omega,i+1,by omega,rfl,hs7,keep (keep hui5 hk6) hk7,hJ _ _ _ (hJ _ _ _ hj5 hk6) hk7⟩
  ·refine ⟨false,rfl,_,_,zes false,zCi w5,fun τ2 a5 w6 hq2 hr2=> ?_⟩
   obtain ⟨hs6,hk6⟩:=hr2.slots hq2.1 (zjC rfl) hq2.2
   refine wpIn_cond_split (t:= !false) (ziv hs6 rfl) (fun ht=>wpIn_ret ?_) (fun ht=>by cases ht)
   exact fin _ a5 w6 hs6 (.inr (hJx _ _ hjx hk6))
 ·have hge:i=xs.length:=by
   have:¬(i:Int)<xs.length:=by simpa using ht
   omega
  exact fin _ a2 w2 hs2 (.inl (hge▸hj2))
end Go.Proofs.YtmjiojflncffeaaGreat.Vc

set_option linter.unusedVariables false
set_option linter.unusedSimpArgs false
namespace Go.Proofs.YtmjiojflncffeaaGreat.Vc
open Go Go.Shelf
section
variable {C:Ctx} {σ:SS} {a:Act} {w:World} {K:KT}
theorem Rel.ownBox (h:Rel C σ a w) {t:Nat} (k:Nat) {v:Value} {g:GV} {u m':PH} (ht:look σ.fr t=some (.g (.s v))) (hk:look σ.pv k=none) (hp:PtO u v g) (hm:σ.m=uni u m') (hd:dis u m'):
  Rel C ⟨(t, .ref k [])::σ.fr,(k, .box g)::σ.pv,σ.ph,m'⟩ a w:=by
 obtain ⟨loc,hF,hH⟩:=h
 obtain ⟨v',hv,hvs⟩:=hF.slots t _ ht
 have hvv:v'=v:=hvs.2
 subst hvv
 have hmle:∀j,σ.m j=none→m' j=none:=fun j hj=>by
  rw [hm]at hj
  cases h1:m' j with
  |none=>rfl
  |some o=>simp [uni,h1]at hj
 have hm'le:∀j o,m' j=some o→σ.m j=some o:=fun j o hj=>by
  rw [hm];exact zao hd j o hj
 obtain ⟨hok,b0,e,hv0,hu⟩:=hp
 have hub:u b0=some (.cells g.flat.toArray e (0,0)):=by rw [hu];simp [one]
 have hmb:σ.m b0=some (.cells g.flat.toArray e (0,0)):=by rw [hm];simp [uni,hub]
 have hb:w.heap[b0]? =some (.cells g.flat.toArray e (0,0)):=hH.mle b0 _ hmb
 have hoff:g.offs []=0:=by cases g<;>rfl
 have hget:g.get []=some g:=by cases g<;>rfl
 refine ⟨fun j=>if j=k then some (b0,0,0)else loc j,⟨hF.defers,hF.size,fun s x hx=> ?_⟩,⟨hH.kept,fun j y hj=> ?_,fun j j' y y' b o c o' c' g1 g2 g3 g4 g5 g6=> ?_,fun j y b o c g1 g2 g3=> ?_,fun j o hj=>hH.mle j o (hm'le j o hj),fun j hj=>hH.mmine j (fun e=>hj (hmle j e)),fun u' hu=>⟨(hH.phs u' hu).1,fun j hj=>⟨((hH.phs u' hu).2 j hj).1,hmle j ((hH.phs u' hu).2 j hj).2⟩⟩⟩⟩
 ·simp only [look]at hx
  split at hx
  ·rename_i e1;subst e1
   simp at hx;subst hx
   exact ⟨v',hv,g,b0,0,g,by simp [look],by simp,hget,by rw [hoff];exact hv0⟩
  ·obtain ⟨v2,hv2,hr2⟩:=hF.slots s x hx
   refine ⟨v2,hv2,hr2.weaken fun j hj=> ?_⟩
   have hjk:j≠k:=fun e=>hr2.there j hj (e▸hk)
   exact ⟨by simp [hjk],by simp [look,hjk]⟩
 ·simp only [look]at hj
  split at hj
  ·rename_i e1;subst e1
   simp at hj;subst hj
   exact ⟨hok,b0,0,e,by simp,hb⟩
  ·rename_i hjk
   have hp:=hH.pvs j y hj
   cases y with
   |box g=>simpa [PVr,hjk]using hp
   |row e' z' df' xs'=>simpa [PVr,hjk]using hp
   |ro z' df' xs'=>simpa [PVr,hjk]using hp
 ·simp only [look]at g1 g4
  by_cases hj:j=k
  ·by_cases hj':j'=k
   ·rw [hj,hj']
   ·simp only [hj,if_true]at g3
    simp only [hj',if_false]at g4 g6
    have e2:=(hH.priv j' y' b o' c' g4 g5 g6).2.1
    simp only [Option.some.injEq,Prod.mk.injEq]at g3
    rw [←g3.1,hmb]at e2;cases e2
  ·simp only [hj,if_false]at g1 g3
   by_cases hj':j'=k
   ·simp only [hj',if_true]at g6
    have e2:=(hH.priv j y b o c g1 g2 g3).2.1
    simp only [Option.some.injEq,Prod.mk.injEq]at g6
    rw [←g6.1,hmb]at e2;cases e2
   ·simp only [hj',if_false]at g4 g6
    exact hH.apart j j' y y' b o c o' c' g1 g2 g3 g4 g5 g6
 ·simp only [look]at g1
  by_cases hj:j=k
  ·simp only [hj,if_true,Option.some.injEq,Prod.mk.injEq]at g3
   obtain ⟨rfl,_,_⟩:=g3
   have hmb':σ.m b0≠none:=by rw [hmb];simp
   refine ⟨hH.mmine b0 hmb',(hd b0).resolve_left (by rw [hub];simp),fun u' hu'=> ?_⟩
   cases hub':u' b0 with
   |none=>rfl
   |some x=>exact absurd ((hH.phs u' hu').2 b0 (by simp [hub'])).2 hmb'
  ·simp only [hj,if_false]at g1 g3
   obtain ⟨e1,e2,e3⟩:=hH.priv j y b o c g1 g2 g3
   exact ⟨e1,hmle b e2,e3⟩
end
end Go.Proofs.YtmjiojflncffeaaGreat.Vc

set_option linter.unusedVariables false
set_option linter.unusedSimpArgs false
set_option maxRecDepth 100000
namespace Go.Proofs.YtmjiojflncffeaaGreat.Vc
open Go Go.Proofs
theorem LHist.flags {mk:Value} {B:PT} {i0 ids:List Int} {ds:List Done} (h:LHist mk B i0 ds ids):zcR B (ds.map (·.op))=ds.map (·.taken):=by
 induction h with
 |nil=>rfl
 |no h hm ih=>rw [List.map_append,List.map_append,List.map_singleton,zgU,ih,hm];rfl
 |yes h hm _ _ _ ih=>rw [List.map_append,List.map_append,List.map_singleton,zgU,ih,hm];rfl
theorem zwH:(zwL zbF).toList=[63,64]:=by kernel_rfl
theorem zzO:zbF= .rangeFunc (.tmp 62) (zwL zbF) (zvG zbF) (zxi zbF):=by kernel_rfl
theorem zrd:zde (zvG zbF)=true∧zde (zxi zbF)=true:=⟨by kernel_rfl,by kernel_rfl⟩
theorem zyF (ds:List Done):(ds.map zvM).map (fun x=>x.map GV.val)=ds.map zyy:=by rw [List.map_map];rfl
theorem zyX {ds:List Done} {n:Nat} (hn:n=2):∀x∈ds.map zvM,x.length=n:=fun x hx=>by
 obtain ⟨d,_,rfl⟩:=List.mem_map.1 hx
 rw [hn];rfl
theorem zAp {ds:List Done}:∀x∈ds.map zvM,∀g∈x,g.ok:=fun x hx g hg=>by
 obtain ⟨d,_,rfl⟩:=List.mem_map.1 hx
 simp only [zvM,List.mem_cons,List.not_mem_nil,or_false]at hg
 rcases hg with rfl|rfl
 ·exact zcS _
 ·rfl
theorem zjp {C:Ctx} {ph:List PH} {m u:PH} {b:Nat} {e:TypeId} {g:GV} (hu:u∈ph) (hb:u b=some (.cells g.flat.toArray e (0,0))) (hg:g.ok):zce C ph m b 0 g:=
 zpc (KN.mem (List.mem_cons_of_mem _ hu)) hb hg fun j v hj=>by simpa using hj
theorem zuc (x:Op):kin (gOp x) (gOp zOp):=⟨zkU x.stamp,rfl,rfl,rfl,trivial,trivial,trivial,trivial⟩
theorem zCH (x:Op):EqG Tryz.prog 26 (gOp x) (gOp x) true:=by
 have:=zwf (P:=Tryz.prog) (t:=26) (z:=gOp zOp) (by kernel_rfl) (by kernel_rfl) rfl (zuc x) (zuc x) (zcS x) (zcS x)
 rwa [show ziC (gOp x) (gOp x)=true from by simp [ziC,gOp,zaA,ztN]]at this
theorem zzv {w':World} {u1 u2:PH} {vx vy:Value} {tx ty:List TreeNode} {l1 l2:List TN} (e:l1=l2) (h1:SlR u1 vx 4 (tx.map zl)) (h2:SlR u2 vy 4 (ty.map zl)) (t1:TsOk u1 tx l1) (t2:TsOk u2 ty l2) (s1:PH.sub u1 w'.ph) (s2:PH.sub u2 w'.ph) (hn:l1.length≤1099511627776) (ha:∀r∈l1,r.attrs.length≤1099511627776):
  Spec Tryz.prog zlv [vx,vy] PH.no w' fun rs _=>rs=[.s (.bool true)]:=by
 have:=zwB w' vx vy tx ty _ _ w'.ph (fun _ _ h=>h) (h1.up s1) (h2.up s2) (t1.up s1) (t2.up s2) (by rw [t1.len];omega) (fun t ht=>by have:=ha t ht;omega)
 rw [decide_eq_true e]at this
 exact this
set_option maxHeartbeats 4000000 in
theorem zyq (w:World) (u:PH) (hu:u.le w) (b:Nat) (L Lb:Lay) (p:PL) (hL:LogM u b L Lb p) {mk:Value} {kb q:Nat} (hg:p.good mk kb q) (hq:q+4<1099511627776) (hfew:p.ds.length≤1048576) (hkb:kb≤1048576)
  (u2:PH) (hu2:u2.le w) (b2:Nat) (bv:Value) (hR:RLog u2 b2 bv p.fr (p.ds.map (·.op))) (ts:List TreeNode) (l:List TN) (U:PH) (hU:U.le w) (hb:RowsIn U bv ts l 1048576) (hf:zeD l) (hv:p.B.view=zdw l):
  Spec Tryz.prog zws [ptr b,ptr b2, .int .i64 0] PH.no w fun rs _=>rs=[.s (.bool true)]:=by
 refine zbb zwZ [.g (.s (ptr b)), .g (.s (ptr b2)), .g (.s (.int .i64 0))] (by simp) (by simp [AV.ok,GV.ok,Value.oneCell',ptr]) ?_
 have hB:=hg.bok.up hkb
 have hops:∀op∈p.ds.map (·.op),zeP op:=fun op h=>by
  obtain ⟨d,hd,rfl⟩:=List.mem_map.1 h
  exact hg.ops d hd
 have hlo:(p.ds.map (·.op)).length=p.ds.length:=List.length_map _
 have hTv:p.T.view=(zbm p.B (p.ds.map (·.op))).view:=hg.fl.view
 have hI:=zeB hB hops
 have hIg:=zgc hB hg.bgood hops
 rw [hlo]at hI
 obtain ⟨ov,hSo,hs⟩:=hR.look
 obtain ⟨a2,c2,rfl⟩:=zch hSo
 have hlm:((p.ds.map (·.op)).map gOp).length=p.ds.length:=by rw [List.length_map,hlo]
 rw [hlm]at hSo hs
 simp (maxSteps:=2000000) only [zpT,ptr,zi,zm,zf,zc,zb,zh,ze,za,zj,ev,look,zZ,zd,zg,zk,GV.getT,Nat.reduceEqDiff,Nat.reduceAdd,↓reduceIte,reduceCtorEq,Nat.zero_add,Bool.true_and,Bool.not_false,true_and,zak,zaK,Int.reduceAdd,zF,ptr]
 refine zbV rfl rfl (Q:=zvU (zbm p.B (p.ds.map (·.op))) (zcR p.B (p.ds.map (·.op)))) (fun w' vs hvv hw _ hm=> ?_) fun rs mt _ hq=> ?_
 ·obtain ⟨vs,rfl,_,hvv⟩:=zt hvv
  obtain rfl:=zr hvv
  have h0:∀b o,w.ph b=some o→w'.heap[b]? =some o:=fun b o h=>hw b o (by rw [zbr];exact h)
  exact zmx w' u2 (fun b o h=>h0 b o (hu2 b o h)) b2 bv p.fr _ hR ts l U (fun b o h=>h0 b o (hU b o h)) hb hf p.B hB hg.bgood hv (by omega) hops
 obtain ⟨bt,vf,mtt,mv,lr,ls,rfl,rfl,hdt,hRC,hLk,hvw,hSf⟩:=hq
 simp (maxSteps:=2000000) only [zK,List.getElem?_cons_zero,List.getElem?_cons_succ,zi,zm,zf,zc,zb,zh,ze,za,zj,ev,look,zZ,zd,zS,zg,zk,GV.getT,GV.sz,GV.same,GV.setT,Nat.reduceEqDiff,↓reduceIte,reduceCtorEq,Bool.and_true,Bool.true_and,true_and,and_true,ptr]
 refine zbV rfl rfl (Q:=fun rs m'=>∃L' T',rs=[.s (ptr (L' .t))]∧TM m' L' T'∧T'.ok (q+2)∧VGood T'.view∧T'.kidsOk∧T'.view=p.T.view) (fun w' vs hvv hw _ hm=> ?_) fun rs mT _ hq=> ?_
 ·obtain ⟨vs,rfl,_,hvv⟩:=zt hvv
  obtain rfl:=zr hvv
  exact zlt (fun b o h=>hw b o (by rw [zbr];exact hu b o h)) hL hg hq
 obtain ⟨L',T',rfl,hT',hok',hgd',_,hvT⟩:=hq
 simp (maxSteps:=2000000) only [zK,zi,zeS,zf,zc,zb,zh,ze,za,zsF,zhh,zcJ,zbg,zdp,zj,ev,look,zd,zg,zk,Value.oneCell',cond_true,Nat.reduceEqDiff,↓reduceIte,reduceCtorEq,Bool.and_true,Bool.true_and,true_and,and_true,ptr]
 refine zcH (ztu _) ?_
 simp (maxSteps:=2000000) only [zb,zh,zH,ze,za,zhh,zhR,zcJ,zhV,zbg,zlF,ldH,zdp,List.contains_cons,List.contains_nil,Bool.or_false,zj,ev,look,zd,GV.getT,Nat.reduceEqDiff,↓reduceIte,reduceCtorEq,Nat.zero_add,Bool.and_true,Bool.true_and,Bool.not_false,BEq.rfl,true_and,and_true,↓zbi,Bool.bne_false,zF]
 refine ⟨_,(hs (zdy hu2)).2.1,rfl, ?_⟩
 refine zaM _ [.s (.int .i64 p.fr)] rfl rfl (fun w' vs hvv hw _ hm=> ?_) ?_
 ·obtain ⟨vs,rfl,_,hvv⟩:=zt hvv
  obtain rfl:=zr hvv
  exact znI (fun b o h=>hw b o (by rw [zbr];exact hu b o h)) hL
 simp (maxSteps:=2000000) only [zK,bne_self_eq_false,zb,zh,zH,ze,za,zhh,zhR,zcJ,zhV,zbg,zlF,ldH,zdp,List.contains_cons,List.contains_nil,Bool.or_false,zj,ev,look,zd,zO,zP,GV.getT,Value.oneCell',cond_true,Nat.reduceEqDiff,↓reduceIte,reduceCtorEq,Nat.zero_add,Bool.and_true,Bool.true_and,Bool.not_false,BEq.rfl,true_and,and_true,↓zbi,↓zN,zF]
 refine ⟨_,(hs (zdy hu2)).2.2,rfl, ?_⟩
 simp (maxSteps:=2000000) only []
 refine zaM _ [.s (.int .i64 p.ds.length)] rfl rfl (fun w' vs hvv hw _ hm=> ?_) ?_
 ·obtain ⟨vs,rfl,_,hvv⟩:=zt hvv
  obtain rfl:=zr hvv
  exact zjh (fun b o h=>hw b o (by rw [zbr];exact hu b o h)) hL
 simp (maxSteps:=2000000) only [zK,bne_self_eq_false,zb,zh,zH,ze,za,zhh,zcJ,zbg,zdp,zj,ev,look,zd,zO,zP,Value.oneCell',cond_true,Nat.reduceEqDiff,↓reduceIte,reduceCtorEq,Bool.and_true,Bool.true_and,true_and,and_true,↓zbi,↓zN]
 have hpl:zae T'=zdM lr:=(zqC hLk (by rw [hvw,←hTv,hvT]) hok' hgd').symm
 obtain ⟨hb1,hb2⟩:=zjy hLk hvw hI hIg
 refine zbV rfl rfl (Q:=fun rs m'=>∃v ts,rs=[.s v]∧SlR m' v 4 (ts.map zl)∧TsOk m' ts (zae T')) (fun w' vs hvv _ hph _=> ?_) fun rs mx _ hq=> ?_
 ·obtain ⟨vs,rfl,_,hvv⟩:=zt hvv
  obtain rfl:=zr hvv
  exact zxl (hph mT (by simp)) hT' hok' (by omega)
 obtain ⟨vx,tx,rfl,hsx,htx⟩:=hq
 simp (maxSteps:=2000000) only [zK,zb,zH,ze,za,zhh,zcJ,zbg,zyd,zj,look,zd,Nat.reduceEqDiff,↓reduceIte,reduceCtorEq,Bool.and_true,Bool.true_and,true_and,and_true,↓zbi]
 refine zbV rfl rfl (Q:=fun rs m'=>∃v ts,rs=[.s v]∧SlR m' v 4 (ts.map zl)∧TsOk m' ts (zdM lr)) (fun w' vs hvv hw hph _=> ?_) fun rs my _ hq=> ?_
 ·obtain ⟨vs,rfl,_,hvv⟩:=zt hvv
  obtain rfl:=zr hvv
  obtain ⟨m1',A,hmR,hdA,hRM⟩:=hRC
  have s0:PH.sub mtt w'.ph:=fun b o h=>hph (uni mtt mv) (by simp) b o (zV _ _ b o h)
  exact znS w' A m1' (fun b o h=>s0 b o (by rw [hmR];exact zV _ _ b o h)) (fun b o h=>s0 b o (by rw [hmR];exact zao hdA b o h)) bt lr ls hRM (by omega) fun t ht=>by have:=hb2 t ht;omega
 obtain ⟨vy,ty,rfl,hsy,hty⟩:=hq
 simp (maxSteps:=2000000) only [zK,zb,zH,ze,za,zhh,zcJ,zbg,zrQ,zj,look,zd,Nat.reduceEqDiff,↓reduceIte,reduceCtorEq,Bool.and_true,Bool.true_and,true_and,and_true,↓zbi]
 have hlx:=zhn T'
 have hmx:=hok'.many
 refine zaM _ [.s (.bool true)] rfl rfl (fun w' vs hvv _ hph _=> ?_) ?_
 ·obtain ⟨vs,rfl,_,hvv⟩:=zt hvv
  obtain ⟨vs,rfl,_,hvv⟩:=zt hvv
  obtain rfl:=zr hvv
  exact zzv hpl hsx hsy htx hty (hph mx (by simp)) (hph my (by simp)) (by omega) fun r hr=>by have:=zhk hok' hr;omega
 simp (maxSteps:=2000000) only [zK,zb,zh,zH,ze,za,zhh,zhR,zcJ,zhV,zbg,zlF,ldH,zrQ,List.contains_cons,List.contains_nil,Bool.or_false,zj,ev,look,zd,unV,GV.getT,Value.oneCell',cond_true,Nat.reduceEqDiff,↓reduceIte,reduceCtorEq,Bool.and_true,Bool.true_and,Bool.not_true,Bool.not_false,BEq.rfl,true_and,and_true,↓zbi,↓zN,zF]
 refine zbV rfl rfl (Q:=fun rs m'=>∃v ts,rs=[.s v]∧SlR m' v 4 (ts.map zl)∧TsOk m' ts (zae p.B)) (fun w' vs hvv hw _ hm=> ?_) fun rs mb _ hq=> ?_
 ·obtain ⟨vs,rfl,_,hvv⟩:=zt hvv
  obtain rfl:=zr hvv
  exact ziB (fun b o h=>hw b o (by rw [zbr];exact hu b o h)) hL hg (by omega)
 obtain ⟨vb,tb,rfl,hsb,htb⟩:=hq
 simp (maxSteps:=2000000) only [zK,zb,zH,ze,za,zhh,zcJ,zbg,zva,zj,look,zd,Nat.reduceEqDiff,↓reduceIte,reduceCtorEq,Bool.and_true,Bool.true_and,true_and,and_true,↓zbi]
 refine zbV rfl rfl (Q:=fun rs m'=>∃v ts',rs=[.s v]∧SlR m' v 4 (ts'.map zl)∧TsOk m' ts' (zae p.B)) (fun w' vs hvv hw _ hm=> ?_) fun rs mp _ hq=> ?_
 ·obtain ⟨vs,rfl,_,hvv⟩:=zt hvv
  obtain rfl:=zr hvv
  have h0:∀b o,w.ph b=some o→w'.heap[b]? =some o:=fun b o h=>hw b o (by rw [zbr];exact h)
  exact zqY w' u2 (fun b o h=>h0 b o (hu2 b o h)) b2 bv p.fr _ hR ts l U (fun b o h=>h0 b o (hU b o h)) hb hf p.B hB hg.bgood hv
 obtain ⟨vp,tp,rfl,hsp,htp⟩:=hq
 have hM4:HeldM PH.no [mT,uni mtt mv] PH.no [mp,mb,my,mx,mT,uni mtt mv]=True:=eq_true ⟨fun _ _ h=>h,fun _ h=>List.mem_cons_of_mem _ (List.mem_cons_of_mem _ (List.mem_cons_of_mem _ (List.mem_cons_of_mem _ h)))⟩
 simp (maxSteps:=2000000) only [zK,hM4,zb,zH,ze,za,zhh,zcJ,zbg,zj,look,zd,Nat.reduceEqDiff,↓reduceIte,reduceCtorEq,Bool.and_true,Bool.true_and,true_and,and_true,↓zbi]
 have hlb:=zhn p.B
 have hmb:=hB.many
 refine zaM _ [.s (.bool true)] rfl rfl (fun w' vs hvv _ hph _=> ?_) ?_
 ·obtain ⟨vs,rfl,_,hvv⟩:=zt hvv
  obtain ⟨vs,rfl,_,hvv⟩:=zt hvv
  obtain rfl:=zr hvv
  exact zzv rfl hsb hsp htb htp (hph mb (by simp)) (hph mp (by simp)) (by omega) fun r hr=>by have:=zhk hB hr;omega
 simp (maxSteps:=2000000) only [zK,hM4,zu,zi,zm,zq,zf,zc,zb,zh,zH,ze,za,zpf,zhh,zcJ,zbg,zj,ev,look,zd,zg,zk,unV,Value.oneCell',cond_true,Nat.reduceEqDiff,↓reduceIte,reduceCtorEq,Bool.and_true,Bool.true_and,Bool.not_true,true_and,and_true,↓zbi,↓zN]
 refine zbV rfl rfl (Q:=fun rs m'=>∃bo e v,rs=[.s (.func (.func zcg) #[] #[ptr bo])]∧m' bo=some (.cells #[v] e (0,0))∧SlR m' v 22 (p.ds.map zan)) (fun w' vs hvv hw _ hm=> ?_) fun rs mW _ hq=> ?_
 ·obtain ⟨vs,rfl,_,hvv⟩:=zt hvv
  obtain rfl:=zr hvv
  exact zAB (fun b o h=>hw b o (by rw [zbr];exact hu b o h)) hL (by omega)
 obtain ⟨bo,eo,vo,rfl,hbo,hso⟩:=hq
 simp (maxSteps:=2000000) only [zK,zi,zm,zf,zc,zb,zh,ze,za,zj,ev,look,zd,zg,zk,Nat.reduceEqDiff,↓reduceIte,reduceCtorEq,ptr]
 refine zgg (zcu 4 4 rfl rfl fun v4 u4 _ hp4 hd4=> ?_)
 refine zgg (zhp rfl hd4 ?_)
 refine zgg (zcu 5 5 rfl rfl fun v5 u5 _ hp5 hd5=> ?_)
 refine zgg (zhp rfl hd5 ?_)
 refine zgg (zcu 8 8 rfl rfl fun v8 u8 _ hp8 hd8=> ?_)
 refine zgg (zhp rfl hd8 ?_)
 refine zcu 6 6 rfl rfl fun v6 u6 _ hp6 hd6=> ?_
 obtain ⟨_,b4,e4,rfl,rfl⟩:=hp4
 obtain ⟨_,b5,e5,rfl,rfl⟩:=hp5
 obtain ⟨_,b8,e8,rfl,rfl⟩:=hp8
 obtain ⟨_,b6,e6,rfl,rfl⟩:=hp6
 generalize hu4:one b4 _=u4
 generalize hu5:one b5 _=u5
 generalize hu8:one b8 _=u8
 simp (maxSteps:=2000000) only [dropK,zaz,zB,zf,zc,zb,ze,za,zj,ev,look,zd,zg,zk,Value.oneCell',cond_true,cond_false,Nat.reduceEqDiff,Nat.reduceBEq,↓reduceIte,BEq.rfl,zbA,SV.mentions]
 generalize hu6:one b6 _=u6
 have g4:u4 b4=some (.cells (GV.s (.pointer (some ⟨b2,0,none⟩))).flat.toArray e4 (0,0)):=by rw [←hu4];exact zaE _ _
 have g5:u5 b5=some (.cells (GV.s (.int .i64 0)).flat.toArray e5 (0,0)):=by rw [←hu5];exact zaE _ _
 have g8:u8 b8=some (.cells (GV.s vf).flat.toArray e8 (0,0)):=by rw [←hu8];exact zaE _ _
 have hvf:vf.oneCell'=true:=hSf.one
 have hSr:SlR (uni mtt mv) vf 1 ((p.ds.map (·.taken)).map fun b=> .s (.bool b)):=by
  rw [←hg.fl.hist.flags]
  exact hSf.toR.up (zao hdt)
 have hlf:((p.ds.map (·.taken)).map fun b=>GV.s (.bool b)).length=p.ds.length:=by rw [List.length_map,List.length_map]
 obtain ⟨a3,c3,hv3⟩:=zch hSr
 rw [hlf]at hv3
 subst hv3
 refine zaP (ι:=Nat×List PH) (fun q=>⟨[(4, .g (.s (.pointer (some ⟨b4,0,none⟩)))),(5, .g (.s (.pointer (some ⟨b5,0,none⟩)))),(6, .g (.s (.pointer (some ⟨b6,0,none⟩)))),(8, .g (.s (.pointer (some ⟨b8,0,none⟩)))),(10, .g (.s (.func (.func zcg) #[] #[.pointer (some ⟨bo,0,none⟩)]))),(60, .g (.s (.int .i64 (q.1))))],[],q.2,u6⟩)
  (fun q=>q.1≤2∧u4∈q.2∧u5∈q.2∧u8∈q.2∧mW∈q.2∧uni mtt mv∈q.2) (fun q=>2 - q.1) (0,[u8,u5,u4,mW,mp,mb,my,mx,mT,uni mtt mv]) ⟨by simp,by simp,by simp,by simp,by simp,by simp⟩ (zR ?_ ?_ rfl rfl rfl) ?_
 ·simp [zaf,look]
 ·simp [zam,look]
 rintro ⟨i,ph0⟩ ⟨hi,m4,m5,m8,mWm,mF⟩
 simp only at hi m4 m5 m8 mWm mF
 generalize hQ:loopQ _ _ _ _ _=Q
 simp (maxSteps:=2000000) only [zkH,zu,zau,zi,zB,zm,zq,zf,zay,zc,zb,zh,ze,za,zj,ev,look,zZ,zd,zS,zg,zk,zO,zP,GV.getT,GV.sz,GV.setT,Value.oneCell',cond_true,Nat.reduceEqDiff,↓reduceIte,Bool.and_true,Bool.true_and,true_and,and_true,decide_eq_true_eq,decide_eq_false_iff_not,zax,zcT]
 refine ⟨fun hlt=> ?_,fun hge=> ?_⟩
 ·refine zcu 11 11 rfl rfl fun v11 u11 _ hp11 hd11=> ?_
  obtain ⟨_,b11,e11,rfl,rfl⟩:=hp11
  simp (maxSteps:=2000000) only [dropK,zB,zf,zc,zb,ze,look,zg,zk,cond_true,cond_false,Nat.reduceEqDiff,↓reduceIte,BEq.rfl,zbA,SV.mentions]
  refine zvE (ns:=[(3,999998),(16,10),(12,999998)]) (code:=zbF) (t:=62) (gf:=zcg) (lb:=[ptr bo]) (ui:=mW) (encs:=p.ds.map zvM) zzO rfl (enters_of Tryz.func61 (by kernel_rfl) rfl) (zjC rfl) mWm
   (by rw [zyF];exact zyL mW hbo hso (by omega)) (zyX (by have:=congrArg List.length zwH;simpa using this)) zAp (fun x hx=>by
    rw [zwH]at hx
    simp only [List.mem_cons,List.not_mem_nil,or_false]at hx
    show x<109
    rcases hx with rfl|rfl<;>decide)
   zhm zho ztB rfl zrd.1 ztx rfl zrd.2
   (fun n _ m=>m=uni (one b11 (.cells #[.int .i64 n] e11 (0,0))) u6) (fun _ _ _=>False) rfl ?_ ?_ ?_
  ·intro n x w' m' ph m hx hu0 hph hI
   subst hI
   rw [List.getElem?_map]at hx
   obtain ⟨d,hdi,rfl⟩:=Option.map_eq_some_iff.1 hx
   have hn:n<p.ds.length:=(List.getElem?_eq_some_iff.1 hdi).1
   rw [zwH]
   unfold zvM
   simp (maxSteps:=2000000) only [zhm,zeT,List.nil_append,List.cons_append,zi,zm,zf,zc,zb,zh,ze,za,zj,ev,look,zZ,zd,zS,zg,zk,Nat.reduceEqDiff,↓reduceIte,List.nil_append,List.cons_append,Bool.and_true,Bool.true_and,true_and,and_true,zn,zY,zaU,zbM,zfs,zcx]
   refine zgg (zcu 12 12 rfl rfl fun v12 u12 _ hp12 hd12=> ?_)
   refine zhp rfl hd12 ?_
   obtain ⟨_,b12,e12,rfl,rfl⟩:=hp12
   generalize hu12:one b12 (Obj.cells (gOp d.op).flat.toArray e12 (0,0))=u12
   have g12:u12 b12=some (.cells (gOp d.op).flat.toArray e12 (0,0)):=by rw [←hu12];exact zaE _ _
   simp (maxSteps:=2000000) only [dropK,zc,zb,ze,look,zg,zk,cond_true,cond_false,Nat.reduceEqDiff,↓reduceIte,BEq.rfl,zbA,SV.mentions]
   refine ⟨fun u hu=>List.mem_cons_of_mem _ hu,[(4, .g (.s (.pointer (some ⟨b4,0,none⟩)))),(5, .g (.s (.pointer (some ⟨b5,0,none⟩)))),(6, .g (.s (.pointer (some ⟨b6,0,none⟩)))),(8, .g (.s (.pointer (some ⟨b8,0,none⟩)))),(11, .g (.s (.pointer (some ⟨b11,0,none⟩)))),(12, .g (.s (.pointer (some ⟨b12,0,none⟩)))),(13, .g (.s (.bool d.taken)))],zjC rfl, ?_,fun w2 m2 hu2'=> ?_⟩
   ·intro t x hx
    simp only [look]at hx ⊢
    (repeat' split at hx)<;>simp_all
   have s11:∀{C:Ctx} {ph':List PH},zce C ph' (uni (one b11 (.cells #[.int .i64 n] e11 (0,0))) u6) b11 0 (.s (.int .i64 n)):=zaC zbY (zV _ _ _ _ (zaE _ _)) rfl rfl
   have s4:∀{C:Ctx} {m:PH},zce C (u12::ph) m b4 0 (.s (.pointer (some ⟨b2,0,none⟩))):=zjp (List.mem_cons_of_mem _ (hph u4 m4)) g4 rfl
   have s8:∀{C:Ctx} {m:PH},zce C (u12::ph) m b8 0 (.s (.slice a3 p.ds.length c3)):=zjp (List.mem_cons_of_mem _ (hph u8 m8)) g8 hvf
   have s12:∀{C:Ctx} {m:PH},zce C (u12::ph) m b12 0 (gOp d.op):=zjp List.mem_cons_self g12 (zcS _)
   have k2:∀{L:List PH},KN (⟨Tryz.prog,109,w2,m2⟩:Ctx).u0 L u2:=fun b o h=> .inl (hu2' b o (by rw [zbr];exact hu2 b o h))
   obtain ⟨bb,oo,rfl,_,_,hse⟩:=hSo.spot (by rw [hlm];omega)
   obtain ⟨bf,off,rfl,_,_,hsf⟩:=hSr.spot (by rw [hlf];omega)
   simp (maxSteps:=2000000) only [zho,zu,zi,zB,zm,zeS,zq,zf,zc,zb,zh,zH,ze,za,zsF,zpf,zhh,zuD,zhR,zcJ,zhV,zbg,ldH,zdp,zj,RO.isGh,zI,zar,ev,look,zd,zg,zk,zaF,zdh,zO,zP,Value.oneCell',cond_true,cond_false,Nat.reduceEqDiff,↓reduceIte,Bool.and_true,Bool.true_and,Bool.not_false,true_and,and_true,↓zL,↓zbi,↓zbW,zax,zdE]
   refine ⟨_,s11,rfl,_,s4,rfl, ?_⟩
   simp (maxSteps:=2000000) only [↓reduceIte,Nat.zero_add,decide_eq_true_eq,decide_eq_false_iff_not]
   refine ⟨_,(hs k2).2.2,rfl, ?_⟩
   simp (maxSteps:=2000000) only []
   refine ⟨fun _=> ?_,fun h=>absurd h (by omega)⟩
   refine ⟨_,s12,zbp _,_,s4,rfl, ?_⟩
   simp (maxSteps:=2000000) only [Nat.zero_add]
   refine ⟨_,(hs k2).2.2,rfl,_,s11,rfl, ?_⟩
   simp (maxSteps:=2000000) only [Int.toNat_natCast]
   refine ⟨⟨by omega,by omega⟩,gOp d.op,hse k2 n (gOp d.op) (by rw [List.getElem?_map,List.getElem?_map,hdi];rfl),zbp _,zcH (zCH d.op) ?_⟩
   simp (maxSteps:=2000000) only [bne_self_eq_false,zb,zh,zH,ze,za,zhh,zhR,zcJ,zhV,zbg,ldH,zdp,zj,ev,look,zd,zaF,Value.oneCell',cond_true,Nat.reduceEqDiff,↓reduceIte,Bool.and_true,Bool.true_and,true_and,and_true,↓zbi,↓zN]
   refine ⟨_,s8,rfl,_,s11,rfl, ?_⟩
   simp (maxSteps:=2000000) only [Int.toNat_natCast]
   refine ⟨⟨by omega,by omega⟩, .s (.bool d.taken),hsf (KN.mem (List.mem_cons_of_mem _ (List.mem_cons_of_mem _ (hph _ mF)))) n _ (by rw [List.getElem?_map,List.getElem?_map,hdi];rfl),rfl,zcH (zup Tryz.underlying4 _ _) ?_⟩
   simp (maxSteps:=2000000) only [beq_self_eq_true,bne_self_eq_false,zu,zi,zm,zq,zf,zc,zb,zh,ze,za,zpf,zhh,zcJ,zbg,zdp,zj,ev,look,zd,zg,zk,Value.oneCell',cond_true,Nat.reduceEqDiff,↓reduceIte,Bool.and_true,Bool.true_and,true_and,and_true,↓zN]
   refine zJ (.s (.int .i64 n)) s11 rfl ?_
   simp (maxSteps:=2000000) only [za,zj,ev,look,zd,zO,zP,Value.oneCell',cond_true,Nat.reduceEqDiff,↓reduceIte,Bool.true_and,true_and]
   refine zgi rfl #[.int .i64 n] e11 ⟨zV _ _ _ _ (zaE _ _),by simp⟩ ?_
   simp (maxSteps:=2000000) only [zi,zm,zf,zc,zb,zh,ze,za,zj,ev,look,zS,zg,zk,Nat.reduceEqDiff,↓reduceIte]
   have eW:zav #[Value.int .i64 n] 0 (GV.s (.int .i64 (IntKind.i64.wrap ((n:Int)+1)))).flat= #[Value.int .i64 ((n+1:Nat):Int)]:=by rw [zaN (by omega)];rfl
   rw [zbZ,eW]
   refine zJ (.s (.int .i64 ((n+1:Nat):Int))) (zaC zbY (zV _ _ _ _ (zaE _ _)) rfl rfl) rfl ?_
   simp (maxSteps:=2000000) only [za,zj,ev,look,zd,Nat.reduceEqDiff,↓reduceIte]
   refine zJ (.s (.int .i64 0)) (zjp (List.mem_cons_of_mem _ (hph u5 m5)) g5 rfl) rfl ?_
   simp (maxSteps:=2000000) only [zu,zau,zq,zf,zT,zat,zc,zb,ze,za,zj,ev,look,zd,zg,zk,zO,zP,Nat.reduceEqDiff,↓reduceIte,Bool.true_and,true_and,zax]
   refine ⟨fun h=>absurd h (by simp only [beq_iff_eq];omega),fun _=> ?_⟩
   exact ⟨fun u hu=>List.mem_cons_of_mem _ (hph u hu),rfl⟩
  ·intro uL ph m hph hI
   subst hI
   simp (maxSteps:=2000000) only [zi,zbh,zf,zT,zaq,zw,zX,zj,zaD,ev,look,Nat.reduceEqDiff,↓reduceIte,Bool.true_and,true_and,List.length_map]
   refine zJ (.s (.int .i64 p.ds.length)) (zaC zbY (zV _ _ _ _ (zaE _ _)) rfl rfl) rfl ?_
   simp (maxSteps:=2000000) only [zw,zX,zj,zaD,ev,look,zd,Nat.reduceEqDiff,↓reduceIte,Bool.true_and,true_and]
   refine zJ _ (zjp (List.mem_cons_of_mem _ (hph u4 m4)) g4 rfl) rfl ?_
   simp (maxSteps:=2000000) only [zw,zX,zj,zaD,ev,look,zd,↓reduceIte,Nat.zero_add,Bool.true_and,true_and]
   refine zJ _ (hs (zdy hu2)).2.2 rfl ?_
   simp (maxSteps:=2000000) only [bne_self_eq_false,zu,zm,zq,zf,zT,zc,zb,zh,zH,ze,za,zM,zcA,zU,zw,zX,zj,zaD,RO.isGh,zI,zar,ev,look,zd,zg,zk,zO,zP,Value.oneCell',cond_true,cond_false,Nat.reduceEqDiff,↓reduceIte,Bool.true_and,Bool.not_true,true_and,↓zN]
   refine zhp rfl (zxN hd11 _) ?_
   simp (maxSteps:=2000000) only [zc,zb,ze,za,zj,ev,look,zd,zg,zk,zO,zP,Value.oneCell',cond_true,Nat.reduceEqDiff,↓reduceIte,Bool.true_and,true_and]
   subst hQ;simp only [zaB];refine ⟨(i+1,one b11 (.cells #[.int .i64 p.ds.length] e11 (0,0))::uL::ph), ?_, ?_,zR ?_ ?_ rfl rfl rfl⟩
   ·exact ⟨by simp only;omega,List.mem_cons_of_mem _ (List.mem_cons_of_mem _ (hph u4 m4)),List.mem_cons_of_mem _ (List.mem_cons_of_mem _ (hph u5 m5)),List.mem_cons_of_mem _ (List.mem_cons_of_mem _ (hph u8 m8)),List.mem_cons_of_mem _ (List.mem_cons_of_mem _ (hph mW mWm)),List.mem_cons_of_mem _ (List.mem_cons_of_mem _ (hph _ mF))⟩
   ·simp only;omega
   ·simp only [zaf,look,Nat.reduceEqDiff,↓reduceIte,Bool.and_true,Bool.true_and,true_and,and_true]
    rw [zaN (by omega)]
    try simp
   ·simp [zam,look]
  ·intro e c uL ph m _ _ h
   exact h.elim
 ·subst hQ
  simp (maxSteps:=2000000) only [zi,zm,zf,zat,zaQ,zh,za,zj,ev,look,Value.oneCell',cond_true,Nat.reduceEqDiff,↓reduceIte]
  rw [←hu6]
  refine zgi rfl #[.bool false] e6 ⟨zaE _ _,by simp⟩ ?_
  simp (maxSteps:=2000000) only [zx,zf,zc,zab,zb,ze,look,zS,zg,zk,Nat.reduceEqDiff,↓reduceIte]
  rw [zlD,show zav #[Value.bool false] 0 (GV.s (Value.bool true)).flat= #[Value.bool true] from rfl]
  exact ⟨fun a w hR=>⟨_,[.s (.bool true)],PH.no,hR.ownBox (t:=6) (g:= .s (.bool true)) 6 rfl rfl ⟨rfl,b6,e6,rfl,rfl⟩ (zaz _).symm (zdW _),rfl,rfl,fun _ _ h=>by cases h⟩⟩
end Go.Proofs.YtmjiojflncffeaaGreat.Vc

set_option linter.unusedVariables false
set_option linter.unusedSimpArgs false
set_option maxRecDepth 100000
namespace Go.Proofs.YtmjiojflncffeaaGreat.Vc
open Go Go.Proofs
theorem zBA {p p':PL} {mk:Value} {kb q:Nat} {ops:List Op} {n:Int} (h0:p.ds=[]) (hg:p'.good mk kb q) (hA:Added p ops p' n) (he:zbl p.ds p.fr [] ops=0):p'.ds.map (·.op)=zgx [] ops:=by
 have hp:(p'.ds.map (·.op)).Perm (zgx [] ops):=by
  have:=hA.perm
  rw [h0,List.map_nil,List.nil_append]at this
  refine this.trans ?_
  have h2:=(zif [] ops).symm
  rwa [List.nil_append]at h2
 have hr2:Rising ((p'.ds.map (·.op)).map Op.k):=by rw [List.map_map];exact hg.ris
 have hn:=(zoq he List.nodup_nil).2
 rw [List.nil_append]at hn
 exact Rising.uniq hp hr2 (zsE (by simp [Rising]) (by rw [List.nil_append];exact hn))
end Go.Proofs.YtmjiojflncffeaaGreat.Vc

set_option linter.unusedVariables false
set_option maxRecDepth 100000
namespace Go.Proofs.YtmjiojflncffeaaGreat.Vc
open Go Go.Proofs
abbrev zdC:Nat:=9
def zfH:Cd:=
 (.seq (.rg [⟨none,[(some 46, .bin .lss (.t 45) (.t 44))]⟩] [3,5,6,7,9,12,44,45,46])
 (.seq (.ite (.t 46)
 .skip
 (.exit 0))
 (.seq (.block 1 (.seq (.rg [⟨none,[(some 47, .mv (.t 45)),(some 13, .mv (.t 47))]⟩] [3,5,6,7,9,12,13,44,45])
 (.rg [⟨none,[(some 48, .mv (.t 7)),(some 49, .mv (.t 13)),(some 50, .bld (.c (.c (.s (.int .i64 0)) (.c (.s (.int .i64 0)) .u)) (.c (.s (.int .i64 0)) (.c (.s (.int .i64 0)) (.c (.s (.int .i64 0)) (.c (.s (.string ⟨#[]⟩)) (.c (.s (.string ⟨#[]⟩)) (.c (.s (.string ⟨#[]⟩)) .u))))))) []),(some 51, .idxS (.t 48) (.t 49) 8),(none, .st (.t 51) (.t 50) 8)]⟩] [3,5,6,7,9,12,44,45])))
 (.rg [⟨none,[(some 52, .bin .add (.t 45) (.c (.int .i64 1))),(some 45, .mv (.t 52))]⟩] [3,5,6,7,9,12,44,45]))))
def zkv:Cd:=
 (.seq (.rg [⟨none,[(some 74, .bin .lss (.t 73) (.t 72))]⟩] [5,6,9,12,16,64,65,66,72,73,74])
 (.seq (.ite (.t 74)
 .skip
 (.exit 4))
 (.seq (.block 5 (.seq (.rg [⟨none,[(some 75, .mv (.t 73)),(some 17, .mv (.t 75))]⟩] [5,6,9,12,16,17,64,65,66,72,73])
 (.rg [⟨none,[(some 76, .fldA (.t 16) 3 3),(some 77, .ld (.t 76) 1 false),(some 78, .mv (.t 17)),(some 79, .idxS (.t 77) (.t 78) 2),(some 80, .fldA (.t 79) 1 1),(none, .st (.t 80) (.c (.string ⟨#[63]⟩)) 1)]⟩] [5,6,9,12,16,64,65,66,72,73])))
 (.rg [⟨none,[(some 81, .bin .add (.t 73) (.c (.int .i64 1))),(some 73, .mv (.t 81))]⟩] [5,6,9,12,16,64,65,66,72,73]))))
def zfI:Cd:=
 (.seq (.rg [⟨none,[(some 67, .bin .lss (.t 66) (.t 65))]⟩] [5,6,9,12,64,65,66,67])
 (.seq (.ite (.t 67)
 .skip
 (.exit 2))
 (.seq (.block 3 (.seq (.rg [⟨none,[(some 68, .idxS (.t 64) (.t 66) 4),(some 69, .ld (.t 68) 4 true),(some 16, .new 49 (.c (.s (.int .i64 0)) (.c (.s (.int .i64 0)) (.c (.s (.string ⟨#[]⟩)) (.c (.s (.slice none 0 0)) .u))))),(none, .st (.t 16) (.t 69) 4)]⟩] [5,6,9,12,16,64,65,66])
 (.seq (.rg [⟨none,[(some 70, .fldA (.t 16) 3 3),(some 71, .ld (.t 70) 1 false),(some 72, .len (.t 71)),(some 73, .mv (.c (.int .i64 0)))]⟩] [5,6,9,12,16,64,65,66,72,73])
 (.block 4 (.loop zkv)))))
 (.rg [⟨none,[(some 82, .bin .add (.t 66) (.c (.int .i64 1))),(some 66, .mv (.t 82))]⟩] [5,6,9,12,64,65,66]))))
def zhH:Cd:=
 (.seq (.rg [⟨none,[(some 3, .box 26 (.t 1)),(some 4, .mv (.c (.bool false)))]⟩] [0,3])
 (.seq (.rg [⟨none,[(some 18, .call 12 []),(some 5, .mv (.t 18))]⟩] [0,3,5])
 (.seq (.rg [⟨none,[(some 19, .bld (.c (.s (.slice none 0 0)) (.c (.s (.int .i64 0)) (.c (.s (.slice none 0 0)) .u))) []),(some 20, .box 64 (.t 19)),(none, .gh),(some 6, .mv (.t 20))]⟩] [0,3,5,6])
 (.seq (.seq (.rg [⟨none,[(some 21, .mv (.t 5)),(some 22, .eqA false 27 (.t 21) (.c (.pointer none))),(some 23, .mv (.t 22))]⟩,⟨some (23,false),[(some 24, .call 13 []),(some 25, .un .not (.t 24))]⟩,⟨none,[(some 26, .pick (.t 23) (.c (.bool true)) (.t 25))]⟩] [0,3,5,6,26])
 (.ite (.t 26)
 (.seq (.rg [⟨none,[(some 4, .mv (.c (.bool false)))]⟩] [4])
 .ret)
 .skip))
 (.seq (.rg [⟨none,[(some 27, .bldS 26 8 (.c (.c (.s (.int .i64 0)) (.c (.s (.int .i64 0)) .u)) (.c (.s (.int .i64 0)) (.c (.s (.int .i64 0)) (.c (.s (.int .i64 0)) (.c (.s (.string ⟨#[]⟩)) (.c (.s (.string ⟨#[]⟩)) (.c (.s (.string ⟨#[]⟩)) .u))))))) []),(some 28, .mv (.t 0)),(some 29, .app 26 8 88 (.c (.c (.s (.int .i64 0)) (.c (.s (.int .i64 0)) .u)) (.c (.s (.int .i64 0)) (.c (.s (.int .i64 0)) (.c (.s (.int .i64 0)) (.c (.s (.string ⟨#[]⟩)) (.c (.s (.string ⟨#[]⟩)) (.c (.s (.string ⟨#[]⟩)) .u))))))) (.t 27) (.t 28)),(some 7, .mv (.t 29))]⟩] [0,3,5,6,7])
 (.seq (.rg [⟨none,[(some 31, .mv (.t 5)),(some 32, .mv (.t 7)),(some 33, .call 14 [(.t 31),(.t 32)]),(some 30, .mv (.t 33)),(some 34, .ext (.t 30) 0),(some 35, .ext (.t 30) 1),(some 8, .mv (.t 34)),(some 9, .mv (.t 35))]⟩] [0,3,5,6,7,9])
 (.seq (.rg [⟨none,[(some 37, .mv (.t 6)),(some 38, .mv (.t 0)),(some 39, .call 26 [(.t 37),(.t 38)]),(some 36, .mv (.t 39)),(some 40, .ext (.t 36) 0),(some 41, .ext (.t 36) 1),(some 42, .ext (.t 36) 2),(some 10, .mv (.t 40)),(some 11, .mv (.t 41)),(some 12, .mv (.t 42))]⟩] [3,5,6,7,9,12])
 (.seq (.seq (.rg [⟨none,[(some 43, .mv (.t 7)),(some 44, .len (.t 43)),(some 45, .mv (.c (.int .i64 0)))]⟩] [3,5,6,7,9,12,44,45])
 (.block 0 (.loop zfH)))
 (.seq (.seq (.rg [⟨none,[(some 53, .mv (.t 5)),(some 54, .call 19 [(.t 53)]),(some 14, .mv (.t 54))]⟩] [3,5,6,9,12,14])
 (.seq (.rg [⟨none,[(some 55, .mv (.t 14)),(some 56, .eqA true 40 (.t 55) (.c (.pointer none)))]⟩] [3,5,6,9,12,14,56])
 (.ite (.t 56)
 (.rg [⟨none,[(some 57, .mv (.t 14)),(some 58, .ld (.t 3) 8 true),(some 59, .call 27 [(.t 57),(.t 58)])]⟩] [3,5,6,9,12])
 .skip)))
 (.seq (.rg [⟨none,[(some 60, .mv (.t 5)),(some 61, .ld (.t 3) 8 true),(some 62, .call 18 [(.t 60),(.t 61)])]⟩] [5,6,9,12])
 (.seq (.seq (.rg [⟨none,[(some 63, .mv (.t 5)),(some 64, .call 28 [(.t 63)]),(some 65, .len (.t 64)),(some 66, .mv (.c (.int .i64 0)))]⟩] [5,6,9,12,64,65,66])
 (.block 2 (.loop zfI)))
 (.seq (.rg [⟨none,[(some 83, .mv (.t 9)),(some 84, .mv (.t 12)),(some 85, .bin .eql (.t 83) (.t 84)),(some 86, .mv (.t 85))]⟩,⟨some (86,true),[(some 87, .mv (.t 5)),(some 88, .mv (.t 6)),(some 89, .call 29 [(.t 87),(.t 88),(.c (.int .i64 0))])]⟩,⟨none,[(some 90, .pick (.t 86) (.t 89) (.c (.bool false))),(some 4, .mv (.t 90))]⟩] [4])
 .ret))))))))))))
theorem znC:Ok Tryz.prog 9 zhH 91 [] [.tmp 4]:=Ok.mk' Tryz.func9 (by kernel_rfl) (by kernel_rfl) (by kernel_rfl)
end Go.Proofs.YtmjiojflncffeaaGreat.Vc

set_option linter.unusedVariables false
set_option linter.unusedSimpArgs false
set_option maxRecDepth 100000
namespace Go.Proofs.YtmjiojflncffeaaGreat.Vc
open Go Go.Proofs
theorem zre:zeD []:=⟨T0,rfl,zAo⟩
theorem ztL:T0.view=zdw []:=(zfi (l:=[]) rfl).view
theorem ztX (u:PH):RowsIn u (.slice none 0 0) [] [] 1048576:=
 ⟨⟨fun x hx=>(by cases hx), .inl ⟨rfl,rfl⟩⟩,trivial,by simp,by simp,by simp,by simp,by simp⟩
theorem zBz:(zae T0).length=0:=by
 rw [List.length_eq_zero_iff,List.eq_nil_iff_forall_not_mem]
 intro t ht
 obtain ⟨h1,h2⟩:=List.mem_filter.1 ht
 obtain ⟨n,_,h3⟩:=List.mem_filterMap.1 h1
 cases hx:T0.get n with
 |none=>rw [hx]at h3;cases h3
 |some x=>
  rw [hx]at h3
  simp only [Option.map_some,Option.some.injEq]at h3
  subst h3
  have hn:zbc n=true∧x=PN.bare:=by
   simp only [PT.get,T0,zcv]at hx
   split at hx
   ·rename_i h;subst h;cases hx;exact ⟨rfl,rfl⟩
   ·split at hx
    ·rename_i h;subst h;cases hx;exact ⟨rfl,rfl⟩
    ·cases hx
  obtain ⟨hn1,rfl⟩:=hn
  have e:(zbw n PN.bare).attrs.length=0:=by simp [zbw,PN.bare,zaR,zbd,zjS]
  have e2:(zbw n PN.bare).node=n:=rfl
  rw [TN.shown,e,e2,hn1]at h2
  cases h2
def zob (ops:List Op):List Op:=if zbl [] 0 [] ops=0 then zgx [] ops else []
def OwnQ (b:Nat) (ops:List Op) (rs:List GV) (m':PH):Prop:=
 ∃L Lb p n,rs=[.s (.int .i64 n), .s (.int .i64 (zbl [] 0 [] ops))]∧LogM m' b L Lb p∧p.good (ptr (L .mk)) 0 ops.length∧p.fr=0∧p.B=T0∧p.ds.map (·.op)=zob ops
theorem zBG (w:World) (m:PH) (b:Nat) (L Lb:Lay) (hL:LogM m b L Lb PL.new) (v:Value) (ops:List Op) (hops:zqn ops) (hS:SlR (but w m) v 8 (ops.map gOp)):Spec Tryz.prog zea [ptr b,v] m w (OwnQ b ops):=by
 have hl:=hops.1
 refine (zuV w m b L Lb PL.new hL (PL.new_good (ptr (L .mk))) v ops hops hS (by simp [PL.new];omega) (by simp [PL.new])).mono fun rs m' h=> ?_
 by_cases he:zbl [] 0 [] ops=0
 ·obtain ⟨L',p',n,_,hk,rfl,hM,hg,hA⟩:=h.2 he
  refine ⟨L',Lb,p',n,by rw [he],hM,by rw [hk];simpa [PL.new]using hg,hA.fr,hA.B, ?_⟩
  rw [zob,if_pos he]
  exact zBA rfl hg hA he
 ·obtain ⟨rfl,hM⟩:=h.1 he
  exact ⟨L,Lb,PL.new,0,rfl,hM,(PL.new_good _).up (Nat.zero_le _),rfl,rfl,by rw [zob,if_neg he];rfl⟩
theorem zzX (w:World) (m:PH) (b:Nat) (hL:RLog m b (.slice none 0 0) 0 []) (v:Value) (ops:List Op) (hops:zqn ops) (hS:SlR (but w m) v 8 (ops.map gOp)):Spec Tryz.prog ziH [ptr b,v] m w fun rs m'=>∃x y,rs=[.s (.int .i64 x), .s (.int .i64 y), .s (.int .i64 (zbl [] 0 [] ops))]∧RLog m' b (.slice none 0 0) 0 (zob ops):=by
 have hl:=hops.1
 refine (zuI w m b (.slice none 0 0) 0 [] hL v ops hops hS (by simpa using hl) (fun d hd=>by cases hd) [] [] (ztX _) zre T0 (T0_ok.up (by omega)) T0_good ztL).mono fun rs m' h=> ?_
 by_cases he:zbl [] 0 [] ops=0
 ·obtain ⟨x,y,rfl,hM⟩:=h.2 he
  exact ⟨x,y,by rw [he],by rw [zob,if_pos he];exact hM⟩
 ·obtain ⟨rfl,hM⟩:=h.1 he
  exact ⟨0,0,rfl,by rw [zob,if_neg he];exact hM⟩
theorem zwt (w:World) (v:Value) (ops:List Op) (more:Op) (hb:ops.length≤1048576) (ho:∀op∈ops,OpIn op∧zeP op) (hm:OpIn more∧zeP more) (h:SlR w.ph v 8 (ops.map gOp)):
  Spec Tryz.prog zdC [v,(gOp more).val] PH.no w fun rs _=>rs=[.s (.bool true)]:=by
 refine zbE znC (Qf:=fun rs=>rs=[.s (.bool true)]) [.ro v 8 (gOp zOp) (ops.map gOp), .g (gOp more)] (by simp) (by simpa [AV.ok,zbr,zcS]using h) ?_
 simp (maxSteps:=2000000) only [zhH,zi,zm,zf,zc,zb,zh,ze,za,zj,ev,look,zZ,zd,zg,zk,Value.oneCell',cond_true,Nat.reduceEqDiff,↓reduceIte,reduceCtorEq,Nat.zero_add,Bool.true_and,true_and,zak,zaK,List.length_map,zaU,zcx]
 refine zaJ rfl rfl (Q:=fun rs m'=>∃b L Lb,rs=[.s (ptr b)]∧LogM m' b L Lb PL.new) (fun w' vs hv hw _ _=> ?_) fun rs m0 _ hq _=> ?_
 ·obtain rfl:=zr hv
  exact zop w'
 obtain ⟨b,L,Lb,rfl,hA⟩:=hq
 simp (maxSteps:=2000000) only [zK,zaz,zi,zm,zf,zc,zb,zh,ze,za,zj,ev,evL,gvL,look,zZ,zd,zg,zk,Nat.reduceEqDiff,↓reduceIte,reduceCtorEq,Bool.true_and,true_and,List.map_nil,GV.bldT,GV.bldC,ptr]
 refine zcu 20 20 rfl rfl fun v20 u20 _ hp20 hd20=> ?_
 obtain ⟨_,b2,e2,rfl,rfl⟩:=hp20
 have hd20:dis (one b2 (rlC (.slice none 0 0) 0 (.slice none 0 0) e2)) m0:=hd20
 simp (maxSteps:=2000000) only [dropK,zi,zm,zf,zc,zb,zh,ze,za,zj,ev,look,zd,zg,zk,Value.oneCell',cond_true,cond_false,Nat.reduceEqDiff,Nat.reduceBEq,↓reduceIte,reduceCtorEq,BEq.rfl,zbA,SV.mentions]
 refine zcH (zzY b) ?_
 simp (maxSteps:=2000000) only [zH,ze,za,zj,ev,look,zd,↓reduceIte,↓zbi,Bool.bne_false]
 refine zaM _ [.s (.bool true)] rfl rfl (fun w' vs hv _ _ hm=> ?_) ?_
 ·obtain rfl:=zr hv
  exact zuS w'
 simp (maxSteps:=2000000) only [zK,zu,zi,zm,zq,zf,zc,zb,zh,ze,za,zj,ev,evL,gvL,look,zZ,zd,zg,zk,zaF,unV,Value.oneCell',cond_true,cond_false,Nat.reduceEqDiff,Nat.reduceBEq,↓reduceIte,reduceCtorEq,List.nil_append,Nat.zero_add,Bool.and_true,Bool.true_and,Bool.not_true,BEq.rfl,true_and,and_true,zcO,List.length_nil,zbA,SV.mentions,ne_eq,not_false_eq_true,List.drop_zero,↓zN]
 refine ⟨by omega, ?_⟩
 rw [List.take_of_length_le (by simp)]
 have hops:zqn ops:=⟨hb,ho⟩
 have e1:uni (one b2 (.cells ((GV.s (.slice none 0 0)).c ((GV.s (.int .i64 0)).c ((GV.s (.slice none 0 0)).c GV.u))).flat.toArray e2 (0,0))) m0=uni m0 (one b2 (rlC (.slice none 0 0) 0 (.slice none 0 0) e2)):=zbU hd20
 rw [e1]
 refine zie m0 _ rfl rfl rfl (zG hd20) (Q:=OwnQ b ops) (fun w' vs hv _ _ _=> ?_) fun rs mL _ hq hdL=> ?_
 ·obtain ⟨vs,rfl,_,hv⟩:=zlJ hv
  obtain ⟨v',vs,rfl,hs,hv⟩:=zmN (z:=8) (xs:=ops.map gOp) rfl (by simp) hv
  obtain rfl:=zkd hv
  exact zBG w' m0 b L Lb hA v' ops hops hs
 obtain ⟨L1,Lb1,p,n,rfl,hM,hg,hfr,hB,hds⟩:=hq
 simp (maxSteps:=2000000) only [zK,List.getElem?_cons_succ,List.getElem?_cons_zero,zi,zm,zf,zc,zb,zh,ze,za,zj,ev,look,zd,zg,zk,Nat.reduceEqDiff,↓reduceIte,reduceCtorEq]
 rw [zbU hdL]
 have hR0:RLog (one b2 (rlC (.slice none 0 0) 0 (.slice none 0 0) e2)) b2 (.slice none 0 0) 0 []:=
  ⟨.slice none 0 0,e2,PH.no,(zaz _).symm,⟨rfl,zdW _,⟨fun x hx=>(by cases hx),Or.inl ⟨rfl,rfl⟩⟩⟩⟩
 refine zie _ mL rfl rfl rfl (zG hdL) (Q:=fun rs m'=>∃x y,rs=[.s (.int .i64 x), .s (.int .i64 y), .s (.int .i64 (zbl [] 0 [] ops))]∧RLog m' b2 (.slice none 0 0) 0 (zob ops)) (fun w' vs hv _ _ _=> ?_) fun rs mR _ hq hdR=> ?_
 ·obtain ⟨vs,rfl,_,hv⟩:=zlJ hv
  obtain ⟨v',vs,rfl,hs,hv⟩:=zmN (z:=8) (xs:=ops.map gOp) rfl (by simp) hv
  obtain rfl:=zkd hv
  exact zzX w' _ b2 hR0 v' ops hops hs
 obtain ⟨x,y,rfl,hR⟩:=hq
 simp (maxSteps:=2000000) only [zK,List.getElem?_cons_succ,List.getElem?_cons_zero,zi,zB,zm,zf,zc,zb,zh,ze,za,zj,ev,look,zd,zg,zk,Value.oneCell',cond_true,Nat.reduceEqDiff,↓reduceIte,reduceCtorEq]
 refine zaP (ι:=Nat×List Op) (fun q=>⟨[(3, .ref 3 []),(5, .g (.s (.pointer (some ⟨b,0,none⟩)))),(6, .g (.s (.pointer (some ⟨b2,0,none⟩)))),(7, .row 27 0 (ops.length)),(9, .g (.s (.int .i64 (zbl [] 0 [] ops)))),(12, .g (.s (.int .i64 (zbl [] 0 [] ops)))),(44, .g (.s (.int .i64 (ops.length)))),(45, .g (.s (.int .i64 (q.1))))],[(3, .box (gOp more)),(27, .row 26 8 (gOp zOp) (q.2.map gOp))],[],uni mR mL⟩)
  (fun q=>q.1≤ops.length∧q.2.length=ops.length) (fun q=>ops.length - q.1) (0,ops) ⟨by simp,rfl⟩ (zR ?_ ?_ rfl rfl rfl) ?_
 ·simp [zaf,look]
 ·simp [zam,look]
 rintro ⟨i,l⟩ ⟨hi,hl⟩
 simp only at hi hl
 generalize hQ:loopQ _ _ _ _ _=Q
 simp (maxSteps:=2000000) only [zfH,zu,zau,zi,zB,zm,zq,zf,zay,zT,zc,zb,zh,ze,za,zj,ev,evL,gvL,look,zZ,zd,zS,zg,zk,zaF,zO,zP,Value.oneCell',cond_true,Nat.reduceEqDiff,↓reduceIte,Nat.zero_add,Bool.and_true,Bool.true_and,true_and,and_true,List.map_nil,Int.toNat_natCast,decide_eq_true_eq,decide_eq_false_iff_not,zax,GV.bldT,GV.bldC,zn,zY,zaU,zbM,zfs,zcx,zdY]
 refine ⟨fun hlt=> ?_,fun hge=> ?_⟩
 ·refine ⟨⟨by omega,by omega⟩, ?_⟩
  subst hQ;simp only [zaB];refine ⟨(i+1,l.set i zOp), ?_, ?_,zR ?_ ?_ rfl rfl rfl⟩
  ·exact ⟨by simp only;omega,by simp only [List.length_set];exact hl⟩
  ·simp only;omega
  ·simp only [zaf,look,Nat.reduceEqDiff,↓reduceIte,Bool.and_true,Bool.true_and,true_and,and_true]
   rw [zaN (by omega)]
   try simp
  ·simp [zam,look,List.map_set]
 ·subst hQ
  simp (maxSteps:=2000000) only [zi,zm,zf,zat,zaQ,zh,za,zj,ev,look,zd,Nat.reduceEqDiff,↓reduceIte]
  have hdR:dis mR mL:=hdR
  refine zaJ rfl rfl (Q:=fun rs m'=>∃L' T',rs=[.s (ptr (L' .t))]∧TM m' L' T'∧T'.ok (ops.length+2)∧VGood T'.view∧T'.kidsOk∧T'.view=p.T.view) (fun w' vs hv _ _ hm'=> ?_) fun rs mT _ hq hdT=> ?_
  ·obtain ⟨vs,rfl,_,hv⟩:=zt hv
   obtain rfl:=zr hv
   exact zlt (fun b o h=>hm' b o (zao hdR b o h)) hM hg (by omega)
  obtain ⟨L',T',rfl,hT',hok',_,_,_⟩:=hq
  have hdT:dis mT (uni mR mL):=hdT
  simp (maxSteps:=2000000) only [zK,zi,zm,zf,zc,zb,zh,ze,za,zj,ev,look,zd,zg,zk,Value.oneCell',cond_true,Nat.reduceEqDiff,↓reduceIte,ptr]
  refine zcH (ztu _) ?_
  simp (maxSteps:=2000000) only [zm,zq,zf,zc,zb,zh,ze,za,zj,ev,look,zd,zg,zk,Nat.reduceEqDiff,↓reduceIte,Bool.true_and,Bool.not_false,true_and,↓zL,Bool.bne_true,zn,zbp]
  refine zie mT _ rfl rfl rfl hdT (Q:=fun rs _=>∃a c,rs=[a,c]) (fun w' vs hv _ _ _=> ?_) fun rs mT2 _ hq hdT2=> ?_
  ·obtain ⟨vs,rfl,_,hv⟩:=zlJ hv
   obtain ⟨vs,rfl,_,hv⟩:=zlJ hv
   obtain rfl:=zkd hv
   refine (zpa w' mT L' T' more hm.2.2 (zoY hok' (by omega)) hT').mono fun rs m' h=> ?_
   cases hmay:zaL T' more with
   |false=>exact ⟨_,_,(h.1 hmay).1⟩
   |true=>
    obtain ⟨L2,_,_,h2,_⟩:=h.2 hmay
    exact ⟨_,_,h2⟩
  obtain ⟨a,c,rfl⟩:=hq
  have hsL:∀{w':World},(uni mT2 (uni mR mL)).le w'→mL.le w':=fun h b o hb=>h b o (zao hdT2 b o (zao hdR b o hb))
  have hsR:∀{w':World},(uni mT2 (uni mR mL)).le w'→mR.le w':=fun h b o hb=>h b o (zao hdT2 b o (zV _ _ b o hb))
  simp (maxSteps:=2000000) only [zK,zi,zm,zf,zc,zb,zh,ze,za,zj,ev,look,zd,zg,zk,Nat.reduceEqDiff,↓reduceIte,Bool.true_and,true_and,zn,zbp]
  refine zaM _ [.s (.bool (decide (zaO more=0)&&zaL p.T more)), .s (.int .i64 (zaO more))] rfl rfl (fun w' vs hv _ _ hm'=> ?_) ?_
  ·obtain ⟨vs,rfl,_,hv⟩:=zt hv
   obtain ⟨vs,rfl,_,hv⟩:=zt hv
   obtain rfl:=zr hv
   exact zwj (hsL hm') hM hg (by omega) more hm.1
  simp (maxSteps:=2000000) only [zK,zi,zm,zf,zc,zb,zh,ze,za,zj,ev,look,zd,zg,zk,Nat.reduceEqDiff,↓reduceIte]
  refine zbV rfl rfl (Q:=fun rs m'=>∃v ts,rs=[.s v]∧SlR m' v 4 (ts.map zl)∧TsOk m' ts (zae p.B)) (fun w' vs hv _ _ hm'=> ?_) fun rs mB _ hq=> ?_
  ·obtain ⟨vs,rfl,_,hv⟩:=zt hv
   obtain rfl:=zr hv
   exact ziB (hsL hm') hM hg (by omega)
  obtain ⟨vb,ts,rfl,hsb,htb⟩:=hq
  have hts:ts=[]:=by
   have:=htb.len
   rw [hB]at this
   exact List.length_eq_zero_iff.1 (by rw [this];exact zBz)
  subst hts
  obtain ⟨ab,cb,rfl⟩:=zch hsb
  simp (maxSteps:=2000000) only [zK,List.map_nil,List.length_nil,zB,zf,zc,zb,ze,za,zj,ev,look,zd,zg,zk,Value.oneCell',cond_true,Nat.reduceEqDiff,↓reduceIte,List.map_nil,List.length_nil]
  refine zaP (ι:=Unit) (fun _=>⟨[(5, .g (.s (.pointer (some ⟨b,0,none⟩)))),(6, .g (.s (.pointer (some ⟨b2,0,none⟩)))),(9, .g (.s (.int .i64 (zbl [] 0 [] ops)))),(12, .g (.s (.int .i64 (zbl [] 0 [] ops)))),(65, .g (.s (.int .i64 (((0:Nat):Int))))),(66, .g (.s (.int .i64 (0))))],[],[mB],uni mT2 (uni mR mL)⟩)
   (fun _=>True) (fun _=>0) () trivial (zR ?_ ?_ rfl rfl rfl) ?_
  ·simp [zaf,look]
  ·simp [zam,look]
  rintro ⟨⟩ _
  generalize hQ:loopQ _ _ _ _ _=Q
  simp (maxSteps:=2000000) only [zfI,zu,zau,zi,zB,zm,zq,zf,zay,zc,zb,zh,ze,za,zj,ev,look,zd,zg,zk,zO,zP,Nat.reduceEqDiff,↓reduceIte,Bool.true_and,true_and,decide_eq_true_eq,decide_eq_false_iff_not,zax,zbG]
  subst hQ
  simp (maxSteps:=2000000) only [beq_self_eq_true,zi,zm,zf,zat,zaQ,zh,zH,ze,za,zj,ev,look,zd,zO,zP,Nat.reduceEqDiff,↓reduceIte,Bool.true_and,true_and,↓zL]
  refine ⟨fun h=>absurd h (by simp),fun _=> ?_⟩
  have hlen:p.ds.length≤ops.length:=by
   have:=congrArg List.length hds
   rw [List.length_map]at this
   rw [this,zob]
   split
   ·rw [(zif [] ops).length_eq];simp
   ·simp
  refine zaM _ [.s (.bool true)] rfl rfl (fun w' vs hv _ _ hm'=> ?_) ?_
  ·obtain ⟨vs,rfl,_,hv⟩:=zt hv
   obtain ⟨vs,rfl,_,hv⟩:=zt hv
   obtain ⟨vs,rfl,_,hv⟩:=zt hv
   obtain rfl:=zr hv
   exact zyq w' mL (hsL hm') b L1 Lb1 p hM hg (by omega) (by omega) (by omega) mR (hsR hm') b2 (.slice none 0 0) (by rw [hfr,hds];exact hR) [] [] w'.ph (fun _ _ h=>h) (ztX _) zre (by rw [hB];exact ztL)
  simp (maxSteps:=2000000) only [zK,zx,zf,zc,zb,zh,ze,za,zj,ev,look,zd,zg,zk,Value.oneCell',cond_true,Nat.reduceEqDiff,↓reduceIte,zD,zal,zC,↓zL]
end Go.Proofs.YtmjiojflncffeaaGreat.Vc

set_option linter.unusedVariables false
set_option linter.unusedSimpArgs false
set_option maxRecDepth 100000
namespace Go.Proofs.YtmjiojflncffeaaGreat.Vc
open Go Go.Proofs Go.Proofs.YtmjiojflncffeaaGreat Go.ChangeShapes Go.WideShapes Go.ChangeAt
theorem zqL {H:Type} (enc:TypeId×Value→H) (W:World) (base:Nat) (vs:List Value) (h:zwg enc Tryz.prog W base [22,26] vs 1048576) (_:W.ShapedOpen Tryz.prog):Spec Tryz.prog zdC vs PH.no W fun rs _=>rs=[.s (.bool true)]:=by
 obtain ⟨v1,vs,a,b,rfl,hab,h1,g1,h⟩:=zrZ h
 obtain ⟨v2,vs,a2,b2,rfl,hab2,h2,g2,h⟩:=zrZ h
 obtain rfl:=zAh h
 obtain ⟨ops,k1,l1,o1⟩:=zwo h1 g1
 obtain ⟨more,rfl,o2⟩:=zzb h2 g2
 exact zwt W v1 ops more (by omega) o1 o2 k1
theorem zpt (os:Os) {H:Type} (enc:TypeId×Value→H):∃places,DataW.whole enc Tryz.prog ((World.holding Tryz.prog os ⟨#[], #[],[]⟩).forCall (fun _ _=>0) ⟨#[], #[.slice none 0 0,(gOp zOp).val],[]⟩).memory Tryz.f9.params.toList Rows.oplogOwnSpec.vars false (#[.slice none 0 0,(gOp zOp).val]:Array Value).toList 8=some ([.nil, .agg [.agg [.lit (.int .i64 0), .lit (.int .i64 0)], .lit (.int .i64 0), .lit (.int .i64 0), .lit (.int .i64 0), .lit (.string []), .lit (.string []), .lit (.string [])]],[],places):=
 ⟨[],by kernel_rfl⟩
theorem zoM (os:Os) (started:os.Started) (H:Type) (enc:TypeId×Value→H) (F:Stop.Interp):
  ReturnsInHanded {} Tryz.checked os zdC .any ((Rows.OpenSpec.upto Rows.oplogOwnSpec).preRow enc Tryz.prog Tryz.f9 Rows.oplogOwnUptoRow.domain false Rows.oplogOwnUptoRow.laid) (((Rows.OpenSpec.upto Rows.oplogOwnSpec).at F).post enc Tryz.prog Tryz.f9 false true false false):=by
 obtain ⟨places,hx⟩:=zpt os enc
 exact zoS (C:=Tryz.checked) zAY zui started (by kernel_rfl) Tryz.func9
  (witness_row_at (enc:=enc) (C:=Tryz.checked) false (World.holding Tryz.prog os ⟨#[], #[],[]⟩) #[.slice none 0 0,(gOp zOp).val] rfl (by kernel_rfl) (by kernel_rfl) (by kernel_rfl)
   (OpenSpec.preRow_of_cond 8 hx (by kernel_rfl) (fun k hk=>by cases hk;kernel_rfl) (by kernel_rfl) (laidMet_of_run' 8 (by kernel_rfl) (by kernel_rfl))))
  (by kernel_rfl) rfl (tb:=4) (by kernel_rfl) (by kernel_rfl) (ts:=[22,26]) (by kernel_rfl) (fun ds h=>by match ds,h with|[d0,d1],_=>rfl) (zqL enc)
theorem OplogOwn_upto:Rows.OplogOwnUptoSaid:=
 OpenClaim.holds_of_cond zdC Tryz.f9 rfl rfl rfl rfl rfl rfl rfl ⟨rfl,rfl,rfl,rfl,rfl⟩ rfl rfl rfl rfl rfl (by kernel_rfl) Tryz.func9 (by kernel_rfl)
  (of_decide_eq_true (by kernel_rfl)) (by unfold Func.isWrapper;first|(rw [if_pos (by decide+kernel)];kernel_rfl)|(rw [if_neg (by decide+kernel)];exact ⟨rfl,rfl⟩))
  (fun os started H enc _ F=>by rw [OpenClaim.pre_eq_preRow];exact zoM os started H enc F)
#print axioms OplogOwn_upto
end Go.Proofs.YtmjiojflncffeaaGreat.Vc

