/- Part 3 of what a law of this seat rests on. -/
import Derived.ChangeKeysEq
import Derived.Laws.StructEq
import Derived.Test.YtmjiojflncffeaaGreatProg
import Derived.Shelf.Strings.Search3
import Derived.Shelf.SlIterI.Sorted
import Derived.Shelf.SlIter.Sorted
import Derived.Shelf.SortM.Plain
import Derived.Shelf.SortM.SortNone
import Derived.Ground.GgzProg
import Derived.Ground.SlgmProg
import Derived.Test.YtmjiojflncffeaaGreatZOa72
set_option linter.unusedVariables false
set_option linter.unusedSimpArgs false
namespace Go.Proofs.YtmjiojflncffeaaGreat.Vc
open Go
def ztN:Value→Value→Bool
 | .int _ a, .int _ b=>a==b
 | .bool a, .bool b=>a==b
 | .string a, .string b=>decide (a=b)
 |_,_=>false
def ziC:GV→GV→Bool
 | .s a, .s b=>ztN a b
 | .u, .u=>true
 | .c h t, .c h' t'=>ziC h h'&&ziC t t'
 | .ar n _ f, .ar _ _ g=>(List.range n).all fun j=>ziC (f j) (g j)
 |_,_=>false
def zwU:Value→Value→Prop
 | .int k _, .int k' _=>k=k'
 | .bool _, .bool _=>True
 | .string _, .string _=>True
 |_,_=>False
def kin:GV→GV→Prop
 | .s a, .s b=>zwU a b
 | .u, .u=>True
 | .c h t, .c h' t'=>kin h h'∧kin t t'
 | .ar n e f, .ar n' e' g=>n=n'∧e=e'∧∀j,j<n→kin (f j) (g j)
 |_,_=>False
theorem zjQ:∀(x y:GV),kin x y→GV.same x y
 | .s _, .s _,_=>trivial
 | .u, .u,_=>trivial
 | .c h t, .c h' t',k=>⟨zjQ h h' k.1,zjQ t t' k.2⟩
 | .ar _ _ f, .ar _ _ g,k=>⟨k.1,k.2.1,fun j hj=>zjQ (f j) (g j) (k.2.2 j hj)⟩
 | .s _, .u,k| .s _, .c _ _,k| .s _, .ar _ _ _,k| .u, .s _,k| .u, .c _ _,k| .u, .ar _ _ _,k| .c _ _, .s _,k| .c _ _, .u,k| .c _ _, .ar _ _ _,k| .ar _ _ _, .s _,k| .ar _ _ _, .u,k| .ar _ _ _, .c _ _,k=>k.elim
def chainB:Nat→GV→Bool
 |0, .u=>true
 |n+1, .c _ t=>chainB n t
 |_,_=>false
def zkj (P:Program):Nat→TypeId→GV→Bool
 |0,_,_=>false
 |d+1,t,z=>match P.underlying t,z with
  |some (.int _), .s (.int _ _)=>true
  |some .bool, .s (.bool _)=>true
  |some .string, .s (.string _)=>true
  |some (.array n e), .ar n' k f=>n==n'&&(match P.underlying e,P.info? e with
    |some dd,some i=>k==i.size&&(List.range n).all fun j=>(f j).fits i.size (agD dd)&&zkj P d e (f j)
    |_,_=>false)
  |some (.struct fs),z=>chainB fs.size z&& !P.stoodInHeld t&&(List.range fs.size).all fun i=>match fs[i]? with
    |some f=>f.name != "_" &&(match P.underlying f.type,P.info? f.type with
     |some dd,some j=>(z.get [i]).isSome&&z.offs [i]==f.offset&&(z.getT [i]).fits j.size (agD dd)&&zkj P d f.type (z.getT [i])
     |_,_=>false)
    |none=>false
  |_,_=>false
theorem zyc:∀(x z:GV) (p:List Nat),kin x z→∀y,z.get p=some y→∃uu,x.get p=some uu∧kin uu y∧x.offs p=z.offs p:=by
 intro x z p hk y hy
 obtain ⟨e1,uu,e2,e3⟩:=GV.same_get z x p y (GV.same_symm _ _ (zjQ _ _ hk)) hy
 refine ⟨uu,e2, ?_,e1.symm⟩
 clear e1 e3
 induction p generalizing x z with
 |nil=>
  have h1:x.get []=some x:=by cases x<;>rfl
  have h2:z.get []=some z:=by cases z<;>rfl
  rw [h1]at e2;rw [h2]at hy
  simp at e2 hy;subst e2;subst hy
  exact hk
 |cons i p ih=>
  induction z generalizing x i with
  |s v=>simp [GV.get]at hy
  |u=>simp [GV.get]at hy
  |c h t ihh iht=>
   cases x with
   |c h' t'=>
    cases i with
    |zero=>exact ih h' h hk.1 (by simpa [GV.get]using hy) (by simpa [GV.get]using e2)
    |succ i=>exact iht (x:=t') (i:=i) hk.2 (by simpa [GV.get]using hy) (by simpa [GV.get]using e2)
   |_=>exact hk.elim
  |ar n e f ihf=>
   cases x with
   |ar n' e' g=>
    simp only [GV.get]at hy e2
    split at hy
    ·rename_i hi
     split at e2
     ·exact ih (g i) (f i) (hk.2.2 i (by rw [hk.1];exact hi)) hy e2
     ·cases e2
    ·cases hy
   |_=>exact hk.elim
theorem zmh {x z:GV} (h:kin x z) (n:Nat) (b:Bool) (hf:z.fits n b=true):x.fits n b=true:=by
 have hs:=GV.same_sz _ _ (zjQ _ _ h)
 cases x<;>cases z<;>first|exact h.elim|skip
 ·exact hf
 ·simpa [GV.fits,GV.sz]using hf
 ·simp only [GV.fits]at hf ⊢;rw [hs];exact hf
 ·simp only [GV.fits]at hf ⊢;rw [hs];exact hf
theorem zqc:∀(n:Nat) (x y z:GV),chainB n z=true→kin x z→kin y z→ziC x y=(List.range n).all fun i=>ziC (x.getT [i]) (y.getT [i])
 |0,x,y, .u,_,hx,hy=>by
  cases x<;>first|exact hx.elim|skip
  cases y<;>first|exact hy.elim|skip
  rfl
 |n+1,x,y, .c hz tz,hc,hx,hy=>by
  cases x<;>first|exact hx.elim|skip
  cases y<;>first|exact hy.elim|skip
  rename_i h t h' t'
  have ih:=zqc n t t' tz hc hx.2 hy.2
  simp only [ziC,List.range_succ_eq_map,List.all_cons,List.all_map,ih,GV.getT,zn]
  rfl
 |0,_,_, .s _,hc,_,_|0,_,_, .c _ _,hc,_,_|0,_,_, .ar _ _ _,hc,_,_|_+1,_,_, .s _,hc,_,_|_+1,_,_, .u,hc,_,_|_+1,_,_, .ar _ _ _,hc,_,_=>by cases hc
theorem zvD:∀(n:Nat) (z:GV),chainB n z=true→∀x,kin x z→∀v,x≠ .s v
 |0, .u,_,x,hk,v,e=>by subst e;exact hk.elim
 |n+1, .c _ _,_,x,hk,v,e=>by subst e;exact hk.elim
 |0, .s _,hc,_,_,_,_|0, .c _ _,hc,_,_,_,_|0, .ar _ _ _,hc,_,_,_,_|_+1, .s _,hc,_,_,_,_|_+1, .u,hc,_,_,_,_|_+1, .ar _ _ _,hc,_,_,_,_=>by cases hc
theorem zAG {P:Program} (e:Nat):∀(d:Nat) (t:TypeId) (z x y:GV),zkj P d t z=true→kin x z→kin y z→x.ok→y.ok→∀w,(Op.equalIn (e+d) t x.val y.val).run P w= .ok (ziC x y) w:=by
 intro d
 induction d with
 |zero=>intro t z x y h;simp [zkj]at h
 |succ d ih=>
  intro t z x y h hx hy okx oky w
  unfold zkj at h
  rw [←Nat.add_assoc]
  split at h
  ·rename_i q k m hu
   cases x<;>first|exact hx.elim|skip
   cases y<;>first|exact hy.elim|skip
   rename_i a b
   cases a<;>simp only [kin,zwU]at hx<;>first|exact hx.elim|skip
   cases b<;>simp only [kin,zwU]at hy<;>first|exact hy.elim|skip
   subst hx;subst hy
   exact run_equalIn_int w (e+d) t _ _ _ _ hu
  ·rename_i q hu
   cases x<;>first|exact hx.elim|skip
   cases y<;>first|exact hy.elim|skip
   rename_i a b
   cases a<;>simp only [kin,zwU]at hx<;>first|exact hx.elim|skip
   cases b<;>simp only [kin,zwU]at hy<;>first|exact hy.elim|skip
   exact run_equalIn_bool' w (e+d) t _ _ hu
  ·rename_i q hu
   cases x<;>first|exact hx.elim|skip
   cases y<;>first|exact hy.elim|skip
   rename_i a b
   cases a<;>simp only [kin,zwU]at hx<;>first|exact hx.elim|skip
   cases b<;>simp only [kin,zwU]at hy<;>first|exact hy.elim|skip
   rename_i s1 s2
   have:=run_equalIn_string (P:=P) w (e+d) t s1 s2 hu
   simp only [GV.val,ziC,ztN]
   rw [this,zqj]
  ·rename_i n et n' k f hu
   simp only [Bool.and_eq_true,beq_iff_eq]at h
   obtain ⟨rfl,h⟩:=h
   split at h
   ·rename_i dd i hdd hi
    simp only [Bool.and_eq_true,beq_iff_eq,List.all_eq_true,List.mem_range]at h
    obtain ⟨rfl,h⟩:=h
    cases x<;>first|exact hx.elim|skip
    cases y<;>first|exact hy.elim|skip
    rename_i n1 k1 f1 n2 k2 f2
    obtain ⟨rfl,rfl,hx⟩:=hx
    obtain ⟨rfl,rfl,hy⟩:=hy
    have hc:P.cellsOf et=i.size:=by simp [Program.cellsOf,hi]
    simp only [GV.val]
    rw [run_equalIn_array w (e+d) _ _ hu hi,hc]
    have key:∀(is:List Nat),(∀j∈is,j<n2)→(Op.eqItems (e+d) et i.size (GV.flat (.ar n2 i.size f1)).toArray (GV.flat (.ar n2 i.size f2)).toArray is).run P w= .ok (is.all fun j=>ziC (f1 j) (f2 j)) w:=by
     intro is
     induction is with
     |nil=>intro _;simp [Op.eqItems]
     |cons j is ihl=>
      intro hj
      have hjn:=hj j (by simp)
      obtain ⟨g1,g2⟩:=GV.get_ar n2 i.size f1 j hjn
      obtain ⟨g3,g4⟩:=GV.get_ar n2 i.size f2 j hjn
      have hf:=(h j hjn).1
      have p1:=zfj (P:=P) hdd hi okx g1 (zmh (hx j hjn) _ _ hf) w
      have p2:=zfj (P:=P) hdd hi oky g3 (zmh (hy j hjn) _ _ hf) w
      rw [g2]at p1;rw [g4]at p2
      have p3:=ih et (f j) (f1 j) (f2 j) (h j hjn).2 (hx j hjn) (hy j hjn) (okx j hjn).1 (oky j hjn).1 w
      simp only [Op.eqItems,Sem.run_bind,p1,p2,p3,Result.andThen_ok,List.all_cons]
      cases hr:ziC (f1 j) (f2 j)
      ·simp
      ·simpa using ihl (fun j hj'=>hj j (by simp [hj']))
    exact key _ (fun j hj=>List.mem_range.1 hj)
   ·cases h
  ·rename_i zz _ _ fs hu
   simp only [Bool.and_eq_true,Bool.not_eq_true',List.all_eq_true,List.mem_range]at h
   obtain ⟨⟨hch,hst⟩,h⟩:=h
   have hfs:P.fieldsOf t=fs:=by simp [Program.fieldsOf,hu]
   rw [zfO (zvD _ _ hch x hx),zfO (zvD _ _ hch y hy),run_equalIn_struct w (e+d) t _ _ (by rw [hfs];exact hu) hst,hfs,zqc _ _ _ _ hch hx hy]
   have key:∀(l:List Field) (k:Nat),(∀j,l[j]? =fs[k+j]?)→(Op.eqFields (e+d) (GV.flat x).toArray (GV.flat y).toArray l).run P w= .ok ((List.range' k l.length).all fun i=>ziC (x.getT [i]) (y.getT [i])) w:=by
    intro l
    induction l with
    |nil=>intro k _;simp [Op.eqFields]
    |cons f l ihl=>
     intro k hl
     have h0:fs[k]? =some f:=by simpa using (hl 0).symm
     have hk:k<fs.size:=(Array.getElem?_eq_some_iff.1 h0).1
     have h1:=h k hk
     rw [h0]at h1
     simp only [Bool.and_eq_true,bne_iff_ne,ne_eq]at h1
     obtain ⟨hn,h1⟩:=h1
     split at h1
     ·rename_i dd i hdd hi
      simp only [Bool.and_eq_true,beq_iff_eq]at h1
      obtain ⟨⟨⟨hs,ho⟩,hfit⟩,hsh⟩:=h1
      obtain ⟨uu,hu'⟩:=Option.isSome_iff_exists.mp hs
      obtain ⟨u1,a1,a2,a3⟩:=zyc x zz [k] hx uu hu'
      obtain ⟨u2,b1,b2,b3⟩:=zyc y zz [k] hy uu hu'
      rw [GV.getT_of zz [k] uu hu']at hfit hsh
      have p1:=zfj (P:=P) hdd hi okx a1 (zmh a2 _ _ hfit) w
      have p2:=zfj (P:=P) hdd hi oky b1 (zmh b2 _ _ hfit) w
      rw [a3,ho]at p1;rw [b3,ho]at p2
      have p3:=ih f.type uu u1 u2 hsh a2 b2 (GV.get_at x [k] u1 okx a1).1 (GV.get_at y [k] u2 oky b1).1 w
      have ihl':=ihl (k+1) (fun j=>by have:=hl (j+1);simpa [Nat.add_assoc,Nat.add_comm 1 j]using this)
      simp only [Op.eqFields,hn,ne_eq,not_false_eq_true,if_true,Sem.run_bind,p1,p2,p3,Result.andThen_ok,List.length_cons,List.range'_succ,List.all_cons,GV.getT_of x [k] u1 a1,GV.getT_of y [k] u2 b1]
      cases hr:ziC u1 u2
      ·simp
      ·simpa using ihl'
     ·cases h1
   have:=key fs.toList 0 (by simp)
   rw [this]
   simp [List.range_eq_range']
  ·cases h
theorem zwf {P:Program} {t:TypeId} {z x y:GV} (h1:zkj P 20 t z=true) (h2:P.eqGuardType P.depth t=false) (hn:z.isS=false) (hx:kin x z) (hy:kin y z) (okx:x.ok) (oky:y.ok):EqG P t x y (ziC x y):=by
 have key:∀uu,kin uu z→uu.val= .agg (GV.flat uu).toArray:=fun uu hu=>zfO (fun v e=>by
  subst e
  cases z<;>first|exact hu.elim|skip
  cases hn)
 have h:=fun w=>zAG (P:=P) 9980 20 t z x y h1 hx hy okx oky w
 intro a b w
 have hw:=h w
 rw [key x hx,key y hy]at hw ⊢
 constructor
 ·rw [Sem.run_bind,run_eqGuard_agg w _ _ _ _ _ _ h2,Result.andThen_ok,run_eql_struct w,hw];rfl
 ·rw [Sem.run_bind,run_eqGuard_agg w _ _ _ _ _ _ h2,Result.andThen_ok,run_neq_struct w,hw];rfl
theorem zup {P:Program} {t:TypeId} (hu:P.underlying t=some .bool) (a b:Bool):EqG P t (.s (.bool a)) (.s (.bool b)) (a==b):=by
 intro x y w
 have h:(Op.equal t (.bool a) (.bool b)).run P w= .ok (a==b) w:=run_equalIn_bool' w 9999 t a b hu
 constructor<;>simp [eqGuard,binOp,GV.val,Sem.run_bind,h]
end Go.Proofs.YtmjiojflncffeaaGreat.Vc

set_option linter.unusedVariables false
set_option maxRecDepth 100000
namespace Go.Proofs.YtmjiojflncffeaaGreat.Vc
open Go Go.Proofs
abbrev zwK:Nat:=60
def zpy:Cd:=
 (.seq (.rg [⟨none,[(some 2, .mv (.c (.bool false)))]⟩] [0])
 (.seq (.rg [⟨none,[(some 3, .mv (.t 0)),(some 4, .bin .eql (.t 3) (.c (.int .i64 1))),(some 5, .mv (.t 4))]⟩,⟨some (5,false),[(some 6, .mv (.t 0)),(some 7, .bin .eql (.t 6) (.c (.int .i64 2)))]⟩,⟨none,[(some 8, .pick (.t 5) (.c (.bool true)) (.t 7)),(some 2, .mv (.t 8))]⟩] [2])
 .ret))
theorem zwJ:Ok Tryz.prog 60 zpy 9 [] [.tmp 2]:=Ok.mk' Tryz.func60 (by kernel_rfl) (by kernel_rfl) (by kernel_rfl)
abbrev zmY:Nat:=56
def zhM:Cd:=
 (.seq (.rg [⟨none,[(some 2, .mv (.c (.bool false)))]⟩] [0])
 (.seq (.rg [⟨none,[(some 3, .mv (.t 0)),(some 4, .eqA false 40 (.t 3) (.c (.pointer none))),(some 5, .mv (.t 4))]⟩,⟨some (5,false),[(some 6, .mv (.t 0)),(some 7, .nilc (.t 6)),(some 8, .fldA (.t 7) 0 0),(some 9, .ld (.t 8) 1 false),(some 10, .eqA false 114 (.t 9) (.c (.map none)))]⟩,⟨none,[(some 11, .pick (.t 5) (.c (.bool true)) (.t 10)),(some 2, .mv (.t 11))]⟩] [2])
 .ret))
theorem zmO:Ok Tryz.prog 56 zhM 12 [] [.tmp 2]:=Ok.mk' Tryz.func56 (by kernel_rfl) (by kernel_rfl) (by kernel_rfl)
abbrev zvq:Nat:=66
def znT:Cd:=
 (.seq (.rg [⟨none,[(some 0, .mv (.c (.pointer none)))]⟩] [])
 (.seq (.rg [⟨none,[(some 1, .mkm),(some 2, .mkm),(some 3, .bld (.c (.c (.s (.int .i64 0)) (.c (.s (.string ⟨#[]⟩)) .u)) (.c (.s (.map none)) (.c (.s (.map none)) .u))) [(1,(.t 1)),(2,(.t 2))]),(some 4, .box 132 (.t 3)),(some 0, .mv (.t 4)),(none, .gh)]⟩] [0])
 .ret))
theorem zvu:Ok Tryz.prog 66 znT 5 [] [.tmp 0]:=Ok.mk' Tryz.func66 (by kernel_rfl) (by kernel_rfl) (by kernel_rfl)
abbrev zwN:Nat:=34
def zpr:Cd:=
 (.seq (.rg [⟨none,[(some 0, .mv (.c (.pointer none)))]⟩] [])
 (.seq (.rg [⟨none,[(some 1, .mkm),(some 2, .call 66 []),(none, .mup (some .i64) (.t 1) (.c (.int .i64 1)) (.t 2)),(some 3, .call 66 []),(none, .mup (some .i64) (.t 1) (.c (.int .i64 2)) (.t 3)),(some 4, .mv (.t 1)),(some 5, .bld (.c (.s (.int .u8 0)) .u) []),(some 6, .box 139 (.t 5)),(none, .gh),(some 7, .bld (.c (.s (.map none)) (.c (.s (.pointer none)) (.c (.s (.int .i64 0)) (.c (.s (.slice none 0 0)) (.c (.s (.int .i64 0)) .u))))) [(0,(.t 4)),(1,(.t 6))]),(some 8, .box 118 (.t 7)),(some 0, .mv (.t 8)),(none, .gh)]⟩] [0])
 .ret))
theorem zvI:Ok Tryz.prog 34 zpr 9 [] [.tmp 0]:=Ok.mk' Tryz.func34 (by kernel_rfl) (by kernel_rfl) (by kernel_rfl)
abbrev zoI:Nat:=67
def zeh:Cd:=
 (.seq (.gh (.rgq [⟨none,[(some 30, .mv (.t 0)),(some 31, .nilc (.t 30)),(some 32, .fldA (.t 31) 0 0),(some 33, .ld (.t 32) 1 false),(some 34, .mv (.t 1)),(some 35, .mlk (some .i64) (.t 33) (.t 34) (.pointer none) false),(some 36, .ld (.t 5) 2 true)]⟩] [⟨none,[(some 37, .nilc (.t 35)),(some 38, .fldA (.t 37) 0 0),(none, .st (.t 38) (.t 36) 2)]⟩] [0,1,5]))
 (.seq (.rgq [⟨none,[(some 39, .mv (.t 0)),(some 40, .nilc (.t 39)),(some 41, .fldA (.t 40) 0 0),(some 42, .ld (.t 41) 1 false),(some 43, .fldA (.t 5) 0 0),(some 44, .ld (.t 43) 1 false)]⟩] [⟨none,[(some 45, .mlk (some .i64) (.t 42) (.t 44) (.pointer none) false),(some 7, .mv (.t 45))]⟩] [1,7])
 (.seq (.rg [⟨none,[(some 46, .mv (.t 7)),(some 47, .eqA true 115 (.t 46) (.c (.pointer none)))]⟩] [1,7,47])
 (.ite (.t 47)
 (.rg [⟨none,[(some 48, .mv (.t 7)),(some 49, .nilc (.t 48)),(some 50, .fldA (.t 49) 2 3),(some 51, .ld (.t 50) 1 false),(some 52, .mv (.t 1)),(none, .mup (some .i64) (.t 51) (.t 52) (.c (.int .i64 1)))]⟩] [])
 .skip))))
def ziR:Cd:=
 (.seq (.rg [⟨none,[(some 5, .box 69 (.t 2))]⟩] [0,1,5])
 (.seq (.seq (.rgq [⟨none,[(some 8, .mv (.t 0)),(some 9, .nilc (.t 8)),(some 10, .fldA (.t 9) 0 0),(some 11, .ld (.t 10) 1 false),(some 12, .mv (.t 0)),(some 13, .nilc (.t 12)),(some 14, .fldA (.t 13) 0 0),(some 15, .ld (.t 14) 1 false),(some 16, .mv (.t 1)),(some 17, .mlk (some .i64) (.t 15) (.t 16) (.pointer none) false),(some 18, .nilc (.t 17)),(some 19, .fldA (.t 18) 0 0),(some 20, .fldA (.t 19) 0 0),(some 21, .ld (.t 20) 1 false)]⟩] [⟨none,[(some 22, .mlk (some .i64) (.t 11) (.t 21) (.pointer none) false),(some 6, .mv (.t 22))]⟩] [0,1,5,6])
 (.seq (.rg [⟨none,[(some 23, .mv (.t 6)),(some 24, .eqA true 115 (.t 23) (.c (.pointer none)))]⟩] [0,1,5,6,24])
 (.ite (.t 24)
 (.rg [⟨none,[(some 25, .mv (.t 6)),(some 26, .nilc (.t 25)),(some 27, .fldA (.t 26) 2 3),(some 28, .ld (.t 27) 1 false),(some 29, .mv (.t 1)),(none, .mdl (some .i64) (.t 28) (.t 29))]⟩] [0,1,5])
 .skip)))
 zeh))
theorem zoP:Ok Tryz.prog 67 ziR 53 [(1,14),(4,7),(5,6)] []:=Ok.mk' Tryz.func67 (by kernel_rfl) (by kernel_rfl) (by kernel_rfl)
abbrev zlL:Nat:=90
def zfu:Cd:=
 (.seq (.rg [⟨none,[(some 15, .bin .lss (.t 14) (.t 13))]⟩] [0,1,2,13,14,15])
 (.seq (.ite (.t 15)
 .skip
 (.exit 0))
 (.seq (.block 1 (.seq (.seq (.rg [⟨none,[(some 16, .mv (.t 1)),(some 17, .mv (.t 2)),(some 18, .bin .eql (.t 16) (.t 17))]⟩] [0,1,2,13,14,18])
 (.ite (.t 18)
 (.seq (.rg [⟨none,[(some 6, .mv (.c (.bool true)))]⟩] [6])
 .ret)
 .skip))
 (.seq (.rg [⟨none,[(some 19, .mv (.t 0)),(some 20, .nilc (.t 19)),(some 21, .fldA (.t 20) 0 0),(some 22, .ld (.t 21) 1 false),(some 23, .mv (.t 1)),(some 24, .mlk (some .i64) (.t 22) (.t 23) (.pointer none) false),(some 7, .mv (.t 24))]⟩] [0,1,2,7,13,14])
 (.seq (.seq (.rg [⟨none,[(some 25, .mv (.t 7)),(some 26, .eqA false 115 (.t 25) (.c (.pointer none))),(some 27, .mv (.t 26))]⟩,⟨some (27,false),[(some 28, .mv (.t 1)),(some 29, .call 60 [(.t 28)])]⟩,⟨none,[(some 30, .pick (.t 27) (.c (.bool true)) (.t 29))]⟩] [0,2,7,13,14,30])
 (.ite (.t 30)
 (.seq (.rg [⟨none,[(some 6, .mv (.c (.bool false)))]⟩] [6])
 .ret)
 .skip))
 (.rg [⟨none,[(some 31, .mv (.t 7)),(some 32, .nilc (.t 31)),(some 33, .fldA (.t 32) 0 0),(some 34, .fldA (.t 33) 0 0),(some 35, .ld (.t 34) 1 false),(some 1, .mv (.t 35))]⟩] [0,1,2,13,14])))))
 (.rg [⟨none,[(some 36, .bin .add (.t 14) (.c (.int .i64 1))),(some 14, .mv (.t 36))]⟩] [0,1,2,13,14]))))
def zgZ:Cd:=
 (.seq (.rg [⟨none,[(some 6, .mv (.c (.bool false)))]⟩] [0,1,2])
 (.seq (.seq (.rg [⟨none,[(some 8, .mv (.t 0)),(some 9, .nilc (.t 8)),(some 10, .fldA (.t 9) 0 0),(some 11, .ld (.t 10) 1 false),(some 12, .mln (some .i64) (.t 11)),(some 13, .bin .add (.t 12) (.c (.int .i64 1))),(some 14, .mv (.c (.int .i64 0)))]⟩] [0,1,2,13,14])
 (.block 0 (.loop zfu)))
 (.seq (.rg [⟨none,[(some 6, .mv (.c (.bool false)))]⟩] [6])
 .ret)))
theorem zlu:Ok Tryz.prog 90 zgZ 37 [] [.tmp 6]:=Ok.mk' Tryz.func90 (by kernel_rfl) (by kernel_rfl) (by kernel_rfl)
abbrev zoB:Nat:=53
def ziL:Cd:=
 (.seq (.rg [⟨none,[(some 3, .box 26 (.t 1)),(some 4, .mv (.c (.bool false)))]⟩] [0,3])
 (.seq (.seq (.rg [⟨none,[(some 7, .mv (.t 0)),(some 8, .call 56 [(.t 7)])]⟩] [0,3,8])
 (.ite (.t 8)
 (.seq (.rg [⟨none,[(some 4, .mv (.c (.bool false)))]⟩] [4])
 .ret)
 .skip))
 (.seq (.rgq [⟨none,[(some 9, .mv (.t 0)),(some 10, .nilc (.t 9)),(some 11, .fldA (.t 10) 0 0),(some 12, .ld (.t 11) 1 false),(some 13, .fldA (.t 3) 2 3),(some 14, .ld (.t 13) 1 false),(some 15, .mlk (some .i64) (.t 12) (.t 14) (.pointer none) false),(some 16, .eqA true 115 (.t 15) (.c (.pointer none))),(some 17, .mv (.t 0)),(some 18, .nilc (.t 17)),(some 19, .fldA (.t 18) 0 0),(some 20, .ld (.t 19) 1 false),(some 21, .fldA (.t 3) 3 4),(some 22, .ld (.t 21) 1 false),(some 23, .mlk (some .i64) (.t 20) (.t 22) (.pointer none) false),(some 24, .eqA true 115 (.t 23) (.c (.pointer none))),(some 5, .mv (.t 16))]⟩] [⟨none,[(some 6, .mv (.t 24))]⟩] [0,3,5,6])
 (.seq (.seq (.rg [⟨none,[(some 25, .fldA (.t 3) 1 2),(some 26, .ld (.t 25) 1 false)]⟩] [0,3,5,6,26])
 (.block 0 (.seq (.rg [⟨none,[(some 28, .bin .eql (.t 26) (.c (.int .i64 1))),(some 27, .mv (.t 28))]⟩] [0,3,5,6,26,27])
 (.ite (.t 27)
 (.seq (.rg [⟨none,[(some 29, .fldA (.t 3) 2 3),(some 30, .ld (.t 29) 1 false),(some 31, .bin .gtr (.t 30) (.c (.int .i64 2))),(some 32, .mv (.t 31))]⟩,⟨some (32,true),[(some 33, .mv (.t 5)),(some 34, .un .not (.t 33))]⟩,⟨none,[(some 35, .pick (.t 32) (.t 34) (.c (.bool false))),(some 36, .mv (.t 35))]⟩,⟨some (36,true),[(some 37, .mv (.t 6))]⟩,⟨none,[(some 38, .pick (.t 36) (.t 37) (.c (.bool false))),(some 39, .mv (.t 38))]⟩,⟨some (39,true),[(some 40, .fldA (.t 3) 4 5),(some 41, .ld (.t 40) 1 false),(some 42, .call 89 [(.t 41)])]⟩,⟨none,[(some 43, .pick (.t 39) (.t 42) (.c (.bool false))),(some 4, .mv (.t 43))]⟩] [4])
 .ret)
 (.seq (.rg [⟨none,[(some 45, .bin .eql (.t 26) (.c (.int .i64 2))),(some 44, .mv (.t 45))]⟩] [0,3,5,6,26,44])
 (.ite (.t 44)
 (.seq (.rg [⟨none,[(some 46, .mv (.t 5)),(some 47, .mv (.t 46))]⟩,⟨some (47,true),[(some 48, .fldA (.t 3) 2 3),(some 49, .ld (.t 48) 1 false),(some 50, .call 60 [(.t 49)]),(some 51, .un .not (.t 50))]⟩,⟨none,[(some 52, .pick (.t 47) (.t 51) (.c (.bool false))),(some 53, .mv (.t 52))]⟩,⟨some (53,true),[(some 54, .mv (.t 6))]⟩,⟨none,[(some 55, .pick (.t 53) (.t 54) (.c (.bool false))),(some 56, .mv (.t 55))]⟩,⟨some (56,true),[(some 57, .mv (.t 0)),(some 58, .fldA (.t 3) 3 4),(some 59, .ld (.t 58) 1 false),(some 60, .fldA (.t 3) 2 3),(some 61, .ld (.t 60) 1 false),(some 62, .call 90 [(.t 57),(.t 59),(.t 61)]),(some 63, .un .not (.t 62))]⟩,⟨none,[(some 64, .pick (.t 56) (.t 63) (.c (.bool false))),(some 65, .mv (.t 64))]⟩,⟨some (65,true),[(some 66, .fldA (.t 3) 4 5),(some 67, .ld (.t 66) 1 false),(some 68, .call 89 [(.t 67)])]⟩,⟨none,[(some 69, .pick (.t 65) (.t 68) (.c (.bool false))),(some 4, .mv (.t 69))]⟩] [4])
 .ret)
 (.seq (.rg [⟨none,[(some 71, .bin .eql (.t 26) (.c (.int .i64 3))),(some 70, .mv (.t 71))]⟩] [3,5,70])
 (.ite (.t 70)
 (.seq (.rg [⟨none,[(some 72, .mv (.t 5)),(some 73, .mv (.t 72))]⟩,⟨some (73,true),[(some 74, .fldA (.t 3) 5 6),(some 75, .ld (.t 74) 1 false),(some 76, .fldA (.t 3) 6 7),(some 77, .ld (.t 76) 1 false),(some 78, .call 91 [(.t 75),(.t 77)])]⟩,⟨none,[(some 79, .pick (.t 73) (.t 78) (.c (.bool false))),(some 4, .mv (.t 79))]⟩] [4])
 .ret)
 .skip))))))))
 (.seq (.rg [⟨none,[(some 4, .mv (.c (.bool false)))]⟩] [4])
 .ret)))))
theorem zoU:Ok Tryz.prog 53 ziL 80 [(3,17)] [.tmp 4]:=Ok.mk' Tryz.func53 (by kernel_rfl) (by kernel_rfl) (by kernel_rfl)
abbrev znX:Nat:=89
def zjg:Cd:=
 (.seq (.rg [⟨none,[(some 24, .bin .lss (.t 23) (.t 22))]⟩] [21,22,23,24])
 (.seq (.ite (.t 24)
 .skip
 (.exit 0))
 (.seq (.block 1 (.seq (.rg [⟨none,[(some 25, .idxS (.t 21) (.t 23) 1),(some 26, .ld (.t 25) 1 false),(some 4, .mv (.t 26))]⟩] [4,21,22,23])
 (.seq (.rg [⟨none,[(some 27, .mv (.t 4)),(some 28, .bin .eql (.t 27) (.c (.int .u8 47)))]⟩] [21,22,23,28])
 (.ite (.t 28)
 (.seq (.rg [⟨none,[(some 2, .mv (.c (.bool false)))]⟩] [2])
 .ret)
 .skip))))
 (.rg [⟨none,[(some 29, .bin .add (.t 23) (.c (.int .i64 1))),(some 23, .mv (.t 29))]⟩] [21,22,23]))))
def zoj:Cd:=
 (.seq (.rg [⟨none,[(some 2, .mv (.c (.bool false)))]⟩] [0])
 (.seq (.seq (.rg [⟨none,[(some 5, .mv (.t 0)),(some 6, .bin .eql (.t 5) (.c (.string ⟨#[]⟩))),(some 7, .mv (.t 6))]⟩,⟨some (7,false),[(some 8, .mv (.t 0)),(some 9, .lenS (.t 8)),(some 10, .bin .gtr (.t 9) (.c (.int .i64 255)))]⟩,⟨none,[(some 11, .pick (.t 7) (.c (.bool true)) (.t 10)),(some 12, .mv (.t 11))]⟩,⟨some (12,false),[(some 13, .mv (.t 0)),(some 14, .bin .eql (.t 13) (.c (.string ⟨#[46]⟩)))]⟩,⟨none,[(some 15, .pick (.t 12) (.c (.bool true)) (.t 14)),(some 16, .mv (.t 15))]⟩,⟨some (16,false),[(some 17, .mv (.t 0)),(some 18, .bin .eql (.t 17) (.c (.string ⟨#[46,46]⟩)))]⟩,⟨none,[(some 19, .pick (.t 16) (.c (.bool true)) (.t 18))]⟩] [0,19])
 (.ite (.t 19)
 (.seq (.rg [⟨none,[(some 2, .mv (.c (.bool false)))]⟩] [2])
 .ret)
 .skip))
 (.seq (.seq (.rg [⟨none,[(some 20, .mv (.t 0)),(some 21, .s2b 5 (.t 20)),(some 22, .len (.t 21)),(some 23, .mv (.c (.int .i64 0)))]⟩] [21,22,23])
 (.block 0 (.loop zjg)))
 (.seq (.rg [⟨none,[(some 2, .mv (.c (.bool true)))]⟩] [2])
 .ret))))
theorem zuO:Ok Tryz.prog 89 zoj 30 [] [.tmp 2]:=Ok.mk' Tryz.func89 (by kernel_rfl) (by kernel_rfl) (by kernel_rfl)
abbrev ziw:Nat:=104
def ziV:Cd:=
 (.seq (.seq (.rg [⟨none,[(some 19, .mv (.t 3)),(some 20, .mv (.t 0)),(some 21, .lenS (.t 20)),(some 22, .bin .lss (.t 19) (.t 21))]⟩] [0,3,22])
 (.ite (.t 22)
 .skip
 (.exit 0)))
 (.seq (.block 1 (.seq (.rg [⟨none,[(some 25, .mv (.t 0)),(some 26, .mv (.t 3)),(some 27, .strI (.t 25) (.t 26)),(some 28, .bin .eql (.t 27) (.c (.int .u8 47)))]⟩] [0,3,28])
 (.ite (.t 28)
 (.seq (.rg [⟨none,[(some 2, .mv (.c (.bool false)))]⟩] [2])
 .ret)
 .skip)))
 (.rg [⟨none,[(some 23, .mv (.t 3)),(some 24, .bin .add (.t 23) (.c (.int .i64 1))),(some 3, .mv (.t 24))]⟩] [0,3])))
def zmC:Cd:=
 (.seq (.rg [⟨none,[(some 2, .mv (.c (.bool false)))]⟩] [0])
 (.seq (.seq (.rg [⟨none,[(some 4, .mv (.t 0)),(some 5, .bin .eql (.t 4) (.c (.string ⟨#[]⟩))),(some 6, .mv (.t 5))]⟩,⟨some (6,false),[(some 7, .mv (.t 0)),(some 8, .lenS (.t 7)),(some 9, .bin .gtr (.t 8) (.c (.int .i64 255)))]⟩,⟨none,[(some 10, .pick (.t 6) (.c (.bool true)) (.t 9)),(some 11, .mv (.t 10))]⟩,⟨some (11,false),[(some 12, .mv (.t 0)),(some 13, .bin .eql (.t 12) (.c (.string ⟨#[46]⟩)))]⟩,⟨none,[(some 14, .pick (.t 11) (.c (.bool true)) (.t 13)),(some 15, .mv (.t 14))]⟩,⟨some (15,false),[(some 16, .mv (.t 0)),(some 17, .bin .eql (.t 16) (.c (.string ⟨#[46,46]⟩)))]⟩,⟨none,[(some 18, .pick (.t 15) (.c (.bool true)) (.t 17))]⟩] [0,18])
 (.ite (.t 18)
 (.seq (.rg [⟨none,[(some 2, .mv (.c (.bool false)))]⟩] [2])
 .ret)
 .skip))
 (.seq (.seq (.rg [⟨none,[(some 3, .mv (.c (.int .i64 0)))]⟩] [0,3])
 (.block 0 (.loop ziV)))
 (.seq (.rg [⟨none,[(some 2, .mv (.c (.bool true)))]⟩] [2])
 .ret))))
theorem zsR:Ok Tryz.prog 104 zmC 29 [] [.tmp 2]:=Ok.mk' Tryz.func104 (by kernel_rfl) (by kernel_rfl) (by kernel_rfl)
abbrev zuy:Nat:=91
def zoo:Cd:=
 (.seq (.rg [⟨none,[(some 4, .mv (.c (.bool false)))]⟩] [0,1])
 (.seq (.rg [⟨none,[(some 5, .mv (.t 0)),(some 6, .bin .neq (.t 5) (.c (.string ⟨#[]⟩))),(some 7, .mv (.t 6))]⟩,⟨some (7,true),[(some 8, .mv (.t 0)),(some 9, .lenS (.t 8)),(some 10, .bin .leq (.t 9) (.c (.int .i64 255)))]⟩,⟨none,[(some 11, .pick (.t 7) (.t 10) (.c (.bool false))),(some 12, .mv (.t 11))]⟩,⟨some (12,true),[(some 13, .mv (.t 1)),(some 14, .lenS (.t 13)),(some 15, .bin .leq (.t 14) (.c (.int .i64 255)))]⟩,⟨none,[(some 16, .pick (.t 12) (.t 15) (.c (.bool false))),(some 4, .mv (.t 16))]⟩] [4])
 .ret))
theorem zur:Ok Tryz.prog 91 zoo 17 [] [.tmp 4]:=Ok.mk' Tryz.func91 (by kernel_rfl) (by kernel_rfl) (by kernel_rfl)
end Go.Proofs.YtmjiojflncffeaaGreat.Vc

set_option linter.unusedVariables false
set_option linter.unusedSimpArgs false
set_option maxRecDepth 100000
namespace Go.Proofs.YtmjiojflncffeaaGreat.Vc
open Go Go.Proofs
def zdH (l:List UInt8):Bool:= !l.isEmpty&&decide (l.length≤255)&& !(l==[46])&& !(l==[46,46])&& !l.contains 47
theorem zAa {l:List UInt8} (h:zdH l=true):47∉l:=by
 simp only [zdH,Bool.and_eq_true,Bool.not_eq_true',List.contains_eq_mem,decide_eq_false_iff_not]at h
 exact h.2
theorem zsg {l:List UInt8} (h:zdH l=true):l.length≤255:=by
 simp only [zdH,Bool.and_eq_true,decide_eq_true_eq]at h
 exact h.1.1.1.2
def mkS (l:List UInt8):ByteArray:=⟨l.toArray⟩
theorem zuF (l:List UInt8):(mkS l).data.toList=l:=rfl
theorem zii (b:ByteArray):mkS b.data.toList=b:=rfl
theorem zAX {a b:List UInt8} (h:mkS a=mkS b):a=b:=by
 have:=congrArg (fun x:ByteArray=>x.data.toList) h
 simpa [mkS]using this
theorem zjP (l:List UInt8):(mkS l).size=l.length:=by simp [mkS,ByteArray.size]
def gN (n:List UInt8):GV:= .s (.string (mkS n))
theorem zzV (n:List UInt8):(gN n).ok:=rfl
theorem zBJ (ns:List (List UInt8)) (i:Nat):(ns.map gN).getD i (.s (.string ⟨#[]⟩))= .s (.string (mkS (ns.getD i []))):=by
 rw [List.getD_eq_getElem?_getD,List.getElem?_map,List.getD_eq_getElem?_getD]
 cases ns[i]? <;>rfl
theorem zwS (n l:List UInt8):(mkS n=mkS l)=(n=l):=propext ⟨zAX,fun h=>by rw [h]⟩
theorem zwR (n:List UInt8):(mkS n=⟨#[]⟩)=(n=[]):=zwS n []
theorem zsI (n:List UInt8):(mkS n=⟨#[46]⟩)=(n=[46]):=zwS n [46]
theorem znx (n:List UInt8):(mkS n=⟨#[46,46]⟩)=(n=[46,46]):=zwS n [46,46]
theorem zAr (n:List UInt8) (i:Nat):(mkS n).data.getD i 0=n.getD i 0:=by simp [mkS,Array.getD_eq_getD_getElem?,List.getD_eq_getElem?_getD]
theorem zBx (n:List UInt8) (i:Nat):(n.map gb).getD i (gb 0)= .s (.int .u8 (n.getD i 0).toNat):=by
 rw [List.getD_eq_getElem?_getD,List.getElem?_map,List.getD_eq_getElem?_getD]
 cases n[i]? <;>rfl
theorem zvT (b:UInt8):((b.toNat:Int)==47)=(b==47):=by
 by_cases h:b=47
 ·subst h;rfl
 ·have h2:b.toNat≠47:=fun e=>h (by rw [←UInt8.ofNat_toNat (x:=b),e];rfl)
  rw [show (b==47)=false by simpa using h]
  simpa using fun e=>h2 (by omega)
theorem zbK {n:List UInt8} (h:n=[]∨¬n.length≤255∨n=[46]∨n=[46,46]):zdH n=false:=by
 rcases h with rfl|h|rfl|rfl
 ·rfl
 ·simp [zdH];intro _ h2;omega
 ·decide
 ·decide
theorem zjY {n:List UInt8} {i:Nat} (hi:i<n.length) (h:n.getD i 0=47):zdH n=false:=by
 have:47∈n:=by
  rw [List.getD_eq_getElem?_getD,List.getElem?_eq_getElem hi]at h
  simp at h
  rw [←h]
  exact List.getElem_mem _
 cases hn:zdH n with
 |false=>rfl
 |true=>exact absurd this (zAa hn)
theorem zll {n:List UInt8} (h1:n≠[]) (h2:n.length≤255) (h3:n≠[46]) (h4:n≠[46,46]) (h5:∀j,j<n.length→n.getD j 0≠47):zdH n=true:=by
 have:47∉n:=fun h=>by
  obtain ⟨j,hj,e⟩:=List.mem_iff_getElem.1 h
  exact h5 j hj (by rw [List.getD_eq_getElem?_getD,List.getElem?_eq_getElem hj];simpa using e)
 simp [zdH,h1,h2,h3,h4,this]
theorem zBu (n:List UInt8) (hb:n.length≤140737488355328):FnV Tryz.prog znX [gN n] [.s (.bool (zdH n))]:=by
 refine zbx zuO (by simp) (by simp [zzV]) fun w=> ?_
 simp (maxSteps:=2000000) only [zoj,gN,zu,zx,zi,zB,zm,zq,zf,zp,zc,zb,zh,zH,ze,za,zj,RO.isGh,zI,zar,ev,look,zZ,zd,zg,zk,zO,zP,Value.oneCell',cond_true,cond_false,Nat.reduceEqDiff,↓reduceIte,reduceCtorEq,Bool.true_and,Bool.not_false,true_and,zak,List.map_cons,List.map_nil,zD,zal,zC,decide_eq_true_eq,decide_eq_false_iff_not,↓zL,↓zbW,↓zN,zax,zdE,zjP,zwR,zsI,znx]
 refine ⟨fun h0=>⟨fun h1=>⟨fun h2=>⟨fun h3=>by rw [zbK (.inr (.inr (.inr h3)))],fun h3 u=> ?_⟩,fun h2=>by rw [zbK (.inr (.inr (.inl h2)))]⟩,fun h1=>by rw [zbK (.inr (.inl (by omega)))]⟩,fun h0=>by rw [zbK (.inl h0)]⟩
 rw [zuF]
 refine zaP (ι:=Nat) (fun i=>⟨[(21, .row 21 0 (n.length)),(22, .g (.s (.int .i64 (n.length)))),(23, .g (.s (.int .i64 (i))))],[(21, .ro 1 (gb 0) (n.map gb))],[u],PH.no⟩) (fun i=>i≤n.length∧∀j,j<i→n.getD j 0≠47) (fun i=>n.length - i) 0 (by simp) (zR ?_ ?_ rfl rfl rfl) ?_
 ·simp [zaf,look]
 ·simp [zam,look]
 rintro i ⟨hi,hj⟩
 generalize hQ:loopQ _ _ _ _ _=Q
 simp (maxSteps:=2000000) only [zjg,zvT,beq_iff_eq,beq_eq_false_iff_ne,zu,zx,zau,zi,zB,zm,zq,zf,zp,zay,zT,zy,zc,zb,zh,ze,za,zj,ev,look,zd,zg,zk,zaF,zdh,zO,zP,Value.oneCell',cond_true,Nat.reduceEqDiff,↓reduceIte,Nat.zero_add,Bool.true_and,Bool.not_false,true_and,Int.toNat_natCast,decide_eq_true_eq,decide_eq_false_iff_not,ne_eq,zax,zn,zF,zBx]
 refine ⟨fun hlt=>⟨by omega,fun h=> ?_,fun h=> ?_⟩,fun hlt=> ?_⟩
 ·subst hQ
  simp (maxSteps:=2000000) only [zp,zy,zah,look,↓reduceIte,zD,zal,zC,ne_eq]
  rw [zjY (i:=i) (by omega) h]
 ·subst hQ;simp only [zaB];refine ⟨i+1, ?_, ?_,zR ?_ ?_ rfl rfl rfl⟩
  ·refine ⟨by omega,fun j hj2=> ?_⟩
   rcases Nat.lt_succ_iff_lt_or_eq.1 hj2 with h4|rfl
   ·exact hj j h4
   ·exact h
  ·omega
  ·simp only [zaf,look,Nat.reduceEqDiff,↓reduceIte,Bool.and_true,Bool.true_and,true_and,and_true]
   rw [zaN (by omega)]
   try simp
  ·simp [zam,look]
 ·subst hQ
  simp (maxSteps:=2000000) only [zx,zi,zm,zf,zat,zc,zaQ,zb,zh,ze,za,zj,ev,look,zd,zg,zk,Value.oneCell',cond_true,↓reduceIte,zD,zal,zC,ne_eq]
  rw [zll h0 (by omega) h2 h3 fun j hjl=>hj j (by omega)]
theorem zof (n:List UInt8) (hb:n.length≤140737488355328):FnV Tryz.prog ziw [gN n] [.s (.bool (zdH n))]:=by
 refine zbx zsR (by simp) (by simp [zzV]) fun w=> ?_
 simp (maxSteps:=2000000) only [zmC,gN,zu,zx,zi,zB,zm,zq,zf,zp,zc,zb,zh,zH,ze,za,zj,RO.isGh,zI,zar,ev,look,zd,zg,zk,zO,zP,Value.oneCell',cond_true,cond_false,Nat.reduceEqDiff,↓reduceIte,reduceCtorEq,Bool.true_and,Bool.not_false,true_and,zak,List.map_cons,List.map_nil,zD,zal,zC,decide_eq_true_eq,decide_eq_false_iff_not,↓zL,↓zbW,↓zN,zax,zdE,zjP,zwR,zsI,znx]
 refine ⟨fun h0=>⟨fun h1=>⟨fun h2=>⟨fun h3=>by rw [zbK (.inr (.inr (.inr h3)))],fun h3=> ?_⟩,fun h2=>by rw [zbK (.inr (.inr (.inl h2)))]⟩,fun h1=>by rw [zbK (.inr (.inl (by omega)))]⟩,fun h0=>by rw [zbK (.inl h0)]⟩
 refine zaP (ι:=Nat) (fun i=>⟨[(0, .g (.s (.string (mkS n)))),(3, .g (.s (.int .i64 (i))))],[],[],PH.no⟩) (fun i=>i≤n.length∧∀j,j<i→n.getD j 0≠47) (fun i=>n.length - i) 0 (by simp) (zR ?_ ?_ rfl rfl rfl) ?_
 ·simp [zaf,look]
 ·simp [zam,look]
 rintro i ⟨hi,hj⟩
 generalize hQ:loopQ _ _ _ _ _=Q
 simp (maxSteps:=2000000) only [ziV,zvT,beq_iff_eq,beq_eq_false_iff_ne,zu,zx,zau,zi,zB,zm,zq,zf,zp,zay,zT,zy,zc,zb,zh,ze,za,zj,ev,look,zd,zg,zk,zO,zP,Value.oneCell',cond_true,Nat.reduceEqDiff,↓reduceIte,reduceCtorEq,Bool.true_and,true_and,Int.toNat_natCast,decide_eq_true_eq,decide_eq_false_iff_not,ne_eq,zax,zjP,zAr]
 refine ⟨fun hlt=>⟨by omega,fun h=> ?_,fun h=> ?_⟩,fun hlt=> ?_⟩
 ·subst hQ
  simp (maxSteps:=2000000) only [zp,zy,zah,look,↓reduceIte,zD,zal,zC,ne_eq]
  rw [zjY (i:=i) (by omega) h]
 ·subst hQ;simp only [zaB];refine ⟨i+1, ?_, ?_,zR ?_ ?_ rfl rfl rfl⟩
  ·refine ⟨by omega,fun j hj2=> ?_⟩
   rcases Nat.lt_succ_iff_lt_or_eq.1 hj2 with h4|rfl
   ·exact hj j h4
   ·exact h
  ·omega
  ·simp only [zaf,look,↓reduceIte,reduceCtorEq,Bool.and_true,Bool.true_and,true_and,and_true]
   rw [zaN (by omega)]
   try simp
  ·simp [zam,look]
 ·subst hQ
  simp (maxSteps:=2000000) only [zx,zi,zm,zf,zat,zc,zaQ,zb,zh,ze,za,zj,ev,look,zd,zg,zk,Value.oneCell',cond_true,↓reduceIte,zD,zal,zC,ne_eq]
  rw [zll h0 (by omega) h2 h3 fun j hjl=>hj j (by omega)]
def zcW (b:ByteArray):Bool:=zdH b.data.toList
theorem zqG (b:ByteArray) (hb:b.size≤140737488355328):FnV Tryz.prog znX [.s (.string b)] [.s (.bool (zcW b))]:=by
 have:=zBu b.data.toList (by rw [Array.length_toList];exact hb)
 rwa [gN,zii]at this
theorem zmW (n:Int):FnV Tryz.prog zwK [.s (.int .i64 n)] [.s (.bool (n==1||n==2))]:=by
 refine zbx zwJ (by simp) (by simp [GV.ok,Value.oneCell']) fun w=> ?_
 simp (maxSteps:=2000000) only [zpy,zx,zi,zm,zf,zc,zb,zh,zH,ze,za,zj,RO.isGh,zI,zar,ev,look,zd,zg,zk,zO,zP,Value.oneCell',cond_true,cond_false,Nat.reduceEqDiff,↓reduceIte,reduceCtorEq,Bool.true_and,Bool.not_false,true_and,zak,List.map_cons,List.map_nil,zD,zal,zC,↓zL,↓zN,zdE]
 cases (n==1)<;>simp
def zcl (a b:ByteArray):Bool:= !decide (a=⟨#[]⟩)&&decide (a.size≤255)&&decide (b.size≤255)
theorem zxs (a b:ByteArray):FnV Tryz.prog zuy [.s (.string a), .s (.string b)] [.s (.bool (zcl a b))]:=by
 refine zbx zur (by simp) (by simp [GV.ok,Value.oneCell']) fun w=> ?_
 simp (maxSteps:=2000000) only [zoo,zx,zi,zm,zf,zc,zb,zh,zH,ze,za,zj,RO.isGh,zI,zar,ev,look,zd,zg,zk,zO,zP,Value.oneCell',cond_true,cond_false,Nat.reduceEqDiff,↓reduceIte,reduceCtorEq,Nat.zero_add,Bool.true_and,Bool.not_true,true_and,zak,List.map_cons,List.map_nil,zD,zal,zC,decide_eq_true_eq,decide_eq_false_iff_not,↓zL,↓zN,zax]
 have e:∀n:Nat,decide ((n:Int)≤255)=decide (n≤255):=fun n=>decide_eq_decide.2 (by omega)
 refine ⟨fun h1=>⟨fun h2=> ?_,fun h2=> ?_⟩,fun h1=> ?_⟩
 ·rw [zcl,h1,decide_eq_true (show a.size≤255 by omega),e];rfl
 ·rw [zcl,h1,decide_eq_false (show ¬a.size≤255 by omega)];rfl
 ·rw [zcl,h1];rfl
end Go.Proofs.YtmjiojflncffeaaGreat.Vc

set_option linter.unusedVariables false
set_option linter.unusedSimpArgs false
namespace Go.Proofs.YtmjiojflncffeaaGreat.Vc
open Go
theorem zgg {C:Ctx} {K:KT} {σ:SS} (h:ghC C (fun τ=>ghC C K τ) σ):ghC C K σ:=by
 constructor
 intro a w hR
 obtain ⟨τ,h1,h2⟩:=h.h a w hR
 exact h2.h a w h1
theorem zzm {C:Ctx} {K:KT} {σ:SS} (h:K σ):ghC C K σ:=⟨fun _ _ hR=>⟨σ,hR,h⟩⟩
theorem zpc {C:Ctx} {ph:List PH} {m u:PH} {b o:Nat} {y:GV} {cs:Array Value} {e:TypeId} {fz:Nat×Nat} (hu:KN C.u0 (m::ph) u) (hb:u b=some (.cells cs e fz)) (hy:y.ok) (hr:RowAt cs o y.flat):zce C ph m b o y:=by
 refine ⟨hy,cs,e,fz, ?_,hr⟩
 rcases hu b _ hb with h|⟨v,hv,h⟩
 ·exact .inr (.inr h)
 ·rcases List.mem_cons.1 hv with rfl|hv
  ·exact .inl h
  ·exact .inr (.inl ⟨v,hv,h⟩)
theorem SlR.shape {u:PH} {v:Value} {z:Nat} {xs:List GV} (h:SlR u v z xs):
  (xs=[]∧∃a c,v= .slice a 0 c)∨(xs≠[]∧∃b o c,v= .slice (some ⟨b,o,none⟩) xs.length c∧xs.length≤c∧∀{C:Ctx} {ph:List PH} {m:PH},KN C.u0 (m::ph) u→∀i x,xs[i]? =some x→zce C ph m b (o+i*z) x):=by
 obtain ⟨hels,⟨rfl,rfl⟩|⟨⟨b,o,sp⟩,c,rfl,hc,hs⟩⟩:=h
 ·exact .inl ⟨rfl,none,0,rfl⟩
 ·rcases xs.eq_nil_or_concat with rfl|hx
  ·exact .inl ⟨rfl,some ⟨b,o,sp⟩,c,rfl⟩
  ·have hx:xs≠[]:=by obtain ⟨l,y,rfl⟩:=hx;simp
   have:0<xs.length:=List.length_pos_iff.2 hx
   obtain ⟨cs,e,fz,h1,h2,h3⟩:=hs (by omega)
   simp only at h1 h2 h3
   subst h1
   refine .inr ⟨hx,b,o,c,rfl,hc,fun hu i x hix=>zpc hu h2 (hels x (List.mem_of_getElem? hix)).1 fun j v hj=> ?_⟩
   rw [Nat.add_assoc]
   exact h3 _ _ (zjo hels hix j v hj)
end Go.Proofs.YtmjiojflncffeaaGreat.Vc

set_option linter.unusedVariables false
set_option linter.unusedSimpArgs false
namespace Go.Proofs.YtmjiojflncffeaaGreat.Vc
open Go
section
variable {α:Type}
def zcv:List (Int×α)→Int→Option α
 |[],_=>none
 |(k,x)::l,n=>if k=n then some x else zcv l n
def zlk (f:α→α):List (Int×α)→Int→List (Int×α)
 |[],_=>[]
 |(k,x)::l,n=>if k=n then (k,f x)::l else (k,x)::zlk f l n
def zky:List (Int×α)→Int→List (Int×α)
 |[],_=>[]
 |(k,x)::l,n=>if k=n then l else (k,x)::zky l n
theorem zuE (f:α→α):∀(l:List (Int×α)) (n j:Int),zcv (zlk f l n) j=if j=n then (zcv l j).map f else zcv l j
 |[],n,j=>by simp [zcv,zlk]
 |(k,x)::l,n,j=>by
  by_cases h1:k=n
  ·subst h1
   by_cases h2:k=j
   ·subst h2;simp [zcv,zlk]
   ·simp [zcv,zlk,h2,Ne.symm h2]
  ·by_cases h2:k=j
   ·subst h2;simp [zcv,zlk,h1]
   ·simp [zcv,zlk,h1,h2,zuE f l n j]
theorem zgD (f:α→α):∀(l:List (Int×α)) (n:Int),(zlk f l n).map (·.1)=l.map (·.1)
 |[],n=>rfl
 |(k,x)::l,n=>by
  by_cases h1:k=n<;>simp [zlk,h1,zgD f l n]
theorem zvA:∀(l r:List (Int×α)) (j:Int),zcv (l++r) j=match zcv l j with|some x=>some x|none=>zcv r j
 |[],r,j=>rfl
 |(k,x)::l,r,j=>by
  by_cases h:k=j
  ·simp [zcv,h]
  ·simp [zcv,h,zvA l r j]
theorem zgd:∀{l:List (Int×α)} {j:Int} {x:α},zcv l j=some x→(j,x)∈l
 |[],j,x,h=>by simp [zcv]at h
 |(k,y)::l,j,x,h=>by
  by_cases hk:k=j
  ·simp [zcv,hk]at h;subst h;subst hk;simp
  ·simp [zcv,hk]at h;exact List.mem_cons_of_mem _ (zgd h)
theorem zct {l:List (Int×α)} {j:Int}:zcv l j=none↔j∉l.map (·.1):=by
 induction l with
 |nil=>simp [zcv]
 |cons p l ih=>
  obtain ⟨k,x⟩:=p
  by_cases hk:k=j
  ·simp [zcv,hk]
  ·simp only [zcv,hk,if_false,List.map_cons,List.mem_cons,not_or,ih]
   exact ⟨fun h=>⟨fun e=>hk e.symm,h⟩,fun h=>h.2⟩
theorem zol {l:List (Int×α)} (hn:(l.map (·.1)).Nodup) {j:Int} {x:α} (h:(j,x)∈l):zcv l j=some x:=by
 induction l with
 |nil=>simp at h
 |cons p l ih=>
  obtain ⟨k,y⟩:=p
  simp only [List.map_cons,List.nodup_cons]at hn
  rcases List.mem_cons.1 h with e|h
  ·cases e;simp [zcv]
  ·have hk:k≠j:=fun e=>hn.1 (List.mem_map.2 ⟨(j,x),h,e.symm⟩)
   simp [zcv,hk,ih hn.2 h]
theorem zut {l:List (Int×α)} (hn:(l.map (·.1)).Nodup) (n j:Int):zcv (zky l n) j=if j=n then none else zcv l j:=by
 induction l with
 |nil=>simp [zcv,zky]
 |cons p l ih=>
  obtain ⟨k,y⟩:=p
  simp only [List.map_cons,List.nodup_cons]at hn
  by_cases h1:k=n
  ·subst h1
   by_cases h2:j=k
   ·subst h2;simp only [zky,if_true];exact zct.2 hn.1
   ·simp [zky,zcv,h2,Ne.symm h2]
  ·by_cases h2:k=j
   ·subst h2;simp [zky,zcv,h1]
   ·simp [zky,zcv,h1,h2,ih hn.2]
theorem zmp:∀(l:List (Int×α)) (n:Int),(zky l n).map (·.1)=(l.map (·.1)).erase n
 |[],n=>rfl
 |(k,x)::l,n=>by
  by_cases h1:k=n
  ·simp [zky,h1]
  ·simp [zky,h1,zmp l n]
end
def zbv:List (ByteArray×ByteArray)→ByteArray→Option ByteArray
 |[],_=>none
 |(k,x)::l,n=>if k=n then some x else zbv l n
def zes:List (ByteArray×ByteArray)→ByteArray→ByteArray→List (ByteArray×ByteArray)
 |[],n,y=>[(n,y)]
 |(k,x)::l,n,y=>if k=n then (n,y)::l else (k,x)::zes l n y
def zjx:List (ByteArray×ByteArray)→ByteArray→List (ByteArray×ByteArray)
 |[],_=>[]
 |(k,x)::l,n=>if k=n then l else (k,x)::zjx l n
def zmD (l:List Int) (n:Int):List Int:=if n∈l then l else l++[n]
structure PN where
 parent:Int
 name:ByteArray
 attrs:List (ByteArray×ByteArray)
 kids:List Int
structure PT where
 nodes:List (Int×PN)
 ids:List Int
 last:Int
def PN.bare:PN:=⟨0,⟨#[]⟩,[],[]⟩
def PT.mod (T:PT) (k:Int) (f:PN→PN):PT:={T with nodes:=zlk f T.nodes k}
def PT.get (T:PT) (k:Int):Option PN:=zcv T.nodes k
theorem PT.get_mod (T:PT) (k:Int) (f:PN→PN) (j:Int):(T.mod k f).get j=if j=k then (T.get j).map f else T.get j:=zuE f T.nodes k j
inductive Role
 |t|nb|mk|nd (k:Int)|ab (k:Int)|kb (k:Int)
 deriving DecidableEq
abbrev Lay:=Role→Nat
def ptr (b:Nat):Value:= .pointer (some ⟨b,0,none⟩)
def zcQ (L:Lay) (l:List (Int×PN)):List (Value×Value):=l.map fun p=>(.int .i64 p.1,ptr (L (.nd p.1)))
def zja (l:List (ByteArray×ByteArray)):List (Value×Value):=l.map fun p=>(.string p.1, .string p.2)
def zfv (l:List Int):List (Value×Value):=l.map fun k=>(.int .i64 k, .int .i64 1)
theorem zrg (L:Lay):∀(l:List (Int×PN)) (n:Int),zfw (zcQ L l) (.int .i64 n)=(zcv l n).map fun _=>ptr (L (.nd n))
 |[],n=>rfl
 |(k,x)::l,n=>by
  have ih:=zrg L l n
  by_cases h:k=n
  ·subst h;simp [zcQ,zfw,keq,zcv]
  ·have:keq (.int .i64 k) (.int .i64 n)=false:=by simp [keq,h]
   simp only [zcQ,List.map_cons,zfw,this,cond_false,zcv,h,if_false]
   exact ih
theorem zrU (L:Lay) (v:Value):∀(l:List (Int×PN)) (n:Int),zcv l n=none→zhG (zcQ L l) (.int .i64 n) v=zcQ L l++[(.int .i64 n,v)]
 |[],n,_=>rfl
 |(k,x)::l,n,h=>by
  by_cases hk:k=n
  ·simp [zcv,hk]at h
  ·have hq:keq (.int .i64 k) (.int .i64 n)=false:=by simp [keq,hk]
   simp only [zcv,hk,if_false]at h
   have ih:=zrU L v l n h
   simp only [zcQ,List.map_cons,zhG,hq,cond_false,List.cons_append]at ih ⊢
   rw [ih]
theorem zsm (L:Lay):∀(l:List (Int×PN)) (n:Int),zkw (zcQ L l) (.int .i64 n)=zcQ L (zky l n)
 |[],n=>rfl
 |(k,x)::l,n=>by
  have ih:=zsm L l n
  by_cases h:k=n
  ·subst h;simp [zcQ,zkw,keq,zky]
  ·have hq:keq (.int .i64 k) (.int .i64 n)=false:=by simp [keq,h]
   simp only [zcQ,List.map_cons,zkw,hq,cond_false,zky,h,if_false]at ih ⊢
   rw [ih]
theorem znb:∀(l:List Int) (n:Int),zhG (zfv l) (.int .i64 n) (.int .i64 1)=zfv (zmD l n)
 |[],n=>by simp [zfv,zhG,zmD]
 |k::l,n=>by
  have ih:=znb l n
  by_cases h:k=n
  ·subst h;simp [zfv,zhG,keq,zmD]
  ·have hq:keq (.int .i64 k) (.int .i64 n)=false:=by simp [keq,h]
   simp only [zfv,List.map_cons,zhG,hq,cond_false]at ih ⊢
   rw [ih]
   unfold zmD
   by_cases hm:n∈l
   ·simp [hm]
   ·simp [hm,Ne.symm h]
theorem zrS:∀(l:List Int) (n:Int),zkw (zfv l) (.int .i64 n)=zfv (l.erase n)
 |[],n=>rfl
 |k::l,n=>by
  have ih:=zrS l n
  by_cases h:k=n
  ·subst h;simp [zfv,zkw,keq]
  ·have hq:keq (.int .i64 k) (.int .i64 n)=false:=by simp [keq,h]
   simp only [zfv,List.map_cons,zkw,hq,cond_false]at ih ⊢
   rw [ih,List.erase_cons_tail (by simpa using h),List.map_cons]
theorem zrf:∀(l:List (ByteArray×ByteArray)) (n:ByteArray),zfw (zja l) (.string n)=(zbv l n).map .string
 |[],n=>rfl
 |(k,x)::l,n=>by
  have ih:=zrf l n
  by_cases h:k=n
  ·subst h;simp [zja,zfw,keq,zbv]
  ·have hq:keq (.string k) (.string n)=false:=by simp [keq,h]
   simp only [zja,List.map_cons,zfw,hq,cond_false,zbv,h,if_false]
   exact ih
theorem zrV (y:ByteArray):∀(l:List (ByteArray×ByteArray)) (n:ByteArray),zhG (zja l) (.string n) (.string y)=zja (zes l n y)
 |[],n=>rfl
 |(k,x)::l,n=>by
  have ih:=zrV y l n
  by_cases h:k=n
  ·subst h;simp [zja,zhG,keq,zes]
  ·have hq:keq (.string k) (.string n)=false:=by simp [keq,h]
   simp only [zja,List.map_cons,zhG,hq,cond_false,zes,h,if_false]at ih ⊢
   rw [ih]
theorem zrW:∀(l:List (ByteArray×ByteArray)) (n:ByteArray),zkw (zja l) (.string n)=zja (zjx l n)
 |[],n=>rfl
 |(k,x)::l,n=>by
  have ih:=zrW l n
  by_cases h:k=n
  ·subst h;simp [zja,zkw,keq,zjx]
  ·have hq:keq (.string k) (.string n)=false:=by simp [keq,h]
   simp only [zja,List.map_cons,zkw,hq,cond_false,zjx,h,if_false]at ih ⊢
   rw [ih]
theorem zlV (L:Lay) (f:PN→PN):∀(l:List (Int×PN)) (n:Int),zcQ L (zlk f l n)=zcQ L l
 |[],n=>rfl
 |(k,x)::l,n=>by
  have ih:=zlV L f l n
  by_cases h:k=n
  ·simp [zcQ,zlk,h]
  ·simp only [zcQ,zlk,h,if_false,List.map_cons]at ih ⊢
   rw [ih]
theorem zpj {L L':Lay}:∀{l:List (Int×PN)},(∀k x,(k,x)∈l→L' (.nd k)=L (.nd k))→zcQ L' l=zcQ L l
 |[],_=>rfl
 |(k,x)::l,h=>by
  have ih:=zpj (L:=L) (L':=L') (l:=l) fun j y hj=>h j y (by simp [hj])
  simp only [zcQ,List.map_cons]at ih ⊢
  rw [ih,h k x (by simp)]
def act (T:PT):Role→Prop
 | .nd k=>∃n,T.get k=some n
 | .ab k=>∃n,T.get k=some n
 | .kb k=>∃n,T.get k=some n
 |_=>True
def zrr (L:Lay) (T:PT) (idsV:Value):Role→Obj→Prop
 | .t,o=>∃e,o= .cells #[.map (some (L .nb)),ptr (L .mk), .int .i64 0,idsV, .int .i64 T.last] e (0,0)
 | .nb,o=>zcE (some .i64) o (zcQ L T.nodes)
 | .mk,_=>True
 | .nd k,o=>∀n,T.get k=some n→∃e,o= .cells #[.int .i64 n.parent, .string n.name, .map (some (L (.ab k))), .map (some (L (.kb k)))] e (0,0)
 | .ab k,o=>∀n,T.get k=some n→zcE none o (zja n.attrs)
 | .kb k,o=>∀n,T.get k=some n→zcE (some .i64) o (zfv n.kids)
structure TreeT (R:Role→Prop) (m:PH) (L:Lay) (T:PT) (idsV:Value):Prop where
 has:∀r,R r→act T r→∃o,m (L r)=some o∧zrr L T idsV r o
 sep:∀r s,R r→R s→act T r→act T s→L r=L s→r=s
 nod:(T.nodes.map (·.1)).Nodup
def TreeM (e:TypeId) (m:PH) (L:Lay) (T:PT):Prop:=∃mi mt idsV,m=uni mi mt∧dis mi mt∧SlO mi idsV e 1 (T.ids.map gi)∧TreeT (fun _=>True) mt L T idsV
theorem zft (m:PH) (b:Nat) (o:Obj):m.upd b o b=some o:=by simp [PH.upd]
theorem zjc {m:PH} {b j:Nat} {o:Obj} (h:j≠b):m.upd b o j=m j:=by simp [PH.upd,h]
theorem zdm {mi mt:PH} {b:Nat} {o:Obj} (h:mi b=none):(uni mi mt).upd b o=uni mi (mt.upd b o):=by
 funext j
 by_cases hj:j=b
 ·subst hj;simp [PH.upd,uni,h]
 ·simp [PH.upd,uni,hj]
theorem zig {mi mt:PH} {b:Nat} {o:Obj} (hd:dis mi mt) (h:mi b=none):dis mi (mt.upd b o):=by
 intro j
 by_cases hj:j=b
 ·subst hj;exact .inl h
 ·rw [zjc hj];exact hd j
theorem zfg {mi mt:PH} (hd:dis mi mt) {b:Nat} {o:Obj} (h:mt b=some o):uni mi mt b=some o∧mi b=none:=by
 have hn:mi b=none:=by
  rcases hd b with h1|h1
  ·exact h1
  ·rw [h1]at h;cases h
 exact ⟨by simp [uni,hn,h],hn⟩
theorem TreeM.upd {e:TypeId} {m:PH} {L:Lay} {T T':PT} (h:TreeM e m L T) (r:Role) (hr:act T r) (o':Obj) (hids:T'.ids=T.ids) (hact:∀s,act T' s→act T s) (hnod:(T'.nodes.map (·.1)).Nodup)
  (hh:∀idsV o,zrr L T idsV r o→zrr L T' idsV r o') (hs:∀s,s≠r→act T' s→∀idsV o,zrr L T idsV s o→zrr L T' idsV s o):TreeM e (m.upd (L r) o') L T':=by
 obtain ⟨mi,mt,idsV,rfl,hd,hi,ht⟩:=h
 obtain ⟨o,ho,hho⟩:=ht.has r trivial hr
 obtain ⟨_,hn⟩:=zfg hd ho
 refine ⟨mi,mt.upd (L r) o',idsV,zdm hn,zig hd hn,by rw [hids];exact hi,⟨fun s _ hs'=> ?_,fun a b _ _ ha hb=>ht.sep a b trivial trivial (hact a ha) (hact b hb),hnod⟩⟩
 by_cases hsr:s=r
 ·subst hsr
  exact ⟨o',zft _ _ _,hh _ _ hho⟩
 ·obtain ⟨o2,h2,h3⟩:=ht.has s trivial (hact s hs')
  exact ⟨o2,by rw [zjc (fun e=>hsr (ht.sep s r trivial trivial (hact s hs') hr e))];exact h2,hs s hsr hs' _ _ h3⟩
theorem TreeM.at {e:TypeId} {m:PH} {L:Lay} {T:PT} (h:TreeM e m L T) (r:Role) (hr:act T r):∃o idsV,m (L r)=some o∧zrr L T idsV r o:=by
 obtain ⟨mi,mt,idsV,rfl,hd,hi,ht⟩:=h
 obtain ⟨o,ho,hho⟩:=ht.has r trivial hr
 exact ⟨o,idsV,(zfg hd ho).1,hho⟩
theorem TreeM.nod {e:TypeId} {m:PH} {L:Lay} {T:PT} (h:TreeM e m L T):(T.nodes.map (·.1)).Nodup:=by
 obtain ⟨mi,mt,idsV,_,_,_,ht⟩:=h
 exact ht.nod
end Go.Proofs.YtmjiojflncffeaaGreat.Vc

set_option linter.unusedVariables false
set_option linter.unusedSimpArgs false
namespace Go.Proofs.YtmjiojflncffeaaGreat.Vc
open Go
theorem zBO {P:Program} {t k e:TypeId} (ht:P.underlying t=some (.map k e)) (b:Nat):EqG P t (.s (.map (some b))) (.s (.map none)) false:=by
 have h0:∀d w,(Op.equalIn (d+1) t (.map (some b)) (.map none)).run P w= .ok false w:=fun d w=>by
  simp [Op.equalIn,Sem.run_bind,zo ht]
 have h:∀w,(Op.equal t (.map (some b)) (.map none)).run P w= .ok false w:=fun w=>h0 9999 w
 intro x y w
 exact ⟨by simp [eqGuard,binOp,Sem.run_bind,GV.val,h],by simp [eqGuard,binOp,Sem.run_bind,GV.val,h]⟩
theorem zsY {C:Ctx} {ph:List PH} {m u:PH} (hk:KN C.u0 (m::ph) u) {b:Nat} {o:Obj} (h:u b=some o):zdX C ph m b o:=by
 rcases hk b o h with h|⟨v,hv,h⟩
 ·exact .inr (.inr h)
 ·rcases List.mem_cons.1 hv with rfl|hv
  ·exact .inl h
  ·exact .inr (.inl ⟨v,hv,h⟩)
theorem zaC {C:Ctx} {ph:List PH} {m u:PH} (hk:KN C.u0 (m::ph) u) {b:Nat} {cs:Array Value} {e:TypeId} {fz:Nat×Nat} (h:u b=some (.cells cs e fz)) {j:Nat} {v:Value} (hj:cs[j]? =some v) (hv:v.oneCell'=true):zce C ph m b j (.s v):=
 zpc hk h hv fun i w hi=>by
  cases i with
  |zero=>
   obtain rfl:v=w:=by simpa [GV.flat]using hi
   simpa using hj
  |succ i=>simp [GV.flat]at hi
def nptr:Option PN→Nat→Value
 |some _,b=> .pointer (some ⟨b,0,none⟩)
 |none,_=> .pointer none
theorem zcf (x:PN) (b:Nat):nptr (some x) b= .pointer (some ⟨b,0,none⟩):=rfl
theorem zhC (b:Nat):nptr none b= .pointer none:=rfl
theorem zAb {C:Ctx} {t t':TypeId} (ht:C.P.underlying t=some (.pointer t')) {σ:SS} {d:Option Nat} {K:KT} {o:Option PN} {b:Nat} {neg:Bool} (hK:K (σ.put d (.g (.s (.bool (o.isNone !=neg)))))):eqK C t (.s (nptr o b)) (.s (.pointer none)) neg d K σ:=by
 cases o with
 |none=>exact zcH (zvh ht) hK
 |some x=>exact zcH (zpd ht _) hK
section
variable {C:Ctx} {ph:List PH} {m u:PH} {e:TypeId} {L:Lay} {T:PT}
theorem TreeM.s_map (h:TreeM e u L T) (hk:KN C.u0 (m::ph) u):zce C ph m (L .t) 0 (.s (.map (some (L .nb)))):=by
 obtain ⟨o,idsV,h1,e',rfl⟩:=h.at .t trivial
 exact zaC hk h1 rfl rfl
theorem TreeM.s_mark (h:TreeM e u L T) (hk:KN C.u0 (m::ph) u):zce C ph m (L .t) 1 (.s (ptr (L .mk))):=by
 obtain ⟨o,idsV,h1,e',rfl⟩:=h.at .t trivial
 exact zaC hk h1 rfl rfl
theorem TreeM.s_last (h:TreeM e u L T) (hk:KN C.u0 (m::ph) u):zce C ph m (L .t) 4 (.s (.int .i64 T.last)):=by
 obtain ⟨o,idsV,h1,e',rfl⟩:=h.at .t trivial
 exact zaC hk h1 rfl rfl
theorem TreeM.s_nodes (h:TreeM e u L T) (hk:KN C.u0 (m::ph) u):∃o,zdX C ph m (L .nb) o∧zcE (some .i64) o (zcQ L T.nodes):=by
 obtain ⟨o,idsV,h1,h2⟩:=h.at .nb trivial
 exact ⟨o,zsY hk h1,h2⟩
theorem TreeM.s_node (h:TreeM e u L T) (hk:KN C.u0 (m::ph) u) {k:Int} {n:PN} (hn:T.get k=some n):
  zce C ph m (L (.nd k)) 0 (.s (.int .i64 n.parent))∧zce C ph m (L (.nd k)) 1 (.s (.string n.name))∧zce C ph m (L (.nd k)) 2 (.s (.map (some (L (.ab k)))))∧zce C ph m (L (.nd k)) 3 (.s (.map (some (L (.kb k)))))∧zce C ph m (L (.nd k)) 0 (zby ⟨n.parent,n.name⟩):=by
 obtain ⟨o,idsV,h1,h2⟩:=h.at (.nd k) ⟨n,hn⟩
 obtain ⟨e',rfl⟩:=h2 n hn
 refine ⟨zaC hk h1 rfl rfl,zaC hk h1 rfl rfl,zaC hk h1 rfl rfl,zaC hk h1 rfl rfl,zpc hk h1 (znG _) fun i w hi=> ?_⟩
 match i,hi with
 |0,hi=>simpa [zby,GV.flat]using hi
 |1,hi=>simpa [zby,GV.flat]using hi
 |i+2,hi=>simp [zby,GV.flat]at hi
theorem TreeM.s_attrs (h:TreeM e u L T) (hk:KN C.u0 (m::ph) u) {k:Int} {n:PN} (hn:T.get k=some n):∃o,zdX C ph m (L (.ab k)) o∧zcE none o (zja n.attrs):=by
 obtain ⟨o,idsV,h1,h2⟩:=h.at (.ab k) ⟨n,hn⟩
 exact ⟨o,zsY hk h1,h2 n hn⟩
variable {σ:SS} {d:Option Nat} {K:KT}
theorem TreeM.lk (h:TreeM e u L T) (hk:KN C.u0 (σ.m::σ.ph) u) (n:Int) (hK:K (σ.put d (.g (.s (nptr (T.get n) (L (.nd n))))))):mlkK C (some .i64) (L .nb) (.int .i64 n) (.pointer none) false d K σ:=by
 obtain ⟨o,h1,h2⟩:=h.s_nodes hk
 refine ⟨o,_,h1,h2,rfl, ?_⟩
 unfold lkS
 rw [zrg]
 unfold PT.get at hK
 cases hg:zcv T.nodes n with
 |none=>rw [hg]at hK;exact hK
 |some x=>rw [hg]at hK;exact hK
theorem TreeM.len (h:TreeM e u L T) (hk:KN C.u0 (σ.m::σ.ph) u) (hK:K (σ.put d (.g (.s (.int .i64 T.nodes.length))))):mlnK C (some .i64) (L .nb) d K σ:=by
 obtain ⟨o,h1,h2⟩:=h.s_nodes hk
 refine ⟨o,_,h1,h2, ?_⟩
 rw [show (zcQ L T.nodes).length=T.nodes.length by simp [zcQ]]
 exact hK
end
end Go.Proofs.YtmjiojflncffeaaGreat.Vc

set_option linter.unusedVariables false
set_option linter.unusedSimpArgs false
set_option maxRecDepth 100000
namespace Go.Proofs.YtmjiojflncffeaaGreat.Vc
open Go Go.Proofs
theorem b_eq {p q:Prop} [Decidable p] [Decidable q] (h:p↔q):[GV.s (.bool (decide p))]=[GV.s (.bool (decide q))]:=by rw [decide_eq_decide.2 h]
theorem b_f {q:Prop} [Decidable q] (h:¬q):[GV.s (.bool false)]=[GV.s (.bool (decide q))]:=by rw [decide_eq_false h]
def zcM (s:Stamp):Prop:=1≤s.time∧s.time≤1099511627776∧0≤s.site∧s.site<8
instance (s:Stamp):Decidable (zcM s):=inferInstanceAs (Decidable (_∧_))
theorem zpZ (s:Stamp):FnV Tryz.prog zqK [zaA s] [.s (.bool (decide (zcM s)))]:=by
 refine zbx zqR (by simp) (by simpa using zcC s) fun w=> ?_
 simp (maxSteps:=2000000) only [zkJ,zx,zi,zm,zf,zc,zb,zh,zH,ze,za,zj,RO.isGh,zI,zar,ev,look,zZ,zd,zg,zk,zO,zP,GV.getT,Value.oneCell',cond_true,cond_false,Nat.reduceEqDiff,↓reduceIte,List.nil_append,Bool.true_and,Bool.not_true,Bool.not_false,true_and,zak,List.map_cons,List.map_nil,zD,zal,zC,decide_eq_true_eq,decide_eq_false_iff_not,↓zL,↓zN,zax,zn,zF,zdq,zcr,zfk,zds]
 unfold zcM
 exact ⟨fun h1=>⟨fun h2=>⟨fun h3=>b_eq (by omega),fun h3=>b_f (by omega)⟩,fun h2=>b_f (by omega)⟩,fun h1=>b_f (by omega)⟩
theorem zAZ (n:Int):FnV Tryz.prog zsQ [.s (.int .i64 n)] [.s (.bool (decide (0≤n∧n<8)))]:=by
 refine zbx zto (by simp) (by simp [GV.ok,Value.oneCell']) fun w=> ?_
 simp (maxSteps:=2000000) only [zmd,zx,zi,zm,zf,zc,zb,zh,zH,ze,za,zj,RO.isGh,zI,zar,ev,look,zd,zg,zk,zO,zP,Value.oneCell',cond_true,cond_false,Nat.reduceEqDiff,↓reduceIte,reduceCtorEq,Bool.true_and,Bool.not_true,true_and,zak,List.map_cons,List.map_nil,zD,zal,zC,decide_eq_true_eq,decide_eq_false_iff_not,↓zL,↓zN,zax]
 exact ⟨fun h1=>b_eq (by omega),fun h1=>b_f (by omega)⟩
theorem zmM (s:Stamp):FnV Tryz.prog zrb [zaA s] [.s (.bool (decide (zcM s)))]:=by
 refine zbx zqM (by simp) (by simpa using zcC s) fun w=> ?_
 simp (maxSteps:=2000000) only [zkB,zx,zi,zm,zf,zc,zb,zh,zH,ze,za,zj,RO.isGh,zI,zar,ev,look,zZ,zd,zg,zk,zO,zP,GV.getT,Value.oneCell',cond_true,cond_false,Nat.reduceEqDiff,↓reduceIte,List.nil_append,Bool.true_and,Bool.not_true,Bool.not_false,true_and,zak,List.map_cons,List.map_nil,zD,zal,zC,decide_eq_true_eq,decide_eq_false_iff_not,↓zL,↓zN,zax,zn,zF,zdq,zcr,zfk,zds]
 unfold zcM
 refine ⟨fun h1=>⟨fun h2=> ?_,fun h2=>b_f (by omega)⟩,fun h1=>b_f (by omega)⟩
 refine zac (zAZ s.site) rfl rfl rfl fun _=> ?_
 simp (maxSteps:=2000000) only [zK,zx,zf,zc,zb,zh,ze,za,zj,ev,look,zd,zg,zk,Value.oneCell',cond_true,Nat.reduceEqDiff,↓reduceIte,zD,zal,zC,↓zL]
 exact b_eq (by omega)
def zjT (s:Stamp):Int:=if zcM s then 16+s.time*8+s.site else 0
theorem zpG {x:Int} (h1: -9223372036854775808≤x) (h2:x<9223372036854775808):IntKind.i64.wrap x=x:=zeA (by omega) (by omega)
theorem zvj (s:Stamp):((!decide (zcM s))=true→[GV.s (Value.int IntKind.i64 0)]=[GV.s (Value.int IntKind.i64 (zjT s))])∧
  ((!decide (zcM s))=false→[GV.s (Value.int IntKind.i64 (IntKind.i64.wrap (IntKind.i64.wrap (16+IntKind.i64.wrap (s.time*8))+s.site)))]=[GV.s (Value.int IntKind.i64 (zjT s))]):=by
 refine ⟨fun h=> ?_,fun h=> ?_⟩
 ·have h:¬zcM s:=by simpa using h
  rw [zjT,if_neg h]
 ·have h:zcM s:=by simpa using h
  rw [zjT,if_pos h]
  obtain ⟨h1,h2,h3,h4⟩:=h
  rw [zpG (x:=s.time*8) (by omega) (by omega),zpG (x:=16+s.time*8) (by omega) (by omega),zpG (by omega) (by omega)]
theorem zBs (s:Stamp):FnV Tryz.prog zsv [zaA s] [.s (.int .i64 (zjT s))]:=by
 refine zbx zta (by simp) (by simpa using zcC s) fun w=> ?_
 simp (maxSteps:=2000000) only [zmo,zi,zm,zf,zc,zb,zh,ze,za,zj,ev,look,zZ,zd,zg,zk,Value.oneCell',cond_true,Nat.reduceEqDiff,↓reduceIte,Bool.true_and,true_and,zak,List.map_cons,List.map_nil,zn,zag]
 refine zac (zpZ s) rfl rfl rfl fun _=> ?_
 simp (maxSteps:=2000000) only [zK,zu,zx,zi,zm,zq,zf,zp,zc,zb,zh,ze,za,zj,ev,look,zd,zg,zk,zO,zP,unV,GV.getT,Value.oneCell',cond_true,Nat.reduceEqDiff,↓reduceIte,List.nil_append,Bool.true_and,Bool.not_false,true_and,zD,zal,zC,zax,zn,zF,zdq,zcr,zfk,zds]
 exact zvj s
theorem zzR (s:Stamp):FnV Tryz.prog zsV [zaA s] [.s (.int .i64 (zjT s))]:=by
 refine zbx zsz (by simp) (by simpa using zcC s) fun w=> ?_
 simp (maxSteps:=2000000) only [zlM,zi,zm,zf,zc,zb,zh,ze,za,zj,ev,look,zZ,zd,zg,zk,Value.oneCell',cond_true,Nat.reduceEqDiff,↓reduceIte,Bool.true_and,true_and,zak,List.map_cons,List.map_nil,zn,zag]
 refine zac (zmM s) rfl rfl rfl fun _=> ?_
 simp (maxSteps:=2000000) only [zK,zu,zx,zi,zm,zq,zf,zp,zc,zb,zh,ze,za,zj,ev,look,zd,zg,zk,zO,zP,unV,GV.getT,Value.oneCell',cond_true,Nat.reduceEqDiff,↓reduceIte,List.nil_append,Bool.true_and,Bool.not_false,true_and,zD,zal,zC,zax,zn,zF,zdq,zcr,zfk,zds]
 exact zvj s
def ofA (n:Int):Stamp:=⟨(n - 16) / 8,(n - 16) % 8⟩
def zbS (n:Int):Prop:=16≤n∧zcM (ofA n)
instance (n:Int):Decidable (zbS n):=inferInstanceAs (Decidable (_∧_))
theorem zBQ {x:Int} (h:0≤x) (k:Int):x.tdiv k=x / k:=Int.tdiv_eq_ediv_of_nonneg h
theorem zBj {x:Int} (h:0≤x) (k:Int):x.tmod k=x % k:=Int.tmod_eq_emod_of_nonneg h
theorem of_eq {n:Int} (h1:¬n<16) (h2:n<9223372036854775808):(⟨IntKind.i64.wrap ((IntKind.i64.wrap (n - 16)).tdiv 8),(IntKind.i64.wrap (n - 16)).tmod 8⟩:Stamp)=ofA n:=by
 rw [zpG (x:=n - 16) (by omega) (by omega),zBQ (by omega),zBj (by omega),zpG (by omega) (by omega)];rfl
theorem of_fn (n:Int) (hn:n<9223372036854775808):FnV Tryz.prog zwA [.s (.int .i64 n)] [zaA (if zbS n then ofA n else zjU), .s (.bool (decide (zbS n)))]:=by
 refine zbx zwi (by simp) (by simp [GV.ok,Value.oneCell']) fun w=> ?_
 simp (maxSteps:=2000000) only [zpN,zu,zx,zi,zm,zq,zf,zp,zc,zb,zh,ze,za,zj,ev,evL,gvL,look,zZ,zd,zS,zg,zk,zO,zP,GV.getT,Value.oneCell',cond_true,Nat.reduceEqDiff,↓reduceIte,reduceCtorEq,Bool.and_true,Bool.true_and,true_and,and_true,zak,List.map_cons,List.map_nil,Option.map_some,zD,zal,zC,Option.bind_some,Int.reduceEq,decide_eq_true_eq,decide_eq_false_iff_not,ne_eq,not_false_eq_true,zax,GV.bldT,GV.bldC,zcT,zn,zY,zph,zaj,zag,zcX,zcr,zjE,zds,znW,zaU]
 refine ⟨fun h1=> ?_,fun h1=>⟨⟨rfl,rfl⟩, ?_⟩⟩
 ·have h:¬zbS n:=fun h=>by have:=h.1;omega
  rw [if_neg h,decide_eq_false h]
 rw [of_eq h1 hn]
 refine zac (zpZ (ofA n)) rfl rfl rfl fun _=> ?_
 simp (maxSteps:=2000000) only [zK,zu,zx,zi,zm,zq,zf,zp,zc,zb,zh,ze,za,zj,ev,evL,gvL,look,zZ,zd,zS,zg,zk,unV,Value.oneCell',cond_true,Nat.reduceEqDiff,↓reduceIte,Bool.and_true,Bool.true_and,true_and,and_true,List.map_nil,zD,zal,zC,Option.bind_some,zax,GV.bldT,GV.bldC,zn,zY,zph,zaj,zag,zcX]
 refine ⟨fun h2=> ?_,fun h2=> ?_⟩
 ·have h2:¬zcM (ofA n):=by simpa using h2
  have h:¬zbS n:=fun h=>h2 h.2
  rw [if_neg h,decide_eq_false h]
 ·have h2:zcM (ofA n):=by simpa using h2
  have h:zbS n:=⟨by omega,h2⟩
  rw [if_pos h,decide_eq_true h]
theorem zCz (n:Int) (hn:n<9223372036854775808):FnV Tryz.prog zvP [.s (.int .i64 n)] [zaA (if zbS n then ofA n else zjU), .s (.bool (decide (zbS n)))]:=by
 refine zbx zvL (by simp) (by simp [GV.ok,Value.oneCell']) fun w=> ?_
 simp (maxSteps:=2000000) only [zqb,zu,zx,zi,zm,zq,zf,zp,zc,zb,zh,ze,za,zj,ev,evL,gvL,look,zZ,zd,zS,zg,zk,zO,zP,GV.getT,Value.oneCell',cond_true,Nat.reduceEqDiff,↓reduceIte,reduceCtorEq,Bool.and_true,Bool.true_and,true_and,and_true,zak,List.map_cons,List.map_nil,Option.map_some,zD,zal,zC,Option.bind_some,Int.reduceEq,decide_eq_true_eq,decide_eq_false_iff_not,ne_eq,not_false_eq_true,zax,GV.bldT,GV.bldC,zcT,zn,zY,zph,zaj,zag,zcX,zcr,zjE,zds,znW,zaU]
 refine ⟨fun h1=> ?_,fun h1=>⟨⟨rfl,rfl⟩, ?_⟩⟩
 ·have h:¬zbS n:=fun h=>by have:=h.1;omega
  rw [if_neg h,decide_eq_false h]
 rw [of_eq h1 hn]
 refine zac (zmM (ofA n)) rfl rfl rfl fun _=> ?_
 simp (maxSteps:=2000000) only [zK,zu,zx,zi,zm,zq,zf,zp,zc,zb,zh,ze,za,zj,ev,evL,gvL,look,zZ,zd,zS,zg,zk,unV,Value.oneCell',cond_true,Nat.reduceEqDiff,↓reduceIte,Bool.and_true,Bool.true_and,true_and,and_true,List.map_nil,zD,zal,zC,Option.bind_some,zax,GV.bldT,GV.bldC,zn,zY,zph,zaj,zag,zcX]
 refine ⟨fun h2=> ?_,fun h2=> ?_⟩
 ·have h2:¬zcM (ofA n):=by simpa using h2
  have h:¬zbS n:=fun h=>h2 h.2
  rw [if_neg h,decide_eq_false h]
 ·have h2:zcM (ofA n):=by simpa using h2
  have h:zbS n:=⟨by omega,h2⟩
  rw [if_pos h,decide_eq_true h]
theorem zsG (n:Int) (hn:n<9223372036854775808):FnV Tryz.prog ztk [.s (.int .i64 n)] [.s (.bool (decide (zbS n)))]:=by
 refine zbx zsO (by simp) (by simp [GV.ok,Value.oneCell']) fun w=> ?_
 simp (maxSteps:=2000000) only [zml,zi,zm,zf,zc,zb,zh,ze,za,zj,ev,look,zd,zg,zk,Value.oneCell',cond_true,↓reduceIte,reduceCtorEq,zak,List.map_cons,List.map_nil,zaU]
 refine zac (of_fn n hn) rfl rfl rfl fun _=> ?_
 simp (maxSteps:=2000000) only [zK,List.getElem?_cons_zero,List.getElem?_cons_succ,zx,zi,zm,zf,zc,zb,zh,ze,za,zj,ev,look,zZ,zd,zS,zg,zk,Nat.reduceEqDiff,↓reduceIte,Bool.and_true,and_true,zD,zal,zC,zn,zY,zaj,zcX]
theorem zpJ (n:Int) (hn:n<9223372036854775808):FnV Tryz.prog zsW [.s (.int .i64 n)] [.s (.bool (decide (zbS n)))]:=by
 refine zbx zsX (by simp) (by simp [GV.ok,Value.oneCell']) fun w=> ?_
 simp (maxSteps:=2000000) only [zmb,zi,zm,zf,zc,zb,zh,ze,za,zj,ev,look,zd,zg,zk,Value.oneCell',cond_true,↓reduceIte,reduceCtorEq,zak,List.map_cons,List.map_nil,zaU]
 refine zac (zCz n hn) rfl rfl rfl fun _=> ?_
 simp (maxSteps:=2000000) only [zK,List.getElem?_cons_zero,List.getElem?_cons_succ,zx,zi,zm,zf,zc,zb,zh,ze,za,zj,ev,look,zZ,zd,zS,zg,zk,Nat.reduceEqDiff,↓reduceIte,Bool.and_true,and_true,zD,zal,zC,zn,zY,zaj,zcX]
theorem zxn (n:Int):FnV Tryz.prog zub [.s (.int .i64 n)] [.s (.bool (n==1||n==2))]:=by
 refine zbx zuT (by simp) (by simp [GV.ok,Value.oneCell']) fun w=> ?_
 simp (maxSteps:=2000000) only [zom,zx,zi,zm,zf,zc,zb,zh,zH,ze,za,zj,RO.isGh,zI,zar,ev,look,zd,zg,zk,zO,zP,Value.oneCell',cond_true,cond_false,Nat.reduceEqDiff,↓reduceIte,reduceCtorEq,Bool.true_and,Bool.not_false,true_and,zak,List.map_cons,List.map_nil,zD,zal,zC,↓zL,↓zN,zdE]
 cases (n==1)<;>simp
theorem zxH (n:Int):FnV Tryz.prog zuH [.s (.int .i64 n)] [.s (.bool (n==1||n==2))]:=by
 refine zbx zuG (by simp) (by simp [GV.ok,Value.oneCell']) fun w=> ?_
 simp (maxSteps:=2000000) only [zou,zx,zi,zm,zf,zc,zb,zh,zH,ze,za,zj,RO.isGh,zI,zar,ev,look,zd,zg,zk,zO,zP,Value.oneCell',cond_true,cond_false,Nat.reduceEqDiff,↓reduceIte,reduceCtorEq,Bool.true_and,Bool.not_false,true_and,zak,List.map_cons,List.map_nil,zD,zal,zC,↓zL,↓zN,zdE]
 cases (n==1)<;>simp
end Go.Proofs.YtmjiojflncffeaaGreat.Vc

namespace Go.Proofs
open Go.Shelf
def Tryz.lays144_ren:Go.Shelf.Ren:=⟨fun|144=>128|143=>146|219=>161|217=>174|225=>175|224=>176|267=>177|266=>183|314=>184|n=>n,fun|9=>9|4=>4|3=>3|5=>5|46=>142|146=>223|51=>178|n=>n,fun|1=>0|n=>n⟩
theorem Tryz.lays144:Go.Proofs.Lays.n144 Tryz.prog Tryz.lays144_ren:={
 mixed:=by kernel_rfl
 f143:=Tryz.func146.trans (congrArg some (by kernel_rfl))
 f144:=Tryz.func128.trans (congrArg some (by kernel_rfl))
 f217:=Tryz.func174.trans (congrArg some (by kernel_rfl))
 f219:=Tryz.func161.trans (congrArg some (by kernel_rfl))
 f224:=Tryz.func176.trans (congrArg some (by kernel_rfl))
 f225:=Tryz.func175.trans (congrArg some (by kernel_rfl))
 f266:=Tryz.func183.trans (congrArg some (by kernel_rfl))
 f267:=Tryz.func177.trans (congrArg some (by kernel_rfl))
 f314:=Tryz.func184.trans (congrArg some (by kernel_rfl))
 t3:=Tryz.underlying3
 a3:=Tryz.isAgg3
 z3:=Tryz.sizeOf3
 v3:=Tryz.zeroValue3
 t4:=Tryz.underlying4
 a4:=Tryz.isAgg4
 z4:=Tryz.sizeOf4
 v4:=Tryz.zeroValue4
 t5:=Tryz.underlying5
 a5:=Tryz.isAgg5
 z5:=Tryz.sizeOf5
 v5:=Tryz.zeroValue5
 t9:=Tryz.underlying9
 a9:=Tryz.isAgg9
 z9:=Tryz.sizeOf9
 v9:=Tryz.zeroValue9
 t46:=Tryz.underlying142
 a46:=Tryz.isAgg142
 z46:=Tryz.sizeOf142
 v46:=Tryz.zeroValue142
 t51:=Tryz.underlying178
 a51:=Tryz.isAgg178
 z51:=Tryz.sizeOf178
 v51:=Tryz.zeroValue178
 t146:=Tryz.underlying223
 a146:=Tryz.isAgg223
 z146:=Tryz.sizeOf223
 v146:=Tryz.zeroValue223
 g1:=by kernel_rfl}
end Go.Proofs

set_option linter.unusedVariables false
set_option linter.unusedSimpArgs false
set_option maxRecDepth 100000
namespace Go.Proofs.YtmjiojflncffeaaGreat.Vc
open Go Go.Proofs
theorem zvc (n:List UInt8):decide (0≤Lib.indexByte n 47)=n.contains 47:=by
 induction n with
 |nil=>rfl
 |cons b l ih=>
  have hg:=Lib.indexByte_ge l 47
  have e:Lib.indexByte (b::l) 47=if b==47 then 0 else if Lib.indexByte l 47== -1 then -1 else Lib.indexByte l 47+1:=rfl
  rw [e,List.contains_cons]
  by_cases hb:b=47
  ·subst hb;rfl
  ·have h1:(b==47)=false:=by simpa using hb
   have h2:((47:UInt8)==b)=false:=by simpa using fun h=>hb h.symm
   rw [h1,h2,Bool.false_or,←ih]
   simp only [Bool.false_eq_true,if_false]
   by_cases hi:Lib.indexByte l 47= -1
   ·rw [hi];rfl
   ·have h3:(Lib.indexByte l 47== -1)=false:=by simpa using hi
    rw [h3]
    simp only [Bool.false_eq_true,if_false]
    rw [decide_eq_decide];omega
theorem zum (n:List UInt8):FnV Tryz.prog 128 [gN n, .s (.string ⟨#[47]⟩)] [.s (.bool (n.contains 47))]:=fun w _=>
 (Go.Proofs.Any.strings_Contains_one Tryz.lays144 (mkS n) 47 w).mono fun e w' ⟨he,hw⟩=>by
  subst hw
  exact ⟨_,PH.no,by rw [he,zuF,zvc];rfl,fun r hr=>by simp at hr;subst hr;rfl,rfl,fun _ _ h=>(by cases h),fun _ h=>absurd rfl h,Kept.refl _ _⟩
def zer (n:List UInt8):Int:=if 255<n.length then 3 else if zdH n then 0 else 1
theorem zle {n:List UInt8} (h:255<n.length):zer n=3:=if_pos h
theorem zfZ {n:List UInt8} (h:¬255<n.length) (h2:zdH n=false):zer n=1:=by rw [zer,if_neg h,h2];rfl
theorem zpR {n:List UInt8} (h2:zdH n=true):zer n=0:=by rw [zer,if_neg (by have:=zsg h2;omega),h2];rfl
theorem zzo (n:List UInt8) (hb:n.length≤140737488355328):FnV Tryz.prog zmB [gN n] [.s (.int .i64 (zer n))]:=by
 refine zbx ztv (by simp) (by simp [zzV]) fun w=> ?_
 simp (maxSteps:=2000000) only [zlT,gN,zu,zx,zi,zB,zm,zq,zf,zp,zc,zb,zh,zH,ze,za,zj,RO.isGh,zI,zar,ev,look,zd,zg,zk,zO,zP,Value.oneCell',cond_true,cond_false,Nat.reduceEqDiff,↓reduceIte,reduceCtorEq,Bool.true_and,Bool.not_false,true_and,zak,List.map_cons,List.map_nil,zD,zal,zC,decide_eq_true_eq,decide_eq_false_iff_not,↓zL,↓zbW,↓zN,zax,zdE,zjP,zwR,zsI,znx]
 refine ⟨fun h=>by rw [zle (by omega)],fun h=> ?_⟩
 have hl:¬255<n.length:=by omega
 refine ⟨fun h0=>⟨fun h2=>⟨fun h3=>by rw [zfZ hl (zbK (.inr (.inr (.inr h3))))],fun h3=> ?_⟩,fun h2=>by rw [zfZ hl (zbK (.inr (.inr (.inl h2))))]⟩,fun h0=>by rw [zfZ hl (zbK (.inl h0))]⟩
 refine zaP (ι:=Nat) (fun i=>⟨[(0, .g (.s (.string (mkS n)))),(3, .g (.s (.int .i64 (i))))],[],[],PH.no⟩) (fun i=>i≤n.length∧∀j,j<i→n.getD j 0≠47) (fun i=>n.length - i) 0 (by simp) (zR ?_ ?_ rfl rfl rfl) ?_
 ·simp [zaf,look]
 ·simp [zam,look]
 rintro i ⟨hi,hj⟩
 generalize hQ:loopQ _ _ _ _ _=Q
 simp (maxSteps:=2000000) only [ziF,zvT,beq_iff_eq,beq_eq_false_iff_ne,zu,zx,zau,zi,zB,zm,zq,zf,zp,zay,zT,zy,zc,zb,zh,ze,za,zj,ev,look,zd,zg,zk,zO,zP,Value.oneCell',cond_true,Nat.reduceEqDiff,↓reduceIte,reduceCtorEq,Bool.true_and,true_and,Int.toNat_natCast,decide_eq_true_eq,decide_eq_false_iff_not,ne_eq,zax,zjP,zAr]
 refine ⟨fun hlt=>⟨by omega,fun h=> ?_,fun h=> ?_⟩,fun hlt=> ?_⟩
 ·subst hQ
  simp (maxSteps:=2000000) only [zp,zy,zah,look,↓reduceIte,zD,zal,zC,ne_eq]
  rw [zfZ hl (zjY (i:=i) (by omega) h)]
 ·subst hQ;simp only [zaB];refine ⟨i+1, ?_, ?_,zR ?_ ?_ rfl rfl rfl⟩
  ·refine ⟨by omega,fun j hj2=> ?_⟩
   rcases Nat.lt_succ_iff_lt_or_eq.1 hj2 with h4|rfl
   ·exact hj j h4
   ·exact h
  ·omega
  ·simp only [zaf,look,↓reduceIte,reduceCtorEq,Bool.and_true,Bool.true_and,true_and,and_true]
   rw [zaN (by omega)]
   try simp
  ·simp [zam,look]
 ·subst hQ
  simp (maxSteps:=2000000) only [zx,zi,zm,zf,zat,zc,zaQ,zb,zh,ze,za,zj,ev,look,zd,zg,zk,Value.oneCell',cond_true,↓reduceIte,zD,zal,zC,ne_eq]
  rw [zpR (zll h0 (by omega) h2 h3 fun j hjl=>hj j (by omega))]
def zci (op:Op):Int:=
 if ¬(op.parent=1∨op.parent=2)∧¬zbS op.parent then 1
 else if zer op.name.data.toList≠0 then zer op.name.data.toList
 else if op.key≠⟨#[]⟩∨op.value≠⟨#[]⟩then 1 else 0
structure OpIn (op:Op):Prop where
 node:op.node<9223372036854775808
 parent:op.parent<9223372036854775808
 name:op.name.size≤140737488355328
theorem zry (b:ByteArray) (hb:b.size≤140737488355328):FnV Tryz.prog zmB [.s (.string b)] [.s (.int .i64 (zer b.data.toList))]:=by
 have:=zzo b.data.toList (by rw [Array.length_toList];exact hb)
 rwa [gN,zii]at this
theorem zlr (b:ByteArray):FnV Tryz.prog 128 [.s (.string b), .s (.string ⟨#[47]⟩)] [.s (.bool (b.data.toList.contains 47))]:=by
 have:=zum b.data.toList
 rwa [gN,zii]at this
section
variable {op:Op}
theorem zpB (h:¬(op.parent=1∨op.parent=2)∧¬zbS op.parent):zci op=1:=if_pos h
theorem zfn (h:¬(¬(op.parent=1∨op.parent=2)∧¬zbS op.parent)) (hn:zer op.name.data.toList≠0):zci op=zer op.name.data.toList:=by rw [zci,if_neg h,if_pos hn]
theorem zrE (h:¬(¬(op.parent=1∨op.parent=2)∧¬zbS op.parent)) (hn:zer op.name.data.toList=0) (hk:op.key≠⟨#[]⟩∨op.value≠⟨#[]⟩):zci op=1:=by rw [zci,if_neg h,if_neg (by rw [hn];simp),if_pos hk]
theorem zyo (h:¬(¬(op.parent=1∨op.parent=2)∧¬zbS op.parent)) (hn:zer op.name.data.toList=0) (hk:¬(op.key≠⟨#[]⟩∨op.value≠⟨#[]⟩)):zci op=0:=by rw [zci,if_neg h,if_neg (by rw [hn];simp),if_neg hk]
end
theorem zgW {op:Op} (hp:¬(¬(op.parent=1∨op.parent=2)∧¬zbS op.parent)):((zer op.name.data.toList !=0)=true→
   [GV.s (Value.int IntKind.i64 (zer op.name.data.toList))]=[GV.s (Value.int IntKind.i64 (zci op))])∧
  ((zer op.name.data.toList !=0)=false→
   ((!decide (op.key={data:= #[]}))=false→
     ((!decide (op.value={data:= #[]}))=true→[GV.s (Value.int IntKind.i64 1)]=[GV.s (Value.int IntKind.i64 (zci op))])∧
      ((!decide (op.value={data:= #[]}))=false→[GV.s (Value.int IntKind.i64 0)]=[GV.s (Value.int IntKind.i64 (zci op))]))∧
    ((!decide (op.key={data:= #[]}))=true→[GV.s (Value.int IntKind.i64 1)]=[GV.s (Value.int IntKind.i64 (zci op))])):=by
 simp only [bne_iff_ne,ne_eq,bne_eq_false_iff_eq,Bool.not_eq_true',Bool.not_eq_false',decide_eq_false_iff_not,decide_eq_true_eq]
 refine ⟨fun h=>by rw [zfn hp h],fun h=>⟨fun hk=>⟨fun hv=>by rw [zrE hp h (.inr hv)],fun hv=>by rw [zyo hp h (by rintro (h1|h1);exact h1 hk;exact h1 hv)]⟩,fun hk=>by rw [zrE hp h (.inl hk)]⟩⟩
theorem zrK (op:Op) (hop:OpIn op):FnV Tryz.prog zqS [gOp op] [.s (.int .i64 (zci op))]:=by
 refine zbx zra (by simp) (by simpa using zcS op) fun w=> ?_
 simp (maxSteps:=2000000) only [zkL,zi,zm,zf,zc,zb,zh,ze,za,zj,ev,look,zZ,zd,zg,zk,GV.getT,Value.oneCell',cond_true,Nat.reduceEqDiff,↓reduceIte,List.nil_append,Bool.true_and,Bool.not_false,true_and,zak,List.map_cons,List.map_nil,zn,zF,zcn,zcd]
 refine zac (zxH op.parent) rfl rfl rfl fun _=> ?_
 simp (maxSteps:=2000000) only [zK,zu,zi,zm,zq,zf,zc,zb,zh,zH,ze,za,zj,RO.isGh,zI,zar,ev,look,zd,zg,zk,unV,GV.getT,Value.oneCell',cond_true,cond_false,Nat.reduceEqDiff,↓reduceIte,List.nil_append,Bool.true_and,Bool.not_true,Bool.not_false,true_and,↓zN,zax,zn,zF,zcn,zcd,zcy,zck]
 refine ⟨fun h1=> ?_,fun h1=> ?_⟩
 ·have h1:¬(op.parent=1∨op.parent=2):=by simpa using h1
  refine zac (zpJ op.parent hop.parent) rfl rfl rfl fun _=> ?_
  simp (maxSteps:=2000000) only [zK,zu,zx,zi,zm,zq,zf,zp,zc,zb,zh,ze,za,zj,ev,look,zd,zg,zk,unV,GV.getT,Value.oneCell',cond_true,Nat.reduceEqDiff,↓reduceIte,List.nil_append,Bool.true_and,Bool.not_false,true_and,zD,zal,zC,↓zL,zax,zn,zF,zcy,zck]
  refine ⟨fun h2=> ?_,fun h2=> ?_⟩
  ·have h2:¬zbS op.parent:=by simpa using h2
   rw [zpB ⟨h1,h2⟩]
  ·have h2:zbS op.parent:=by simpa using h2
   have hp:¬(¬(op.parent=1∨op.parent=2)∧¬zbS op.parent):=fun h=>h.2 h2
   refine zac (zry op.name hop.name) rfl rfl rfl fun _=> ?_
   simp (maxSteps:=2000000) only [zK,zu,zx,zi,zm,zq,zf,zp,zc,zb,zh,zH,ze,za,zj,RO.isGh,zI,zar,ev,look,zd,zg,zk,zO,zP,GV.getT,Value.oneCell',cond_true,cond_false,Nat.reduceEqDiff,↓reduceIte,List.nil_append,Bool.true_and,Bool.not_false,true_and,zD,zal,zC,↓zL,↓zN,zax,zdE,zn,zF,zcI,zcD,zdi,zdj]
   exact zgW hp
 ·have h1:op.parent=1∨op.parent=2:=by
   by_cases e:op.parent=1
   ·exact .inl e
   ·exact .inr (by simpa [e]using h1)
  have hp:¬(¬(op.parent=1∨op.parent=2)∧¬zbS op.parent):=fun h=>h.1 h1
  refine zac (zry op.name hop.name) rfl rfl rfl fun _=> ?_
  simp (maxSteps:=2000000) only [zK,zu,zx,zi,zm,zq,zf,zp,zc,zb,zh,zH,ze,za,zj,RO.isGh,zI,zar,ev,look,zd,zg,zk,zO,zP,GV.getT,Value.oneCell',cond_true,cond_false,Nat.reduceEqDiff,↓reduceIte,List.nil_append,Bool.true_and,Bool.not_false,true_and,zD,zal,zC,↓zL,↓zN,zax,zdE,zn,zF,zcI,zcD,zdi,zdj]
  exact zgW hp
theorem zvw (op:Op) (hop:OpIn op):FnV Tryz.prog zqP [gOp op] [.s (.int .i64 (zci op))]:=by
 refine zbx zqZ (by simp) (by simpa using zcS op) fun w=> ?_
 simp (maxSteps:=2000000) only [zkP,zi,zB,zm,zf,zc,zb,zh,ze,za,zj,ev,look,zZ,zd,zg,zk,GV.getT,Value.oneCell',cond_true,Nat.reduceEqDiff,↓reduceIte,List.nil_append,Bool.true_and,Bool.not_false,true_and,zak,List.map_cons,List.map_nil,zn,zF,zcn,zcd]
 refine zac (zxn op.parent) rfl rfl rfl fun _=> ?_
 simp (maxSteps:=2000000) only [zK,zx,zi,zm,zq,zf,zp,zy,zc,zb,zh,zH,ze,za,zj,RO.isGh,zI,zar,ev,look,zd,zg,zk,zO,zP,unV,GV.getT,Value.oneCell',cond_true,cond_false,Nat.reduceEqDiff,↓reduceIte,List.nil_append,Bool.true_and,Bool.not_true,Bool.not_false,true_and,zD,zal,zC,decide_eq_true_eq,decide_eq_false_iff_not,↓zL,↓zbW,↓zN,zax,zdE,zn,zF,zcn,zcd,zcy,zck]
 refine ⟨fun h1=> ?_,fun h1=> ?_⟩
 ·have h1:¬(op.parent=1∨op.parent=2):=by simpa using h1
  refine zac (zsG op.parent hop.parent) rfl rfl rfl fun _=> ?_
  simp (maxSteps:=2000000) only [zK,zx,zi,zm,zq,zf,zp,zy,zc,zb,zh,zH,ze,za,zj,RO.isGh,zI,zar,ev,look,zd,zg,zk,zO,zP,unV,GV.getT,Value.oneCell',cond_true,cond_false,Nat.reduceEqDiff,↓reduceIte,List.nil_append,Bool.true_and,Bool.not_false,true_and,zD,zal,zC,decide_eq_true_eq,decide_eq_false_iff_not,↓zL,↓zbW,↓zN,zax,zdE,zn,zF,zcy,zck]
  refine ⟨fun h2=> ?_,fun h2=> ?_⟩
  ·have h2:¬zbS op.parent:=by simpa using h2
   rw [zpB ⟨h1,h2⟩]
  have h2:zbS op.parent:=by simpa using h2
  have hp:¬(¬(op.parent=1∨op.parent=2)∧¬zbS op.parent):=fun h=>h.2 h2
  refine ⟨fun h3=> ?_,fun h3=> ?_⟩
  ·have hn:zer op.name.data.toList=3:=zle (by rw [Array.length_toList];have:op.name.data.size=op.name.size:=rfl;omega)
   rw [zfn hp (by rw [hn];decide),hn]
  have hl:¬255<op.name.data.toList.length:=by rw [Array.length_toList];have:op.name.data.size=op.name.size:=rfl;omega
  have bad:zdH op.name.data.toList=false→[GV.s (Value.int .i64 1)]=[GV.s (Value.int .i64 (zci op))]:=fun h=>by
   have hn:=zfZ hl h
   rw [zfn hp (by rw [hn];decide),hn]
  refine ⟨fun h4=>⟨fun h5=>⟨fun h6=> ?_,fun h6=> ?_⟩,fun h5=> ?_⟩,fun h4=> ?_⟩
  ·refine zac (zlr op.name) rfl rfl rfl fun _=> ?_
   simp (maxSteps:=2000000) only [zK,zu,zx,zi,zm,zq,zf,zp,zT,zy,zc,zb,zh,zH,ze,za,zj,RO.isGh,zI,zar,ev,look,zd,zg,zk,zO,zP,GV.getT,Value.oneCell',cond_true,cond_false,Nat.reduceEqDiff,↓reduceIte,List.nil_append,Bool.true_and,Bool.not_false,true_and,zD,zal,zC,↓zL,↓zbW,↓zN,zax,zdE,zn,zF,zcI,zcD,zdi,zdj]
   have hgood:op.name.data.toList.contains 47=false→zer op.name.data.toList=0:=fun h=>by
    refine zpR ?_
    rw [zdH,h]
    have e0:op.name.data.toList≠[]:=fun e=>h4 (by rw [←zii op.name,e];rfl)
    have e1:op.name.data.toList≠[46]:=fun e=>h5 (by rw [←zii op.name,e];rfl)
    have e2:op.name.data.toList≠[46,46]:=fun e=>h6 (by rw [←zii op.name,e];rfl)
    simp only [List.isEmpty_eq_false_iff.2 e0,beq_false_of_ne e1,beq_false_of_ne e2,decide_eq_true (show op.name.data.toList.length≤255 by omega),Bool.not_false,Bool.and_self]
   exact ⟨fun hc=>(zgW hp).2 (by rw [hgood hc];rfl),fun hc=>bad (by rw [zdH,hc];simp)⟩
  ·exact bad (zbK (.inr (.inr (.inr (by rw [h6])))))
  ·exact bad (zbK (.inr (.inr (.inl (by rw [h5])))))
  ·exact bad (zbK (.inl (by rw [h4])))
 ·have h1:op.parent=1∨op.parent=2:=by
   by_cases e:op.parent=1
   ·exact .inl e
   ·exact .inr (by simpa [e]using h1)
  have hp:¬(¬(op.parent=1∨op.parent=2)∧¬zbS op.parent):=fun h=>h.1 h1
  refine ⟨fun h3=> ?_,fun h3=> ?_⟩
  ·have hn:zer op.name.data.toList=3:=zle (by rw [Array.length_toList];have:op.name.data.size=op.name.size:=rfl;omega)
   rw [zfn hp (by rw [hn];decide),hn]
  have hl:¬255<op.name.data.toList.length:=by rw [Array.length_toList];have:op.name.data.size=op.name.size:=rfl;omega
  have bad:zdH op.name.data.toList=false→[GV.s (Value.int .i64 1)]=[GV.s (Value.int .i64 (zci op))]:=fun h=>by
   have hn:=zfZ hl h
   rw [zfn hp (by rw [hn];decide),hn]
  refine ⟨fun h4=>⟨fun h5=>⟨fun h6=> ?_,fun h6=> ?_⟩,fun h5=> ?_⟩,fun h4=> ?_⟩
  ·refine zac (zlr op.name) rfl rfl rfl fun _=> ?_
   simp (maxSteps:=2000000) only [zK,zu,zx,zi,zm,zq,zf,zp,zT,zy,zc,zb,zh,zH,ze,za,zj,RO.isGh,zI,zar,ev,look,zd,zg,zk,zO,zP,GV.getT,Value.oneCell',cond_true,cond_false,Nat.reduceEqDiff,↓reduceIte,List.nil_append,Bool.true_and,Bool.not_false,true_and,zD,zal,zC,↓zL,↓zbW,↓zN,zax,zdE,zn,zF,zcI,zcD,zdi,zdj]
   have hgood:op.name.data.toList.contains 47=false→zer op.name.data.toList=0:=fun h=>by
    refine zpR ?_
    rw [zdH,h]
    have e0:op.name.data.toList≠[]:=fun e=>h4 (by rw [←zii op.name,e];rfl)
    have e1:op.name.data.toList≠[46]:=fun e=>h5 (by rw [←zii op.name,e];rfl)
    have e2:op.name.data.toList≠[46,46]:=fun e=>h6 (by rw [←zii op.name,e];rfl)
    simp only [List.isEmpty_eq_false_iff.2 e0,beq_false_of_ne e1,beq_false_of_ne e2,decide_eq_true (show op.name.data.toList.length≤255 by omega),Bool.not_false,Bool.and_self]
   exact ⟨fun hc=>(zgW hp).2 (by rw [hgood hc];rfl),fun hc=>bad (by rw [zdH,hc];simp)⟩
  ·exact bad (zbK (.inr (.inr (.inr (by rw [h6])))))
  ·exact bad (zbK (.inr (.inr (.inl (by rw [h5])))))
  ·exact bad (zbK (.inl (by rw [h4])))
end Go.Proofs.YtmjiojflncffeaaGreat.Vc

set_option linter.unusedVariables false
set_option linter.unusedSimpArgs false
set_option maxRecDepth 100000
namespace Go.Proofs.YtmjiojflncffeaaGreat.Vc
open Go Go.Proofs
def zaO (op:Op):Int:=
 if ¬zcM op.stamp∨op.kind<1∨3<op.kind∨(op.kind=1∧op.node≠zjT op.stamp)then 1
 else if op.kind≠3 then (if zci op≠0 then zci op else if op.kind=2∧¬zbS op.node then 1 else 0)
 else if ¬(op.node=1∨op.node=2)∧¬zbS op.node then 1
 else if 255<op.key.size∨255<op.value.size then 3
 else if op.key=⟨#[]⟩∨op.parent≠0∨op.name≠⟨#[]⟩then 1 else 0
theorem zeF {op:Op} (h:¬zcM op.stamp∨op.kind<1∨3<op.kind∨(op.kind=1∧op.node≠zjT op.stamp)):zaO op=1:=if_pos h
def zli (op:Op):Prop:=¬(¬zcM op.stamp∨op.kind<1∨3<op.kind∨(op.kind=1∧op.node≠zjT op.stamp))
theorem zfU {op:Op} (h:zli op) (k:op.kind≠3) (hp:zci op≠0):zaO op=zci op:=by rw [zaO,if_neg h,if_pos k,if_pos hp]
theorem znL {op:Op} (h:zli op) (k:op.kind≠3) (hp:zci op=0) (hm:op.kind=2∧¬zbS op.node):zaO op=1:=by rw [zaO,if_neg h,if_pos k,if_neg (by rw [hp];simp),if_pos hm]
theorem zfS {op:Op} (h:zli op) (k:op.kind≠3) (hp:zci op=0) (hm:¬(op.kind=2∧¬zbS op.node)):zaO op=0:=by rw [zaO,if_neg h,if_pos k,if_neg (by rw [hp];simp),if_neg hm]
theorem zoi {op:Op} (h:zli op) (k:op.kind=3) (hn:¬(op.node=1∨op.node=2)∧¬zbS op.node):zaO op=1:=by rw [zaO,if_neg h,if_neg (by simp [k]),if_pos hn]
theorem zue {op:Op} (h:zli op) (k:op.kind=3) (hn:¬(¬(op.node=1∨op.node=2)∧¬zbS op.node)) (hl:255<op.key.size∨255<op.value.size):zaO op=3:=by rw [zaO,if_neg h,if_neg (by simp [k]),if_neg hn,if_pos hl]
theorem zuP {op:Op} (h:zli op) (k:op.kind=3) (hn:¬(¬(op.node=1∨op.node=2)∧¬zbS op.node)) (hl:¬(255<op.key.size∨255<op.value.size)):zaO op=if op.key=⟨#[]⟩∨op.parent≠0∨op.name≠⟨#[]⟩then 1 else 0:=by rw [zaO,if_neg h,if_neg (by simp [k]),if_neg hn,if_neg hl]
theorem zke {op:Op} (hW:zli op) (hk:op.kind=3) (hn:¬(¬(op.node=1∨op.node=2)∧¬zbS op.node)):(¬(op.key.size:Int)>255→
   ((op.value.size:Int)>255→[GV.s (Value.int IntKind.i64 3)]=[GV.s (Value.int IntKind.i64 (zaO op))])∧
    (¬(op.value.size:Int)>255→
     (¬op.key={data:= #[]}→
       ((op.parent !=0)=false→
         ((!decide (op.name={data:= #[]}))=true→
           [GV.s (Value.int IntKind.i64 1)]=[GV.s (Value.int IntKind.i64 (zaO op))])∧
          ((!decide (op.name={data:= #[]}))=false→
           [GV.s (Value.int IntKind.i64 0)]=[GV.s (Value.int IntKind.i64 (zaO op))]))∧
        ((op.parent !=0)=true→
         [GV.s (Value.int IntKind.i64 1)]=[GV.s (Value.int IntKind.i64 (zaO op))]))∧
      (op.key={data:= #[]}→
       [GV.s (Value.int IntKind.i64 1)]=[GV.s (Value.int IntKind.i64 (zaO op))])))∧
  ((op.key.size:Int)>255→[GV.s (Value.int IntKind.i64 3)]=[GV.s (Value.int IntKind.i64 (zaO op))]):=by
 by_cases hl:255<op.key.size∨255<op.value.size
 ·rw [zue hW hk hn hl]
  exact ⟨fun h1=>⟨fun _=>rfl,fun h2=>by omega⟩,fun _=>rfl⟩
 ·rw [zuP hW hk hn hl]
  refine ⟨fun h1=>⟨fun h2=>by omega,fun h2=>⟨fun h3=>⟨fun h4=>⟨fun h5=> ?_,fun h5=> ?_⟩,fun h4=> ?_⟩,fun h3=> ?_⟩⟩,fun h=>by omega⟩
  ·rw [if_pos (.inr (.inr (by simpa using h5)))]
  ·rw [if_neg]
   rintro (h|h|h)
   ·exact h3 h
   ·exact h (by simpa using h4)
   ·exact h (by simpa using h5)
  ·rw [if_pos (.inr (.inl (by simpa using h4)))]
  ·rw [if_pos (.inl h3)]
theorem zCe (k:Int):k<1∨k=1∨k=2∨k=3∨3<k:=by omega
theorem zpH (op:Op) (hop:OpIn op):FnV Tryz.prog zoT [gOp op] [.s (.int .i64 (zaO op))]:=by
 refine zbx zoL (by simp) (by simpa using zcS op) fun w=> ?_
 simp (maxSteps:=2000000) only [ziJ,zi,zm,zbh,zf,zc,zb,zh,ze,za,zaq,zw,zX,zj,zaD,ev,look,zZ,zd,zg,zk,Value.oneCell',cond_true,Nat.reduceEqDiff,↓reduceIte,List.nil_append,Bool.true_and,true_and,zak,List.map_cons,List.map_nil,zn,zag,zcb,zbL]
 refine zhw (zpZ op.stamp) rfl rfl rfl ?_
 by_cases hc:zcM op.stamp
 case neg=>
  simp (maxSteps:=2000000) only [decide_eq_false hc,zx,zi,zm,zq,zf,zp,zc,zb,zh,zH,ze,za,zM,zaq,zcA,zU,zw,zX,zj,zaD,RO.isGh,zI,zar,ev,look,zd,zg,zk,unV,Value.oneCell',cond_true,cond_false,Nat.reduceEqDiff,↓reduceIte,Bool.true_and,Bool.not_false,true_and,zD,zal,zC,↓zL,↓zbW]
  rw [zeF (.inl hc)]
 rcases zCe op.kind with hk|hk|hk|hk|hk
 ·simp (maxSteps:=2000000) only [decide_eq_true hc,hk,zx,zi,zm,zq,zf,zp,zc,zb,zh,zH,ze,za,zM,zaq,zcA,zU,zw,zX,zj,zaD,RO.isGh,zI,zar,ev,look,zd,zg,zk,zO,zP,unV,GV.getT,Value.oneCell',cond_true,cond_false,Nat.reduceEqDiff,↓reduceIte,List.nil_append,Bool.true_and,Bool.not_true,Bool.not_false,decide_true,true_and,zD,zal,zC,↓zL,↓zbi,↓zbW,↓zN,zn,zF,zbn,zbj]
  rw [zeF (.inr (.inl hk))]
 ·simp (maxSteps:=2000000) only [decide_eq_true hc,hk,gt_iff_lt,zaq,zcA,zU,zw,zX,zj,zaD,ev,look,zd,zO,zP,unV,GV.getT,Value.oneCell',cond_true,Nat.reduceEqDiff,↓reduceIte,List.nil_append,Bool.true_and,Bool.not_true,Bool.not_false,BEq.rfl,decide_false,true_and,Int.reduceLT,↓zL,↓zbi,↓zN,zn,zF,zag,zcb,zbL,zbn,zbj,zbo,zaW]
  refine zhw (zBs op.stamp) rfl rfl rfl ?_
  by_cases hn:op.node=zjT op.stamp
  case neg=>
   simp (maxSteps:=2000000) only [decide_eq_true hc,bne_iff_ne.2 hn,zx,zi,zm,zq,zf,zp,zc,zb,zh,zH,ze,za,zM,zU,zj,ev,look,zd,zg,zk,zO,zP,Value.oneCell',cond_true,Nat.reduceEqDiff,↓reduceIte,Bool.true_and,true_and,zD,zal,zC,↓zL,↓zbi,↓zN]
   rw [zeF (.inr (.inr (.inr ⟨hk,hn⟩)))]
  have hW:zli op:=fun h=>by rcases h with h|h|h|h<;>first|exact h hc|omega|exact h.2 hn
  simp (maxSteps:=2000000) only [decide_eq_true hc,hk,Int.reduceBNe,bne_eq_false_iff_eq.2 hn,zu,zi,zm,zq,zf,zc,zb,zh,zH,ze,za,zM,zU,zj,ev,look,zd,zg,zk,zO,zP,GV.getT,Value.oneCell',cond_true,Nat.reduceEqDiff,↓reduceIte,List.nil_append,Bool.true_and,Bool.not_false,true_and,↓zL,↓zbi,↓zN,zn,zF,zbp,zbn,zbj]
  refine zac (zvw op hop) rfl rfl rfl fun _=> ?_
  by_cases hp:zci op=0
  case neg=>
   simp (maxSteps:=2000000) only [zK,bne_iff_ne.2 hp,zx,zi,zm,zq,zf,zp,zc,zb,zh,ze,za,zj,ev,look,zd,zg,zk,zO,zP,Value.oneCell',cond_true,Nat.reduceEqDiff,↓reduceIte,Bool.true_and,true_and,zD,zal,zC,↓zL]
   rw [zfU hW (by omega) hp]
  simp (maxSteps:=2000000) only [zK,Int.reduceBNe,Int.reduceBEq,hk,hp,zu,zx,zi,zB,zm,zq,zf,zT,zc,zb,zh,ze,za,zj,ev,look,zd,zg,zk,zO,zP,GV.getT,Value.oneCell',cond_true,Nat.reduceEqDiff,Nat.reduceBEq,↓reduceIte,List.nil_append,Bool.true_and,Bool.not_false,true_and,zD,zal,zC,↓zN,zn,zF,zbn,zbj]
  rw [zfS hW (by omega) hp (by omega)]
 ·simp (maxSteps:=2000000) only [decide_eq_true hc,hk,gt_iff_lt,Int.reduceBNe,Int.reduceBEq,zu,zi,zm,zq,zf,zc,zb,zh,zH,ze,za,zM,zaq,zcA,zU,zw,zX,zj,zaD,RO.isGh,zI,zar,ev,look,zd,zg,zk,zO,zP,unV,GV.getT,Value.oneCell',cond_true,cond_false,Nat.reduceEqDiff,Nat.reduceBEq,↓reduceIte,List.nil_append,Bool.true_and,Bool.not_true,Bool.not_false,decide_false,true_and,Int.reduceLT,↓zL,↓zbi,↓zN,zn,zF,zbp,zbn,zbj]
  have hW:zli op:=fun h=>by rcases h with h|h|h|h<;>first|exact h hc|omega
  refine zac (zvw op hop) rfl rfl rfl fun _=> ?_
  by_cases hp:zci op=0
  case neg=>
   simp (maxSteps:=2000000) only [zK,bne_iff_ne.2 hp,zx,zi,zm,zq,zf,zp,zc,zb,zh,ze,za,zj,ev,look,zd,zg,zk,zO,zP,Value.oneCell',cond_true,Nat.reduceEqDiff,↓reduceIte,Bool.true_and,true_and,zD,zal,zC,↓zL]
   rw [zfU hW (by omega) hp]
  simp (maxSteps:=2000000) only [zK,Int.reduceBNe,hk,hp,zu,zi,zB,zm,zq,zf,zc,zb,zh,ze,za,zj,ev,look,zd,zg,zk,zO,zP,GV.getT,Value.oneCell',cond_true,Nat.reduceEqDiff,↓reduceIte,List.nil_append,Bool.true_and,Bool.not_false,BEq.rfl,true_and,↓zL,↓zN,zn,zF,zbn,zbj,zbo,zaW]
  refine zac (zsG op.node hop.node) rfl rfl rfl fun _=> ?_
  by_cases hm:zbS op.node
  ·simp (maxSteps:=2000000) only [zK,decide_eq_true hm,zu,zx,zi,zm,zq,zf,zT,zc,zb,zh,ze,za,zj,ev,look,zd,zg,zk,unV,Value.oneCell',cond_true,↓reduceIte,Bool.not_true,zD,zal,zC,↓zN]
   rw [zfS hW (by omega) hp (fun h=>h.2 hm)]
  ·simp (maxSteps:=2000000) only [zK,decide_eq_false hm,zx,zi,zm,zq,zf,zp,zy,zc,zb,zh,ze,za,zj,ev,look,zd,zg,zk,unV,Value.oneCell',cond_true,↓reduceIte,Bool.not_false,zD,zal,zC,↓zL]
   rw [znL hW (by omega) hp ⟨hk,hm⟩]
 ·simp (maxSteps:=2000000) only [decide_eq_true hc,hk,gt_iff_lt,Int.reduceBNe,Int.reduceBEq,zu,zi,zB,zm,zq,zf,zc,zb,zh,zH,ze,za,zM,zaq,zcA,zU,zw,zX,zj,zaD,RO.isGh,zI,zar,ev,look,zd,zg,zk,zO,zP,unV,GV.getT,Value.oneCell',cond_true,cond_false,Nat.reduceEqDiff,Nat.reduceBEq,↓reduceIte,List.nil_append,Bool.true_and,Bool.not_true,Bool.not_false,BEq.rfl,decide_false,true_and,Int.reduceLT,↓zL,↓zbi,↓zN,zn,zF,zbn,zbj,zbo,zaW]
  have hW:zli op:=fun h=>by rcases h with h|h|h|h<;>first|exact h hc|omega
  refine zac (zsG op.node hop.node) rfl rfl rfl fun _=> ?_
  by_cases hm:zbS op.node
  ·simp (maxSteps:=2000000) only [zK,decide_eq_true hm,zu,zx,zi,zm,zq,zf,zp,zT,zy,zc,zb,zh,zH,ze,za,zj,RO.isGh,zI,zar,ev,look,zd,zg,zk,zO,zP,unV,GV.getT,Value.oneCell',cond_true,cond_false,Nat.reduceEqDiff,↓reduceIte,List.nil_append,Bool.true_and,Bool.not_true,Bool.not_false,true_and,zD,zal,zC,decide_eq_true_eq,decide_eq_false_iff_not,↓zL,↓zbW,↓zN,zax,zdE,zn,zF,zcn,zcd,zcy,zck,zcI,zcD,zdi,zdj]
   exact zke hW hk fun h=>h.2 hm
  ·simp (maxSteps:=2000000) only [zK,decide_eq_false hm,zH,ze,za,zj,ev,look,zd,unV,GV.getT,Nat.reduceEqDiff,↓reduceIte,List.nil_append,Bool.true_and,Bool.not_false,true_and,↓zL,zn,zF,zbo,zaW]
   refine zac (zxn op.node) rfl rfl rfl fun _=> ?_
   by_cases ht:op.node=1∨op.node=2
   ·simp (maxSteps:=2000000) only [zK,show (op.node==1||op.node==2)=true by simpa using ht,zu,zx,zi,zm,zq,zf,zp,zT,zy,zc,zb,zh,zH,ze,za,zj,RO.isGh,zI,zar,ev,look,zd,zg,zk,zO,zP,unV,GV.getT,Value.oneCell',cond_true,cond_false,Nat.reduceEqDiff,↓reduceIte,List.nil_append,Bool.true_and,Bool.not_true,Bool.not_false,true_and,zD,zal,zC,decide_eq_true_eq,decide_eq_false_iff_not,↓zL,↓zbW,↓zN,zax,zdE,zn,zF,zcn,zcd,zcy,zck,zcI,zcD,zdi,zdj]
    exact zke hW hk fun h=>h.1 ht
   ·simp (maxSteps:=2000000) only [zK,show (op.node==1||op.node==2)=false by simpa using ht,zx,zi,zm,zq,zf,zp,zy,zc,zb,zh,ze,za,zj,ev,look,zd,zg,zk,unV,Value.oneCell',cond_true,Nat.reduceEqDiff,↓reduceIte,Bool.not_false,zD,zal,zC,↓zL]
    rw [zoi hW hk ⟨ht,hm⟩]
 ·have hk1:¬op.kind<1:=by omega
  simp (maxSteps:=2000000) only [decide_eq_true hc,hk,hk1,zx,zi,zm,zq,zf,zp,zc,zb,zh,zH,ze,za,zM,zaq,zcA,zU,zw,zX,zj,zaD,RO.isGh,zI,zar,ev,look,zd,zg,zk,zO,zP,unV,GV.getT,Value.oneCell',cond_true,cond_false,Nat.reduceEqDiff,↓reduceIte,List.nil_append,Bool.true_and,Bool.not_true,Bool.not_false,decide_true,decide_false,true_and,zD,zal,zC,↓zL,↓zbi,↓zbW,↓zN,zn,zF,zbn,zbj]
  rw [zeF (.inr (.inr (.inl hk)))]
theorem zuh (op:Op) (hop:OpIn op):FnV Tryz.prog zoX [gOp op] [.s (.int .i64 (zaO op))]:=by
 refine zbx zoW (by simp) (by simpa using zcS op) fun w=> ?_
 simp (maxSteps:=2000000) only [ziU,zi,zm,zf,zc,zb,zh,ze,za,zj,ev,look,zZ,zd,zg,zk,Value.oneCell',cond_true,Nat.reduceEqDiff,↓reduceIte,List.nil_append,Bool.true_and,true_and,zak,List.map_cons,List.map_nil,zn,zag,zcb,zbL]
 refine zac (zmM op.stamp) rfl rfl rfl fun _=> ?_
 by_cases hc:zcM op.stamp
 case neg=>
  simp (maxSteps:=2000000) only [zK,decide_eq_false hc,zx,zi,zm,zq,zf,zp,zc,zb,zh,zH,ze,za,zj,RO.isGh,zI,zar,ev,look,zd,zg,zk,unV,Value.oneCell',cond_true,cond_false,Nat.reduceEqDiff,↓reduceIte,Bool.not_false,zD,zal,zC,↓zL,↓zbW]
  rw [zeF (.inl hc)]
 rcases zCe op.kind with hk|hk|hk|hk|hk
 ·simp (maxSteps:=2000000) only [zK,decide_eq_true hc,hk,zx,zi,zm,zq,zf,zp,zc,zb,zh,zH,ze,za,zj,RO.isGh,zI,zar,ev,look,zd,zg,zk,zO,zP,unV,GV.getT,Value.oneCell',cond_true,cond_false,Nat.reduceEqDiff,↓reduceIte,List.nil_append,Bool.true_and,Bool.not_true,Bool.not_false,decide_true,true_and,zD,zal,zC,↓zL,↓zbi,↓zbW,↓zN,zn,zF,zbn,zbj]
  rw [zeF (.inr (.inl hk))]
 ·simp (maxSteps:=2000000) only [zK,decide_eq_true hc,hk,gt_iff_lt,zu,zi,zbh,zq,zf,zc,zb,zh,zH,ze,za,zaq,zcA,zU,zw,zX,zj,zaD,ev,look,zd,zg,zk,zO,zP,unV,GV.getT,Value.oneCell',cond_true,Nat.reduceEqDiff,↓reduceIte,List.nil_append,Bool.true_and,Bool.not_true,Bool.not_false,BEq.rfl,decide_false,true_and,Int.reduceLT,↓zL,↓zbi,↓zN,zn,zF,zag,zcb,zbL,zbn,zbj,zbo,zaW]
  refine zhw (zzR op.stamp) rfl rfl rfl ?_
  by_cases hn:op.node=zjT op.stamp
  case neg=>
   simp (maxSteps:=2000000) only [decide_eq_true hc,bne_iff_ne.2 hn,zx,zi,zm,zq,zf,zp,zc,zb,zh,zH,ze,za,zM,zU,zj,ev,look,zd,zg,zk,zO,zP,Value.oneCell',cond_true,Nat.reduceEqDiff,↓reduceIte,Bool.true_and,true_and,zD,zal,zC,↓zL]
   rw [zeF (.inr (.inr (.inr ⟨hk,hn⟩)))]
  have hW:zli op:=fun h=>by rcases h with h|h|h|h<;>first|exact h hc|omega|exact h.2 hn
  simp (maxSteps:=2000000) only [decide_eq_true hc,hk,Int.reduceBNe,bne_eq_false_iff_eq.2 hn,zu,zi,zm,zq,zf,zc,zb,zh,zH,ze,za,zM,zU,zj,ev,look,zd,zg,zk,zO,zP,GV.getT,Value.oneCell',cond_true,Nat.reduceEqDiff,↓reduceIte,List.nil_append,Bool.true_and,Bool.not_false,true_and,↓zL,↓zN,zn,zF,zbp,zbn,zbj]
  refine zac (zrK op hop) rfl rfl rfl fun _=> ?_
  by_cases hp:zci op=0
  case neg=>
   simp (maxSteps:=2000000) only [zK,bne_iff_ne.2 hp,zx,zi,zm,zq,zf,zp,zc,zb,zh,ze,za,zj,ev,look,zd,zg,zk,zO,zP,Value.oneCell',cond_true,Nat.reduceEqDiff,↓reduceIte,Bool.true_and,true_and,zD,zal,zC,↓zL]
   rw [zfU hW (by omega) hp]
  simp (maxSteps:=2000000) only [zK,Int.reduceBNe,Int.reduceBEq,hk,hp,zu,zx,zi,zm,zq,zf,zp,zc,zb,zh,zH,ze,za,zj,RO.isGh,zI,zar,ev,look,zd,zg,zk,zO,zP,GV.getT,Value.oneCell',cond_true,cond_false,Nat.reduceEqDiff,Nat.reduceBEq,↓reduceIte,List.nil_append,Bool.true_and,Bool.not_true,Bool.not_false,true_and,zD,zal,zC,↓zL,↓zbi,↓zN,zn,zF,zbn,zbj]
  rw [zfS hW (by omega) hp (by omega)]
 ·simp (maxSteps:=2000000) only [zK,decide_eq_true hc,hk,gt_iff_lt,Int.reduceBNe,Int.reduceBEq,zu,zi,zm,zbh,zq,zf,zc,zb,zh,zH,ze,za,zM,zaq,zcA,zU,zw,zX,zj,zaD,RO.isGh,zI,zar,ev,look,zd,zg,zk,zO,zP,unV,GV.getT,Value.oneCell',cond_true,cond_false,Nat.reduceEqDiff,Nat.reduceBEq,↓reduceIte,List.nil_append,Bool.true_and,Bool.not_true,Bool.not_false,decide_false,true_and,Int.reduceLT,↓zL,↓zbi,↓zN,zn,zF,zbp,zbn,zbj]
  have hW:zli op:=fun h=>by rcases h with h|h|h|h<;>first|exact h hc|omega
  refine zac (zrK op hop) rfl rfl rfl fun _=> ?_
  by_cases hp:zci op=0
  case neg=>
   simp (maxSteps:=2000000) only [zK,bne_iff_ne.2 hp,zx,zi,zm,zq,zf,zp,zc,zb,zh,ze,za,zj,ev,look,zd,zg,zk,zO,zP,Value.oneCell',cond_true,Nat.reduceEqDiff,↓reduceIte,Bool.true_and,true_and,zD,zal,zC,↓zL]
   rw [zfU hW (by omega) hp]
  simp (maxSteps:=2000000) only [zK,Int.reduceBNe,hk,hp,zu,zi,zm,zq,zf,zc,zb,zh,zH,ze,za,zj,ev,look,zd,zg,zk,zO,zP,GV.getT,Value.oneCell',cond_true,Nat.reduceEqDiff,↓reduceIte,List.nil_append,Bool.true_and,Bool.not_false,BEq.rfl,true_and,↓zL,↓zN,zn,zF,zbn,zbj,zbo,zaW]
  refine zac (zpJ op.node hop.node) rfl rfl rfl fun _=> ?_
  by_cases hm:zbS op.node
  ·simp (maxSteps:=2000000) only [zK,Int.reduceBNe,Int.reduceBEq,hk,decide_eq_true hm,zu,zx,zi,zm,zq,zf,zp,zc,zb,zh,zH,ze,za,zj,RO.isGh,zI,zar,ev,look,zd,zg,zk,zO,zP,unV,GV.getT,Value.oneCell',cond_true,cond_false,Nat.reduceEqDiff,Nat.reduceBEq,↓reduceIte,List.nil_append,Bool.true_and,Bool.not_true,Bool.not_false,true_and,zD,zal,zC,↓zL,↓zbi,↓zN,zn,zF,zbn,zbj]
   rw [zfS hW (by omega) hp (fun h=>h.2 hm)]
  ·simp (maxSteps:=2000000) only [zK,decide_eq_false hm,zx,zi,zm,zq,zf,zp,zc,zb,zh,zH,ze,za,zj,RO.isGh,zI,zar,ev,look,zd,zg,zk,unV,Value.oneCell',cond_true,cond_false,Nat.reduceEqDiff,↓reduceIte,Bool.not_false,zD,zal,zC,↓zL,↓zbW]
   rw [znL hW (by omega) hp ⟨hk,hm⟩]
 ·simp (maxSteps:=2000000) only [zK,decide_eq_true hc,hk,gt_iff_lt,Int.reduceBNe,Int.reduceBEq,zu,zi,zm,zbh,zq,zf,zc,zb,zh,zH,ze,za,zM,zaq,zcA,zU,zw,zX,zj,zaD,RO.isGh,zI,zar,ev,look,zd,zg,zk,zO,zP,unV,GV.getT,Value.oneCell',cond_true,cond_false,Nat.reduceEqDiff,Nat.reduceBEq,↓reduceIte,List.nil_append,Bool.true_and,Bool.not_true,Bool.not_false,BEq.rfl,decide_false,true_and,Int.reduceLT,↓zL,↓zbi,↓zN,zn,zF,zbn,zbj,zbo,zaW]
  have hW:zli op:=fun h=>by rcases h with h|h|h|h<;>first|exact h hc|omega
  refine zac (zpJ op.node hop.node) rfl rfl rfl fun _=> ?_
  by_cases hm:zbS op.node
  ·simp (maxSteps:=2000000) only [zK,Int.reduceBNe,hk,decide_eq_true hm,zu,zx,zi,zm,zq,zf,zp,zc,zb,zh,zH,ze,za,zj,RO.isGh,zI,zar,ev,look,zd,zg,zk,zO,zP,unV,GV.getT,Value.oneCell',cond_true,cond_false,Nat.reduceEqDiff,↓reduceIte,List.nil_append,Bool.true_and,Bool.not_true,Bool.not_false,true_and,zD,zal,zC,decide_eq_true_eq,decide_eq_false_iff_not,↓zL,↓zbi,↓zbW,↓zN,zax,zdE,zn,zF,zbn,zbj,zcn,zcd,zcy,zck,zcI,zcD,zdi,zdj]
   exact zke hW hk fun h=>h.2 hm
  ·simp (maxSteps:=2000000) only [zK,decide_eq_false hm,zH,ze,za,zj,ev,look,zd,unV,GV.getT,Value.oneCell',cond_true,Nat.reduceEqDiff,↓reduceIte,List.nil_append,Bool.true_and,Bool.not_false,true_and,↓zL,↓zbi,zn,zF,zbo,zaW]
   refine zac (zxH op.node) rfl rfl rfl fun _=> ?_
   by_cases ht:op.node=1∨op.node=2
   ·simp (maxSteps:=2000000) only [zK,Int.reduceBNe,hk,show (op.node==1||op.node==2)=true by simpa using ht,zu,zx,zi,zm,zq,zf,zp,zc,zb,zh,zH,ze,za,zj,RO.isGh,zI,zar,ev,look,zd,zg,zk,zO,zP,unV,GV.getT,Value.oneCell',cond_true,cond_false,Nat.reduceEqDiff,↓reduceIte,List.nil_append,Bool.true_and,Bool.not_true,Bool.not_false,true_and,zD,zal,zC,decide_eq_true_eq,decide_eq_false_iff_not,↓zL,↓zbi,↓zbW,↓zN,zax,zdE,zn,zF,zbn,zbj,zcn,zcd,zcy,zck,zcI,zcD,zdi,zdj]
    exact zke hW hk fun h=>h.1 ht
   ·simp (maxSteps:=2000000) only [zK,show (op.node==1||op.node==2)=false by simpa using ht,zx,zi,zm,zq,zf,zp,zc,zb,zh,zH,ze,za,zj,ev,look,zd,zg,zk,unV,Value.oneCell',cond_true,Nat.reduceEqDiff,↓reduceIte,Bool.not_false,zD,zal,zC,↓zL,↓zbi,↓zN]
    rw [zoi hW hk ⟨ht,hm⟩]
 ·have hk1:¬op.kind<1:=by omega
  simp (maxSteps:=2000000) only [zK,decide_eq_true hc,hk,hk1,zx,zi,zm,zq,zf,zp,zc,zb,zh,zH,ze,za,zj,ev,look,zd,zg,zk,zO,zP,unV,GV.getT,Value.oneCell',cond_true,Nat.reduceEqDiff,↓reduceIte,List.nil_append,Bool.true_and,Bool.not_true,Bool.not_false,decide_true,decide_false,true_and,zD,zal,zC,↓zL,↓zbi,↓zN,zn,zF,zbn,zbj]
  rw [zeF (.inr (.inr (.inl hk)))]
end Go.Proofs.YtmjiojflncffeaaGreat.Vc

set_option linter.unusedVariables false
set_option maxRecDepth 100000
namespace Go.Proofs.YtmjiojflncffeaaGreat.Vc
open Go Go.Proofs
abbrev zfd:Nat:=42
def zkK:Cd:=
 (.seq (.rg [⟨none,[(some 2, .box 97 (.t 0)),(some 3, .box 24 (.t 1)),(some 4, .mv (.c (.int .i64 0)))]⟩] [2,3])
 (.seq (.rg [⟨none,[(some 5, .fldA (.t 2) 0 0),(some 6, .fldA (.t 5) 0 0),(some 7, .ld (.t 6) 2 true),(some 8, .ld (.t 3) 2 true),(some 9, .call 40 [(.t 7),(.t 8)]),(some 4, .mv (.t 9))]⟩] [4])
 .ret))
theorem zqT:Ok Tryz.prog 42 zkK 10 [] [.tmp 4]:=Ok.mk' Tryz.func42 (by kernel_rfl) (by kernel_rfl) (by kernel_rfl)
abbrev zgS:Nat:=41
def zdg:Cd:=
 (.seq (.seq (.rg [⟨none,[(some 15, .mv (.t 9)),(some 16, .mv (.t 10)),(some 17, .bin .lss (.t 15) (.t 16))]⟩] [0,2,4,8,9,10,17])
 (.ite (.t 17)
 .skip
 (.exit 0)))
 (.block 1 (.seq (.rg [⟨none,[(some 18, .mv (.t 9)),(some 19, .mv (.t 10)),(some 20, .bin .add (.t 18) (.t 19)),(some 21, .cvI .u64 (.t 20)),(some 22, .bin .shr (.t 21) (.c (.int .u64 1))),(some 23, .cvI .i64 (.t 22)),(some 11, .mv (.t 23))]⟩] [0,2,4,8,9,10,11])
 (.seq (.rgq [⟨none,[(some 24, .mv (.t 2)),(some 25, .mv (.t 0)),(some 26, .mv (.t 11)),(some 27, .idxS (.t 25) (.t 26) 22),(some 28, .ld (.t 27) 22 true),(some 29, .ld (.t 4) 2 true)]⟩] [⟨none,[(some 30, .callV (.t 24) [(.t 28),(.t 29)]),(some 31, .bin .lss (.t 30) (.c (.int .i64 0)))]⟩] [0,2,4,8,9,10,11,31])
 (.ite (.t 31)
 (.rg [⟨none,[(some 32, .mv (.t 11)),(some 33, .bin .add (.t 32) (.c (.int .i64 1))),(some 9, .mv (.t 33))]⟩] [0,2,4,8,9,10])
 (.rg [⟨none,[(some 34, .mv (.t 11)),(some 10, .mv (.t 34))]⟩] [0,2,4,8,9,10]))))))
def zdI:Cd:=
 (.seq (.rg [⟨none,[(some 4, .box 24 (.t 1)),(some 6, .mv (.c (.int .i64 0))),(some 7, .mv (.c (.bool false)))]⟩] [0,2,4])
 (.seq (.rg [⟨none,[(some 12, .mv (.t 0)),(some 13, .len (.t 12)),(some 8, .mv (.t 13))]⟩] [0,2,4,8])
 (.seq (.rg [⟨none,[(some 14, .mv (.t 8)),(some 9, .mv (.c (.int .i64 0))),(some 10, .mv (.t 14))]⟩] [0,2,4,8,9,10])
 (.seq (.block 0 (.loop zdg))
 (.seq (.rgq [⟨none,[(some 35, .mv (.t 9)),(some 36, .mv (.t 9)),(some 37, .mv (.t 8)),(some 38, .bin .lss (.t 36) (.t 37)),(some 39, .mv (.t 38))]⟩,⟨some (39,true),[(some 40, .mv (.t 2)),(some 41, .mv (.t 0)),(some 42, .mv (.t 9)),(some 43, .idxS (.t 41) (.t 42) 22),(some 44, .ld (.t 43) 22 true),(some 45, .ld (.t 4) 2 true),(some 46, .callV (.t 40) [(.t 44),(.t 45)]),(some 47, .bin .eql (.t 46) (.c (.int .i64 0)))]⟩,⟨none,[(some 48, .pick (.t 39) (.t 47) (.c (.bool false))),(some 6, .mv (.t 35))]⟩] [⟨none,[(some 7, .mv (.t 48))]⟩] [6,7])
 .ret)))))
theorem zgR:Ok Tryz.prog 41 zdI 49 [(5,6),(8,15)] [.tmp 6, .tmp 7]:=Ok.mk' Tryz.func41 (by kernel_rfl) (by kernel_rfl) (by kernel_rfl)
abbrev zmG:Nat:=35
def zhJ:Cd:=
 (.seq (.rg [⟨none,[(some 2, .mv (.c (.bool false)))]⟩] [0])
 (.seq (.rg [⟨none,[(some 3, .mv (.t 0)),(some 4, .eqA false 27 (.t 3) (.c (.pointer none))),(some 5, .mv (.t 4))]⟩,⟨some (5,false),[(some 6, .mv (.t 0)),(some 7, .nilc (.t 6)),(some 8, .fldA (.t 7) 1 1),(some 9, .ld (.t 8) 1 false),(some 10, .eqA false 40 (.t 9) (.c (.pointer none)))]⟩,⟨none,[(some 11, .pick (.t 5) (.c (.bool true)) (.t 10)),(some 2, .mv (.t 11))]⟩] [2])
 .ret))
theorem znk:Ok Tryz.prog 35 zhJ 12 [] [.tmp 2]:=Ok.mk' Tryz.func35 (by kernel_rfl) (by kernel_rfl) (by kernel_rfl)
abbrev zuA:Nat:=12
def zos:Cd:=
 (.seq (.rg [⟨none,[(some 0, .mv (.c (.pointer none)))]⟩] [])
 (.seq (.rg [⟨none,[(some 1, .call 34 []),(some 2, .bld (.c (.s (.pointer none)) .u) [(0,(.t 1))]),(some 3, .call 34 []),(some 4, .bld (.c (.c (.s (.pointer none)) .u) (.c (.s (.pointer none)) (.c (.s (.int .i64 0)) (.c (.s (.slice none 0 0)) (.c (.s (.int .i64 0)) .u))))) [(0,(.t 2)),(1,(.t 3))]),(some 5, .box 81 (.t 4)),(none, .gh),(some 0, .mv (.t 5))]⟩] [0])
 .ret))
theorem zvk:Ok Tryz.prog 12 zos 6 [] [.tmp 0]:=Ok.mk' Tryz.func12 (by kernel_rfl) (by kernel_rfl) (by kernel_rfl)
abbrev zns:Nat:=36
def zdS:Cd:=
 (.seq (.gh (.rga (.op ⟨none,[(some 31, .mv (.t 0))]⟩ (.op ⟨none,[(some 32, .nilc (.t 31))]⟩ (.op ⟨none,[(some 33, .fldA (.t 32) 3 3)]⟩ (.op ⟨none,[(some 35, .fldA (.t 7) 0 0)]⟩ (.or (.op ⟨none,[(some 34, .ld (.t 33) 1 false)]⟩ (.op ⟨none,[(some 36, .ld (.t 35) 2 true)]⟩ (.op ⟨none,[(some 37, .call 41 [(.t 34),(.t 36),(.c (.func (.func 42) #[] #[]))])]⟩ (.op ⟨none,[(some 30, .mv (.t 37))]⟩ (.op ⟨none,[(some 38, .ext (.t 30) 0)]⟩ (.op ⟨none,[(some 39, .ext (.t 30) 1)]⟩ (.op ⟨none,[(some 9, .mv (.t 38))]⟩ (.op ⟨none,[(some 10, .mv (.t 39))]⟩ .done)))))))) (.op ⟨none,[(some 36, .ld (.t 35) 2 true)]⟩ (.op ⟨none,[(some 34, .ld (.t 33) 1 false)]⟩ (.op ⟨none,[(some 37, .call 41 [(.t 34),(.t 36),(.c (.func (.func 42) #[] #[]))])]⟩ (.op ⟨none,[(some 30, .mv (.t 37))]⟩ (.op ⟨none,[(some 38, .ext (.t 30) 0)]⟩ (.op ⟨none,[(some 39, .ext (.t 30) 1)]⟩ (.op ⟨none,[(some 9, .mv (.t 38))]⟩ (.op ⟨none,[(some 10, .mv (.t 39))]⟩ .done))))))))))))) [0,5,7,10,12,13,14]))
 (.block 2 (.seq (.rgq [⟨none,[(some 41, .fldA (.t 7) 0 0),(some 42, .fldA (.t 41) 0 0),(some 43, .ld (.t 42) 1 false),(some 44, .mv (.t 0)),(some 45, .nilc (.t 44)),(some 46, .fldA (.t 45) 2 2),(some 47, .ld (.t 46) 1 false)]⟩] [⟨none,[(some 48, .bin .leq (.t 43) (.t 47)),(some 40, .mv (.t 48))]⟩] [0,5,7,10,12,13,14,40])
 (.ite (.t 40)
 (.seq (.rg [⟨none,[(some 4, .mv (.c (.int .i64 130)))]⟩] [4])
 .ret)
 (.seq (.rg [⟨none,[(some 50, .mv (.t 10)),(some 51, .mv (.t 50))]⟩,⟨some (51,false),[(some 52, .mv (.t 5)),(some 53, .fldA (.t 7) 0 0),(some 54, .ld (.t 53) 2 true),(some 55, .mlk2 (.t 52) (.t 54) (.int .i64 0) false),(some 56, .bin .gtr (.t 55) (.c (.int .i64 1)))]⟩,⟨none,[(some 57, .pick (.t 51) (.c (.bool true)) (.t 56)),(some 49, .mv (.t 57))]⟩] [0,5,12,13,14,49])
 (.ite (.t 49)
 (.seq (.rg [⟨none,[(some 4, .mv (.c (.int .i64 5)))]⟩] [4])
 .ret)
 .skip))))))
def zfM:Cd:=
 (.seq (.rg [⟨none,[(some 15, .bin .lss (.t 14) (.t 13))]⟩] [0,5,12,13,14,15])
 (.seq (.ite (.t 15)
 .skip
 (.exit 0))
 (.seq (.block 1 (.seq (.rg [⟨none,[(some 16, .idxS (.t 12) (.t 14) 8),(some 17, .ld (.t 16) 8 true),(some 7, .new 26 (.c (.c (.s (.int .i64 0)) (.c (.s (.int .i64 0)) .u)) (.c (.s (.int .i64 0)) (.c (.s (.int .i64 0)) (.c (.s (.int .i64 0)) (.c (.s (.string ⟨#[]⟩)) (.c (.s (.string ⟨#[]⟩)) (.c (.s (.string ⟨#[]⟩)) .u)))))))),(none, .st (.t 7) (.t 17) 8)]⟩] [0,5,7,12,13,14])
 (.seq (.seq (.rg [⟨none,[(some 18, .ld (.t 7) 8 true),(some 19, .call 52 [(.t 18)]),(some 8, .mv (.t 19))]⟩] [0,5,7,8,12,13,14])
 (.seq (.rg [⟨none,[(some 20, .mv (.t 8)),(some 21, .bin .neq (.t 20) (.c (.int .i64 0)))]⟩] [0,5,7,8,12,13,14,21])
 (.ite (.t 21)
 (.seq (.rg [⟨none,[(some 22, .mv (.t 8)),(some 4, .mv (.t 22))]⟩] [4])
 .ret)
 .skip)))
 (.seq (.rga (.op ⟨none,[(some 23, .mv (.t 5))]⟩ (.op ⟨none,[(some 24, .fldA (.t 7) 0 0)]⟩ (.op ⟨none,[(some 25, .ld (.t 24) 2 true)]⟩ (.or (.op ⟨none,[(some 26, .mlk2 (.t 23) (.t 25) (.int .i64 0) false)]⟩ (.op ⟨none,[(some 27, .bin .add (.t 26) (.c (.int .i64 1)))]⟩ (.op ⟨none,[(some 28, .men2 (.t 23) (.t 25) (.int .i64 0))]⟩ (.op ⟨none,[(some 29, .ext (.t 28) 1)]⟩ (.op ⟨none,[(none, .mes2 (.t 23) (.t 29) (.t 27))]⟩ .done))))) (.op ⟨none,[(some 28, .men2 (.t 23) (.t 25) (.int .i64 0))]⟩ (.op ⟨none,[(some 29, .ext (.t 28) 1)]⟩ (.op ⟨none,[(some 26, .mlk2 (.t 23) (.t 25) (.int .i64 0) false)]⟩ (.op ⟨none,[(some 27, .bin .add (.t 26) (.c (.int .i64 1)))]⟩ (.op ⟨none,[(none, .mes2 (.t 23) (.t 29) (.t 27))]⟩ .done))))))))) [0,5,7,12,13,14])
 zdS))))
 (.rg [⟨none,[(some 58, .bin .add (.t 14) (.c (.int .i64 1))),(some 14, .mv (.t 58))]⟩] [0,5,12,13,14]))))
def zht:Cd:=
 (.seq (.rg [⟨none,[(some 4, .mv (.c (.int .i64 0)))]⟩] [0,1])
 (.seq (.rg [⟨none,[(some 11, .mkm),(some 5, .mv (.t 11))]⟩] [0,1,5])
 (.seq (.seq (.rg [⟨none,[(some 12, .mv (.t 1)),(some 13, .len (.t 12)),(some 14, .mv (.c (.int .i64 0)))]⟩] [0,5,12,13,14])
 (.block 0 (.loop zfM)))
 (.seq (.rg [⟨none,[(some 4, .mv (.c (.int .i64 0)))]⟩] [4])
 .ret))))
theorem znF:Ok Tryz.prog 36 zht 59 [(8,999999),(9,999999),(10,7)] [.tmp 4]:=Ok.mk' Tryz.func36 (by kernel_rfl) (by kernel_rfl) (by kernel_rfl)
abbrev zoJ:Nat:=22
def ziE:Cd:=
 (.seq (.rg [⟨none,[(some 2, .mv (.c (.int .i64 0)))]⟩] [0])
 (.seq (.seq (.rg [⟨none,[(some 3, .mv (.t 0)),(some 4, .call 35 [(.t 3)])]⟩] [0,4])
 (.ite (.t 4)
 (.seq (.rg [⟨none,[(some 2, .mv (.c (.int .i64 0)))]⟩] [2])
 .ret)
 .skip))
 (.seq (.rg [⟨none,[(some 5, .mv (.t 0)),(some 6, .nilc (.t 5)),(some 7, .fldA (.t 6) 3 3),(some 8, .ld (.t 7) 1 false),(some 9, .len (.t 8)),(some 2, .mv (.t 9))]⟩] [2])
 .ret)))
theorem zoD:Ok Tryz.prog 22 ziE 10 [] [.tmp 2]:=Ok.mk' Tryz.func22 (by kernel_rfl) (by kernel_rfl) (by kernel_rfl)
abbrev zjn:Nat:=30
def zfl:Cd:=
 (.seq (.rg [⟨none,[(some 2, .mv (.c (.int .i64 0)))]⟩] [0])
 (.seq (.seq (.rg [⟨none,[(some 3, .mv (.t 0)),(some 4, .call 35 [(.t 3)])]⟩] [0,4])
 (.ite (.t 4)
 (.seq (.rg [⟨none,[(some 2, .mv (.c (.int .i64 0)))]⟩] [2])
 .ret)
 .skip))
 (.seq (.rg [⟨none,[(some 5, .mv (.t 0)),(some 6, .nilc (.t 5)),(some 7, .fldA (.t 6) 2 2),(some 8, .ld (.t 7) 1 false),(some 2, .mv (.t 8))]⟩] [2])
 .ret)))
theorem zjr:Ok Tryz.prog 30 zfl 9 [] [.tmp 2]:=Ok.mk' Tryz.func30 (by kernel_rfl) (by kernel_rfl) (by kernel_rfl)
abbrev zmI:Nat:=28
def zhz:Cd:=
 (.seq (.rg [⟨none,[(some 2, .mv (.c (.slice none 0 0)))]⟩] [0])
 (.seq (.seq (.rg [⟨none,[(some 3, .mv (.t 0)),(some 4, .call 35 [(.t 3)])]⟩] [0,4])
 (.ite (.t 4)
 (.seq (.rg [⟨none,[(some 2, .mv (.c (.slice none 0 0)))]⟩] [2])
 .ret)
 .skip))
 (.seq (.rg [⟨none,[(some 5, .mv (.t 0)),(some 6, .nilc (.t 5)),(some 7, .fldA (.t 6) 1 1),(some 8, .ld (.t 7) 1 false),(some 9, .call 21 [(.t 8)]),(some 2, .mv (.t 9))]⟩] [2])
 .ret)))
theorem znf:Ok Tryz.prog 28 zhz 10 [] [.tmp 2]:=Ok.mk' Tryz.func28 (by kernel_rfl) (by kernel_rfl) (by kernel_rfl)
abbrev zmw:Nat:=18
def zha:Cd:=
 (.seq (.rg [⟨none,[(some 3, .box 26 (.t 1)),(some 4, .mv (.c (.bool false))),(some 5, .mv (.c (.int .i64 0)))]⟩] [0,3])
 (.seq (.seq (.rg [⟨none,[(some 7, .mv (.t 0)),(some 8, .call 35 [(.t 7)])]⟩] [0,3,8])
 (.ite (.t 8)
 (.seq (.rg [⟨none,[(some 4, .mv (.c (.bool false))),(some 5, .mv (.c (.int .i64 2)))]⟩] [4,5])
 .ret)
 .skip))
 (.seq (.seq (.rg [⟨none,[(some 9, .ld (.t 3) 8 true),(some 10, .call 52 [(.t 9)]),(some 6, .mv (.t 10))]⟩] [0,3,6])
 (.seq (.rg [⟨none,[(some 11, .mv (.t 6)),(some 12, .bin .neq (.t 11) (.c (.int .i64 0)))]⟩] [0,3,6,12])
 (.ite (.t 12)
 (.seq (.rg [⟨none,[(some 13, .mv (.t 6)),(some 4, .mv (.c (.bool false))),(some 5, .mv (.t 13))]⟩] [4,5])
 .ret)
 .skip)))
 (.seq (.rgq [⟨none,[(some 14, .mv (.t 0)),(some 15, .nilc (.t 14)),(some 16, .fldA (.t 15) 0 0),(some 17, .fldA (.t 16) 0 0),(some 18, .ld (.t 17) 1 false),(some 19, .ld (.t 3) 8 true)]⟩] [⟨none,[(some 20, .call 53 [(.t 18),(.t 19)]),(some 4, .mv (.t 20)),(some 5, .mv (.c (.int .i64 0)))]⟩] [4,5])
 .ret))))
theorem zlZ:Ok Tryz.prog 18 zha 21 [(6,6)] [.tmp 4, .tmp 5]:=Ok.mk' Tryz.func18 (by kernel_rfl) (by kernel_rfl) (by kernel_rfl)
abbrev ztl:Nat:=54
def zmk:Cd:=
 (.seq (.rg [⟨none,[(some 2, .mv (.c (.pointer none)))]⟩] [0])
 (.seq (.rg [⟨none,[(some 6, .mv (.t 0)),(some 7, .call 21 [(.t 6)]),(some 8, .call 71 [(.t 7)]),(some 5, .mv (.t 8)),(some 9, .ext (.t 5) 0),(some 10, .ext (.t 5) 1),(some 3, .mv (.t 9)),(some 4, .mv (.t 10))]⟩] [3])
 (.seq (.rg [⟨none,[(some 11, .mv (.t 3)),(some 2, .mv (.t 11))]⟩] [2])
 .ret)))
theorem zsZ:Ok Tryz.prog 54 zmk 12 [] [.tmp 2]:=Ok.mk' Tryz.func54 (by kernel_rfl) (by kernel_rfl) (by kernel_rfl)
abbrev znD:Nat:=19
def zhO:Cd:=
 (.seq (.rg [⟨none,[(some 2, .mv (.c (.pointer none)))]⟩] [0])
 (.seq (.seq (.rg [⟨none,[(some 3, .mv (.t 0)),(some 4, .call 35 [(.t 3)])]⟩] [0,4])
 (.ite (.t 4)
 (.seq (.rg [⟨none,[(some 2, .mv (.c (.pointer none)))]⟩] [2])
 .ret)
 .skip))
 (.seq (.rg [⟨none,[(some 5, .mv (.t 0)),(some 6, .nilc (.t 5)),(some 7, .fldA (.t 6) 0 0),(some 8, .fldA (.t 7) 0 0),(some 9, .ld (.t 8) 1 false),(some 10, .call 54 [(.t 9)]),(some 2, .mv (.t 10))]⟩] [2])
 .ret)))
theorem zmL:Ok Tryz.prog 19 zhO 11 [] [.tmp 2]:=Ok.mk' Tryz.func19 (by kernel_rfl) (by kernel_rfl) (by kernel_rfl)
def ziW:Cd:=
 (.seq (.rg [⟨none,[(some 2, .mv (.c (.slice none 0 0)))]⟩] [0])
 (.seq (.seq (.rg [⟨none,[(some 3, .mv (.t 0)),(some 4, .eqA false 22 (.t 3) (.c (.slice none 0 0)))]⟩] [0,4])
 (.ite (.t 4)
 (.seq (.rg [⟨none,[(some 2, .mv (.c (.slice none 0 0)))]⟩] [2])
 .ret)
 .skip))
 (.seq (.rg [⟨none,[(some 5, .bldS 26 8 (.c (.c (.s (.int .i64 0)) (.c (.s (.int .i64 0)) .u)) (.c (.s (.int .i64 0)) (.c (.s (.int .i64 0)) (.c (.s (.int .i64 0)) (.c (.s (.string ⟨#[]⟩)) (.c (.s (.string ⟨#[]⟩)) (.c (.s (.string ⟨#[]⟩)) .u))))))) []),(some 6, .mv (.t 0)),(some 7, .app 26 8 88 (.c (.c (.s (.int .i64 0)) (.c (.s (.int .i64 0)) .u)) (.c (.s (.int .i64 0)) (.c (.s (.int .i64 0)) (.c (.s (.int .i64 0)) (.c (.s (.string ⟨#[]⟩)) (.c (.s (.string ⟨#[]⟩)) (.c (.s (.string ⟨#[]⟩)) .u))))))) (.t 5) (.t 6)),(some 2, .mv (.t 7)),(none, .gh)]⟩] [2])
 .ret)))
theorem zoV:Ok Tryz.prog 37 ziW 8 [] [.tmp 2]:=Ok.mk' Tryz.func37 (by kernel_rfl) (by kernel_rfl) (by kernel_rfl)
def ziX:Cd:=
 (.seq (.rg [⟨none,[(some 2, .mv (.c (.slice none 0 0)))]⟩] [0])
 (.seq (.seq (.rg [⟨none,[(some 3, .mv (.t 0)),(some 4, .eqA false 79 (.t 3) (.c (.slice none 0 0)))]⟩] [0,4])
 (.ite (.t 4)
 (.seq (.rg [⟨none,[(some 2, .mv (.c (.slice none 0 0)))]⟩] [2])
 .ret)
 .skip))
 (.seq (.rg [⟨none,[(some 5, .bldS 97 22 (.c (.c (.c (.s (.int .i64 0)) (.c (.s (.int .i64 0)) .u)) (.c (.s (.int .i64 0)) (.c (.s (.int .i64 0)) (.c (.s (.int .i64 0)) (.c (.s (.string ⟨#[]⟩)) (.c (.s (.string ⟨#[]⟩)) (.c (.s (.string ⟨#[]⟩)) .u))))))) (.c (.s (.bool false)) (.c (.c (.s (.pointer none)) (.c (.s (.int .i64 0)) (.c (.c (.c (.s (.int .i64 0)) (.c (.s (.int .i64 0)) .u)) (.c (.s (.int .i64 0)) (.c (.s (.int .i64 0)) (.c (.s (.int .i64 0)) (.c (.s (.string ⟨#[]⟩)) (.c (.s (.string ⟨#[]⟩)) (.c (.s (.string ⟨#[]⟩)) .u))))))) (.c (.c (.s (.int .i64 0)) (.c (.s (.string ⟨#[]⟩)) .u)) (.c (.s (.string ⟨#[]⟩)) .u))))) .u))) []),(some 6, .mv (.t 0)),(some 7, .app 97 22 240 (.c (.c (.c (.s (.int .i64 0)) (.c (.s (.int .i64 0)) .u)) (.c (.s (.int .i64 0)) (.c (.s (.int .i64 0)) (.c (.s (.int .i64 0)) (.c (.s (.string ⟨#[]⟩)) (.c (.s (.string ⟨#[]⟩)) (.c (.s (.string ⟨#[]⟩)) .u))))))) (.c (.s (.bool false)) (.c (.c (.s (.pointer none)) (.c (.s (.int .i64 0)) (.c (.c (.c (.s (.int .i64 0)) (.c (.s (.int .i64 0)) .u)) (.c (.s (.int .i64 0)) (.c (.s (.int .i64 0)) (.c (.s (.int .i64 0)) (.c (.s (.string ⟨#[]⟩)) (.c (.s (.string ⟨#[]⟩)) (.c (.s (.string ⟨#[]⟩)) .u))))))) (.c (.c (.s (.int .i64 0)) (.c (.s (.string ⟨#[]⟩)) .u)) (.c (.s (.string ⟨#[]⟩)) .u))))) .u))) (.t 5) (.t 6)),(some 2, .mv (.t 7)),(none, .gh)]⟩] [2])
 .ret)))
theorem zoH:Ok Tryz.prog 43 ziX 8 [] [.tmp 2]:=Ok.mk' Tryz.func43 (by kernel_rfl) (by kernel_rfl) (by kernel_rfl)
abbrev zoF:Nat:=23
def zem:Cd:=
 (.seq (.seq (.rg [⟨none,[(some 20, .mv (.t 5)),(some 21, .mv (.t 0)),(some 22, .nilc (.t 21)),(some 23, .fldA (.t 22) 3 3),(some 24, .ld (.t 23) 1 false),(some 25, .len (.t 24)),(some 26, .bin .lss (.t 20) (.t 25)),(some 27, .mv (.t 26))]⟩,⟨some (27,true),[(some 28, .mv (.t 0)),(some 29, .nilc (.t 28)),(some 30, .fldA (.t 29) 3 3),(some 31, .ld (.t 30) 1 false),(some 32, .mv (.t 5)),(some 33, .idxS (.t 31) (.t 32) 22),(some 34, .fldA (.t 33) 0 0),(some 35, .fldA (.t 34) 0 0),(some 36, .fldA (.t 35) 0 0),(some 37, .ld (.t 36) 1 false),(some 38, .mv (.t 1)),(some 39, .bin .leq (.t 37) (.t 38))]⟩,⟨none,[(some 40, .pick (.t 27) (.t 39) (.c (.bool false)))]⟩] [0,1,5,40])
 (.ite (.t 40)
 .skip
 (.exit 1)))
 (.block 2 (.seq (.rgq [⟨none,[(some 41, .mv (.t 0)),(some 42, .nilc (.t 41)),(some 43, .fldA (.t 42) 1 1),(some 44, .ld (.t 43) 1 false),(some 45, .mv (.t 0)),(some 46, .nilc (.t 45)),(some 47, .fldA (.t 46) 3 3),(some 48, .ld (.t 47) 1 false),(some 49, .mv (.t 5)),(some 50, .idxS (.t 48) (.t 49) 22),(some 51, .fldA (.t 50) 0 0),(some 52, .ld (.t 51) 8 true)]⟩] [⟨none,[(some 53, .call 27 [(.t 44),(.t 52)])]⟩] [0,1,5])
 (.rg [⟨none,[(some 54, .mv (.t 5)),(some 55, .bin .add (.t 54) (.c (.int .i64 1))),(some 5, .mv (.t 55))]⟩] [0,1,5]))))
def ziD:Cd:=
 (.seq (.rg [⟨none,[(some 4, .mv (.c (.int .i64 0)))]⟩] [0,1])
 (.seq (.block 0 (.seq (.rg [⟨none,[(some 7, .mv (.t 0)),(some 8, .call 35 [(.t 7)]),(some 6, .mv (.t 8))]⟩] [0,1,6])
 (.ite (.t 6)
 (.seq (.rg [⟨none,[(some 4, .mv (.c (.int .i64 2)))]⟩] [4])
 .ret)
 (.seq (.rg [⟨none,[(some 10, .mv (.t 1)),(some 11, .mv (.t 0)),(some 12, .nilc (.t 11)),(some 13, .fldA (.t 12) 2 2),(some 14, .ld (.t 13) 1 false),(some 15, .bin .lss (.t 10) (.t 14)),(some 16, .mv (.t 15))]⟩,⟨some (16,false),[(some 17, .mv (.t 1)),(some 18, .bin .gtr (.t 17) (.c (.int .i64 1099511627776)))]⟩,⟨none,[(some 19, .pick (.t 16) (.c (.bool true)) (.t 18)),(some 9, .mv (.t 19))]⟩] [0,1,9])
 (.ite (.t 9)
 (.seq (.rg [⟨none,[(some 4, .mv (.c (.int .i64 1)))]⟩] [4])
 .ret)
 .skip)))))
 (.seq (.rg [⟨none,[(some 5, .mv (.c (.int .i64 0)))]⟩] [0,1,5])
 (.seq (.block 1 (.loop zem))
 (.seq (.gh (.rg [⟨none,[(some 56, .mv (.t 0)),(some 57, .mv (.t 0)),(some 58, .mv (.t 0)),(some 59, .nilc (.t 58)),(some 60, .fldA (.t 59) 3 3),(some 61, .ld (.t 60) 1 false),(some 62, .mv (.t 5)),(none, .gh),(some 63, .sl 22 (.t 61) (some (.t 62)) none),(some 64, .call 43 [(.t 63)]),(some 65, .mv (.t 1)),(some 66, .nilc (.t 56)),(some 67, .fldA (.t 66) 3 3),(none, .st (.t 67) (.t 64) 1),(some 68, .nilc (.t 57)),(some 69, .fldA (.t 68) 2 2),(none, .st (.t 69) (.t 65) 1)]⟩] []))
 (.seq (.rg [⟨none,[(some 4, .mv (.c (.int .i64 0)))]⟩] [4])
 .ret))))))
theorem zoE:Ok Tryz.prog 23 ziD 70 [(7,12)] [.tmp 4]:=Ok.mk' Tryz.func23 (by kernel_rfl) (by kernel_rfl) (by kernel_rfl)
end Go.Proofs.YtmjiojflncffeaaGreat.Vc

set_option linter.unusedVariables false
set_option linter.unusedSimpArgs false
set_option maxRecDepth 100000
namespace Go.Proofs.YtmjiojflncffeaaGreat.Vc
open Go Go.Proofs Go.Sort Go.Shelf Go.Lib
theorem zyP (W:World) (q:Nat) (os:Array Obj):Kept PH.no W (grow (W.drewN q) os):=by
 refine ⟨rfl,rfl,rfl, ?_,fun k hk _=> ?_⟩
 ·show W.heap.size≤(W.heap++os).size
  simp
 ·show (W.heap++os)[k]? =W.heap[k]?
  exact Array.getElem?_append_left hk
theorem zvp (a b:Stamp):FnV Tryz.prog 40 [zaA a,zaA b] [.s (.int .i64 (zgq a.k b.k))]:=fun w _=>
 (zmH a.k b.k w).mono fun e w' ⟨he,q,os',hw⟩=>by
  subst hw
  exact ⟨_,PH.no,by rw [he];rfl,fun r hr=>by simp at hr;subst hr;rfl,rfl,fun _ _ h=>(by cases h),fun _ h=>absurd rfl h,zyP _ _ _⟩
theorem zvz (d:Done) (s:Stamp) (hd:d.undo.of.oneCell'=true):FnV Tryz.prog zfd [zan d,zaA s] [.s (.int .i64 (zgq d.k s.k))]:=by
 refine zbx zqT (by simp) (by simpa using ⟨zqg d hd,zcC s⟩) fun w=> ?_
 simp (maxSteps:=2000000) only [zkK,zi,zm,zf,zc,zb,zh,ze,za,zj,ev,look,zZ,zd,zg,zk,Value.oneCell',cond_true,Nat.reduceEqDiff,↓reduceIte,reduceCtorEq,List.nil_append,List.cons_append,Nat.zero_add,Bool.true_and,true_and,zak,List.map_cons,List.map_nil,zn,zag,zcb,zbL,zia,zeN]
 refine zac (zvp d.op.stamp s) rfl rfl rfl fun _=> ?_
 simp (maxSteps:=2000000) only [zK,zx,zf,zc,zb,ze,za,zj,ev,look,zd,zg,zk,↓reduceIte,zD,zal,zC]
 rfl
def zvs (a b:Stamp):Int:=if a.k=b.k then 0 else if ltK a.k b.k then -1 else 1
theorem zkU (a:Stamp):kin (zaA a) (zaA zjU):=⟨rfl,rfl,trivial⟩
theorem zvH (a b:Stamp):ziC (zaA a) (zaA b)=decide (a.k=b.k):=by
 obtain ⟨k1,v1⟩:=a
 obtain ⟨k2,v2⟩:=b
 simp only [ziC,zaA,ztN,Bool.and_true,Stamp.k,Prod.mk.injEq,BEq.rfl,Bool.true_and]
 by_cases h1:k1=k2
 ·by_cases h2:v1=v2
  ·simp [h1,h2]
  ·simp [h1,h2]
 ·simp [h1]
theorem zrC (a b:Stamp):EqG Tryz.prog 24 (zaA a) (zaA b) (decide (a.k=b.k)):=by
 rw [←zvH]
 exact zwf (z:=zaA zjU) (by kernel_rfl) (by kernel_rfl) rfl (zkU a) (zkU b) (zcC a) (zcC b)
theorem zvF (a b:Stamp):FnV Tryz.prog zoz [zaA a,zaA b] [.s (.int .i64 (zvs a b))]:=by
 refine zbx zoy (by simp) (by simpa using ⟨zcC a,zcC b⟩) fun w=> ?_
 simp (maxSteps:=2000000) only [ziO,zi,zB,zm,zf,zc,zb,zh,ze,za,zj,ev,look,zZ,zd,zg,zk,Value.oneCell',cond_true,Nat.reduceEqDiff,↓reduceIte,reduceCtorEq,Nat.zero_add,Bool.true_and,true_and,zak,List.map_cons,List.map_nil,zn,zag]
 refine zcH (zrC a b) ?_
 by_cases h:a.k=b.k
 ·simp (maxSteps:=2000000) only [decide_eq_true h,zx,zi,zm,zq,zf,zp,zy,zc,zb,zh,ze,za,zj,ev,look,zd,zg,zk,Value.oneCell',cond_true,Nat.reduceEqDiff,↓reduceIte,zD,zal,zC,↓zL,Bool.bne_false]
  rw [zvs,if_pos h]
 simp (maxSteps:=2000000) only [decide_eq_false h,beq_iff_eq,beq_eq_false_iff_ne,zu,zx,zi,zm,zq,zf,zp,zT,zy,zc,zb,zh,zH,ze,za,zj,RO.isGh,zI,zar,ev,look,zd,zg,zk,zO,zP,GV.getT,Value.oneCell',cond_true,cond_false,Nat.reduceEqDiff,↓reduceIte,List.nil_append,Bool.true_and,Bool.not_true,Bool.not_false,true_and,zD,zal,zC,decide_eq_true_eq,decide_eq_false_iff_not,ne_eq,↓zL,↓zbi,↓zbW,↓zN,zax,zdE,Bool.bne_false,zn,zF,zdq,zcr,zfk,zds]
 rw [zvs,if_neg h]
 have hk:ltK a.k b.k↔a.time<b.time∨(a.time=b.time∧a.site<b.site):=Iff.rfl
 exact ⟨fun h1=>⟨fun h2=>⟨fun h3=>by rw [if_pos (hk.2 (.inr ⟨h2,h3⟩))],fun h3=>by rw [if_neg (fun h=>by have:=hk.1 h;omega)]⟩,fun h2=>by rw [if_neg (fun h=>by have:=hk.1 h;omega)]⟩,fun h1=>by rw [if_pos (hk.2 (.inl h1))]⟩
end Go.Proofs.YtmjiojflncffeaaGreat.Vc

set_option linter.unusedVariables false
set_option linter.unusedSimpArgs false
set_option maxRecDepth 100000
namespace Go.Proofs.YtmjiojflncffeaaGreat.Vc
open Go Go.Proofs
def zno (ds:List Done) (s:Int×Int):Nat:=(ds.takeWhile fun d=>decide (ltK d.k s)).length
def zgM (ds:List Done) (s:Int×Int):Bool:=decide (s∈ds.map Done.k)
theorem zBN (ds:List Done) (s:Int×Int):zno ds s≤ds.length:=(List.takeWhile_prefix _).length_le
theorem zsU:∀{ds:List Done} {s:Int×Int} {i:Nat},i≤ds.length→(∀j,j<i→ltK (ds.getD j zbe).k s)→(i<ds.length→¬ltK (ds.getD i zbe).k s)→zno ds s=i
 |[],s,i,h,_,_=>by simp at h;subst h;rfl
 |d::ds,s,0,_,_,h=>by
  have:¬ltK d.k s:=h (by simp)
  simp [zno,List.takeWhile_cons,this]
 |d::ds,s,i+1,h,h1,h2=>by
  have h0:ltK d.k s:=h1 0 (by omega)
  have ih:=zsU (ds:=ds) (s:=s) (i:=i) (by simpa using h) (fun j hj=>h1 (j+1) (by omega)) (fun hi=>h2 (by simpa using hi))
  simp only [zno]at ih
  simp [zno,List.takeWhile_cons,h0,ih]
theorem zri {ds:List Done} (h:Rising (ds.map Done.k)) {i j:Nat} (hij:i<j) (hj:j<ds.length):ltK (ds.getD i zbe).k (ds.getD j zbe).k:=by
 rw [Rising,List.pairwise_map,List.pairwise_iff_getElem]at h
 have:=h i j (by omega) hj hij
 rw [List.getD_eq_getElem?_getD,List.getD_eq_getElem?_getD,List.getElem?_eq_getElem (by omega),List.getElem?_eq_getElem hj]
 exact this
theorem getD_in {α:Type} {l:List α} {i:Nat} (h:i<l.length) (z:α):l.getD i z∈l:=by
 rw [List.getD_eq_getElem?_getD,List.getElem?_eq_getElem h]
 exact List.getElem_mem _
theorem zBk {ds:List Done} {s:Int×Int} {i:Nat} (h:Rising (ds.map Done.k)) (hi:i≤ds.length) (h1:∀j,j<i→ltK (ds.getD j zbe).k s) (h2:i<ds.length→¬ltK (ds.getD i zbe).k s):zgM ds s=true↔i<ds.length∧(ds.getD i zbe).k=s:=by
 rw [zgM,decide_eq_true_eq]
 constructor
 ·intro hm
  obtain ⟨d,hd,e⟩:=List.mem_map.1 hm
  obtain ⟨j,hj,rfl⟩:=List.mem_iff_getElem.1 hd
  have ej:(ds.getD j zbe).k=s:=by rw [List.getD_eq_getElem?_getD,List.getElem?_eq_getElem hj];exact e
  have hji:¬j<i:=fun h=>zeR s (by have:=h1 j h;rwa [ej]at this)
  have:j=i:=by
   by_cases e:i<j
   ·have h3:=zri h e hj
    rw [ej]at h3
    exact absurd h3 (h2 (by omega))
   ·omega
  subst this
  exact ⟨hj,ej⟩
 ·rintro ⟨hlt,e⟩
  exact List.mem_map.2 ⟨_,getD_in hlt zbe,e⟩
theorem wrapu {x:Int} (h1:0≤x) (h2:x<18446744073709551616):IntKind.u64.wrap x=x:=by
 simp only [IntKind.wrap,IntKind.bits,IntKind.signed]
 have:(2:Int) ^ 64=18446744073709551616:=by decide
 have h3:x % 18446744073709551616=x:=Int.emod_eq_of_lt h1 h2
 simp_all
theorem zBB {i j:Nat} (h:i+j<4611686018427387904):IntKind.i64.wrap ((IntKind.u64.wrap (IntKind.i64.wrap ((i:Int)+j))).fdiv (2 ^ min 1 IntKind.u64.bits))=(((i+j) / 2:Nat):Int):=by
 have e:min 1 IntKind.u64.bits=1:=rfl
 rw [e,zeA (x:=(i:Int)+j) (by omega) (by omega),wrapu (by omega) (by omega)]
 have:((i:Int)+j).fdiv (2 ^ 1)=(((i+j) / 2:Nat):Int):=by
  rw [Int.fdiv_eq_ediv_of_nonneg _ (by decide)]
  omega
 rw [this,zeA (by omega) (by omega)]
theorem znM (w:World) (v:Value) (ds:List Done) (u:PH) (hu:u.le w) (hS:SlR u v 22 (ds.map zan)) (hof:∀d∈ds,d.undo.of.oneCell'=true) (s:Stamp) (hl:ds.length≤1099511627776) (hr:Rising (ds.map Done.k)):
  Spec Tryz.prog zgS [v,(zaA s).val, .func (.func zfd) #[] #[]] PH.no w fun rs _=>rs=[.s (.int .i64 (zno ds s.k)), .s (.bool (zgM ds s.k))]:=by
 refine zbE zgR (Qf:=fun rs=>rs=[.s (.int .i64 (zno ds s.k)), .s (.bool (zgM ds s.k))]) [.ro v 22 (zan zbe) (ds.map zan), .g (zaA s), .g (.s (.func (.func zfd) #[] #[]))] (by simp) (by simpa [AV.ok,zbr,GV.ok,Value.oneCell']using ⟨hS.up hu.sub,zcC s⟩) ?_
 simp (maxSteps:=2000000) only [zdI,zi,zB,zm,zf,zc,zb,zh,ze,za,zj,ev,look,zZ,zd,zg,zk,Value.oneCell',cond_true,Nat.reduceEqDiff,Nat.reduceAdd,↓reduceIte,reduceCtorEq,Nat.zero_add,Bool.true_and,true_and,zak,zaK,Int.reduceAdd,List.length_map]
 refine zaP (ι:=Nat×Nat) (fun q=>⟨[(0, .row 0 0 (ds.length)),(2, .g (.s (.func (.func zfd) #[] #[]))),(4, .ref 4 []),(8, .g (.s (.int .i64 (ds.length)))),(9, .g (.s (.int .i64 (q.1)))),(10, .g (.s (.int .i64 (q.2))))],[(0, .ro 22 (zan zbe) (ds.map zan)),(4, .box (zaA s))],[],PH.no⟩)
  (fun q=>q.1≤q.2∧q.2≤ds.length∧(∀j,j<q.1→ltK (ds.getD j zbe).k s.k)∧(q.2<ds.length→¬ltK (ds.getD q.2 zbe).k s.k)) (fun q=>q.2 - q.1) (0,ds.length) ⟨by simp,by simp,by simp,by simp⟩ (zR ?_ ?_ rfl rfl rfl) ?_
 ·simp [zaf,look]
 ·simp [zam,look]
 rintro ⟨i,j⟩ ⟨hij,hj,h1,h2⟩
 simp only at hij hj h1 h2
 generalize hQ:loopQ _ _ _ _ _=Q
 simp (maxSteps:=2000000) only [zdg,zu,zau,zi,zB,zm,zbh,zq,zf,zay,zc,zb,zh,ze,za,zM,zaq,zU,zw,zX,zj,zaD,ev,look,zd,zg,zk,zaF,zdh,zO,zP,Value.oneCell',cond_true,Nat.reduceEqDiff,↓reduceIte,reduceCtorEq,List.nil_append,List.append_nil,Nat.zero_add,Bool.true_and,true_and,List.map_nil,Int.reduceToNat,Int.reduceLE,decide_eq_true_eq,decide_eq_false_iff_not,zax,zn,zag,zgJ,ziA]
 rw [zBB (by omega)]
 simp (maxSteps:=2000000) only [Int.toNat_natCast]
 refine ⟨fun hlt=>⟨⟨by omega,by omega⟩,⟨_,Tryz.func42,by kernel_rfl⟩, ?_⟩,fun hge=> ?_⟩
 ·have hm:(i+j) / 2<ds.length:=by omega
  refine zac (zvz (ds.getD ((i+j) / 2) zbe) s (hof _ (getD_in hm _))) rfl rfl rfl fun _=> ?_
  simp (maxSteps:=2000000) only [zK,zqJ,zm,zq,zf,zT,zc,zb,zh,ze,za,zj,ev,look,zd,zg,zk,zO,zP,Value.oneCell',cond_true,Nat.reduceEqDiff,↓reduceIte,reduceCtorEq,Bool.true_and,true_and,decide_eq_true_eq,decide_eq_false_iff_not,zax]
  refine ⟨fun h3=> ?_,fun h3=> ?_⟩
  ·subst hQ;simp only [zaB];refine ⟨((i+j) / 2+1,j), ?_, ?_,zR ?_ ?_ rfl rfl rfl⟩
   ·refine ⟨by simp only;omega,hj,fun l hl=> ?_,h2⟩
    rcases Nat.lt_succ_iff_lt_or_eq.1 hl with h4|rfl
    ·exact zfW (zri hr h4 hm) h3
    ·exact h3
   ·simp only;omega
   ·simp only [zaf,look,Nat.reduceEqDiff,↓reduceIte,reduceCtorEq,Bool.and_true,Bool.true_and,true_and,and_true]
    rw [zaN (by omega)]
    try simp
   ·simp [zam,look]
  ·subst hQ;simp only [zaB];refine ⟨(i,(i+j) / 2), ?_, ?_,zR ?_ ?_ rfl rfl rfl⟩
   ·exact ⟨by simp only;omega,by simp only;omega,h1,fun _=>h3⟩
   ·simp only;omega
   ·simp only [zaf,look,Nat.reduceEqDiff,↓reduceIte,reduceCtorEq,Bool.and_true,and_true]
    try simp
   ·simp [zam,look]
 ·subst hQ
  obtain rfl:i=j:=by omega
  have hp:=zsU hj h1 h2
  have hh:=zBk hr hj h1 h2
  simp (maxSteps:=2000000) only [zx,zi,zbh,zf,zat,zc,zaQ,zb,zh,ze,za,zM,zaq,zcA,zU,zw,zX,zj,zaD,RO.isGh,zI,zar,ev,look,zd,zg,zk,zaF,zdh,zO,zP,Value.oneCell',cond_true,cond_false,Nat.reduceEqDiff,↓reduceIte,reduceCtorEq,List.nil_append,List.append_nil,Nat.zero_add,Bool.true_and,Bool.not_true,true_and,List.map_nil,zD,zal,zC,Int.toNat_natCast,decide_eq_true_eq,decide_eq_false_iff_not,↓zN,zax,zn,zag,zgJ,ziA]
  refine ⟨fun hlt=>⟨⟨by omega,by omega⟩,⟨_,Tryz.func42,by kernel_rfl⟩, ?_⟩,fun hge=> ?_⟩
  ·have hm:i<ds.length:=by omega
   refine zhw (zvz (ds.getD i zbe) s (hof _ (getD_in hm _))) rfl rfl rfl ?_
   simp (maxSteps:=2000000) only [zx,zf,zc,zb,zh,ze,za,zM,zaq,zU,zw,zX,zj,zaD,ev,look,zd,zg,zk,zO,zP,Value.oneCell',cond_true,Nat.reduceEqDiff,↓reduceIte,Bool.true_and,true_and,zD,zal,zC,↓zL]
   rw [hp]
   have:(zgq (ds.getD i zbe).k s.k==0)=zgM ds s.k:=by
    rw [Bool.eq_iff_iff,hh,beq_iff_eq,zAU]
    exact ⟨fun h=>⟨hm,h⟩,fun h=>h.2⟩
   rw [this]
  ·rw [hp]
   have:zgM ds s.k=false:=by
    rw [Bool.eq_false_iff,Ne,hh]
    rintro ⟨h,_⟩
    omega
   rw [this]
end Go.Proofs.YtmjiojflncffeaaGreat.Vc

set_option linter.unusedVariables false
set_option linter.unusedSimpArgs false
set_option maxRecDepth 100000
namespace Go.Proofs.YtmjiojflncffeaaGreat.Vc
open Go Go.Proofs
def zbc (n:Int):Bool:=n==1||n==2
def zfF (T:PT):Nat→Int→Int→Bool
 |0,_,_=>false
 |f+1,n,a=>if n=a then true else match T.get n with
  |none=>false
  |some x=>if zbc n=true then false else zfF T f x.parent a
def PT.below (T:PT) (n a:Int):Bool:=zfF T (T.nodes.length+1) n a
def PT.has (T:PT) (n:Int):Bool:=(T.get n).isSome
def zaL (T:PT) (op:Op):Bool:=
 if op.kind=1 then decide (op.node>2)&& !T.has op.node&&T.has op.parent&&zcW op.name
 else if op.kind=2 then T.has op.node&& !zbc op.node&&T.has op.parent&& !T.below op.parent op.node&&zcW op.name
 else if op.kind=3 then T.has op.node&&zcl op.key op.value
 else false
abbrev TM (m:PH) (L:Lay) (T:PT):Prop:=TreeM 3 m L T
section
variable {w:World} {u:PH} {L:Lay} {T:PT}
theorem zdy {N:Nat} (hu:u.le w) {l:List PH}:KN (⟨Tryz.prog,N,w,PH.no⟩:Ctx).u0 l u:=fun b o h=> .inl (by rw [zbr];exact hu b o h)
theorem ztu (b:Nat):EqG Tryz.prog 40 (.s (.pointer (some ⟨b,0,none⟩))) (.s (.pointer none)) false:=zpd Tryz.underlying40 _
theorem zqH (b:Nat):EqG Tryz.prog 115 (.s (.pointer (some ⟨b,0,none⟩))) (.s (.pointer none)) false:=zpd Tryz.underlying115 _
theorem zly:EqG Tryz.prog 115 (.s (.pointer none)) (.s (.pointer none)) true:=zvh Tryz.underlying115
theorem zBm (b:Nat):EqG Tryz.prog 114 (.s (.map (some b))) (.s (.map none)) false:=zBO Tryz.underlying114 b
theorem zka (hu:u.le w) (hT:TM u L T):Spec Tryz.prog zmY [ptr (L .t)] PH.no w fun rs _=>rs=[.s (.bool false)]:=by
 refine zbE zmO (Qf:=fun rs=>rs=[.s (.bool false)]) [.g (.s (ptr (L .t)))] (by simp) (by simp [AV.ok,GV.ok,Value.oneCell',ptr]) ?_
 have hk:∀{l:List PH},KN (⟨Tryz.prog,12,w,PH.no⟩:Ctx).u0 l u:=zdy hu
 simp (maxSteps:=2000000) only [zhM,zi,zm,zf,zc,zb,zh,ze,za,zj,ev,look,zd,zg,zk,Value.oneCell',cond_true,↓reduceIte,reduceCtorEq,zak,zaK,ptr]
 refine zcH (ztu _) ?_
 simp (maxSteps:=2000000) only [zH,ze,za,zj,ev,look,zd,↓reduceIte,reduceCtorEq,Nat.add_zero,↓zbi,Bool.bne_false]
 refine zJ _ (hT.s_map hk) rfl ?_
 simp (maxSteps:=2000000) only [za,zj,ev,look,zd,Value.oneCell',cond_true,↓reduceIte]
 refine zcH (zBm _) ?_
 simp (maxSteps:=2000000) only [zx,zf,zc,zb,zh,ze,za,zj,ev,look,zd,zg,zk,Value.oneCell',cond_true,Nat.reduceEqDiff,↓reduceIte,zD,zal,zC,↓zN,Bool.bne_false]
theorem zvQ (hu:u.le w) (hT:TM u L T) (n a:Int) (hl:T.nodes.length<9223372036854775800):Spec Tryz.prog zlL [ptr (L .t), .int .i64 n, .int .i64 a] PH.no w fun rs _=>rs=[.s (.bool (T.below n a))]:=by
 refine zbE zlu (Qf:=fun rs=>rs=[.s (.bool (T.below n a))]) [.g (.s (ptr (L .t))), .g (.s (.int .i64 n)), .g (.s (.int .i64 a))] (by simp) (by simp [AV.ok,GV.ok,Value.oneCell',ptr]) ?_
 have hk:∀{l:List PH},KN (⟨Tryz.prog,37,w,PH.no⟩:Ctx).u0 l u:=zdy hu
 simp (maxSteps:=2000000) only [zgZ,zi,zm,zf,zc,zb,zh,ze,za,zj,ev,look,zd,zg,zk,Value.oneCell',cond_true,Nat.reduceEqDiff,Nat.reduceAdd,↓reduceIte,reduceCtorEq,Nat.zero_add,Nat.add_zero,zak,zaK,Int.reduceAdd,ptr]
 refine zJ _ (hT.s_map hk) rfl ?_
 simp (maxSteps:=2000000) only [za,zj,ev,look,zd,↓reduceIte]
 refine hT.len hk ?_
 simp (maxSteps:=2000000) only [zB,zf,zc,zb,ze,za,zj,ev,look,zd,zg,zk,zO,zP,Value.oneCell',cond_true,Nat.reduceEqDiff,↓reduceIte,reduceCtorEq,Bool.true_and,true_and]
 rw [zaN (by omega)]
 refine zaP (ι:=Nat×Int) (fun q=>⟨[(0, .g (.s (ptr (L .t)))),(1, .g (.s (.int .i64 (q.2)))),(2, .g (.s (.int .i64 (a)))),(13, .g (.s (.int .i64 ((T.nodes.length+1:Nat))))),(14, .g (.s (.int .i64 (q.1))))],[],[],PH.no⟩) (fun q=>q.1≤T.nodes.length+1∧T.below n a=zfF T (T.nodes.length+1 - q.1) q.2 a) (fun q=>T.nodes.length+1 - q.1) (0,n) ⟨by simp,rfl⟩ (zR ?_ ?_ rfl rfl rfl) ?_
 ·simp [zaf,look,ptr]
 ·simp [zam,look]
 rintro ⟨i,x⟩ ⟨hi,hb⟩
 simp only at hi hb
 generalize hQ:loopQ _ _ _ _ _=Q
 simp (maxSteps:=2000000) only [zfu,zu,zx,zau,zi,zB,zm,zq,zf,zp,zay,zy,zc,zb,zh,ze,za,zj,ev,look,zd,zg,zk,zO,zP,Value.oneCell',cond_true,Nat.reduceEqDiff,↓reduceIte,reduceCtorEq,Nat.add_zero,Bool.true_and,true_and,decide_eq_true_eq,decide_eq_false_iff_not,zax,ptr]
 refine ⟨fun hlt=> ?_,fun hge=> ?_⟩
 ·obtain ⟨f,hf⟩:∃f,T.nodes.length+1 - i=f+1:=⟨T.nodes.length - i,by omega⟩
  rw [hf]at hb
  refine ⟨fun he=> ?_,fun hne=> ?_⟩
  ·rw [beq_iff_eq]at he
   rw [zfF,if_pos he]at hb
   subst hQ
   simp (maxSteps:=2000000) only [zp,zy,zah,look,↓reduceIte,zD,zal,zC,ptr]
   rw [hb]
  ·rw [beq_eq_false_iff_ne]at hne
   rw [zfF,if_neg hne]at hb
   refine zJ _ (hT.s_map hk) rfl ?_
   simp (maxSteps:=2000000) only [za,zj,ev,look,zd,Nat.reduceEqDiff,↓reduceIte,reduceCtorEq]
   refine hT.lk hk x ?_
   cases hg:T.get x with
   |none=>
    rw [hg]at hb
    simp (maxSteps:=2000000) only [zi,zm,zf,zc,zb,zh,ze,za,zj,ev,look,zd,zg,zk,Value.oneCell',cond_true,Nat.reduceEqDiff,↓reduceIte,reduceCtorEq,zhC]
    refine zcH (zly) ?_
    simp (maxSteps:=2000000) only [zx,zi,zm,zq,zf,zp,zy,zc,zb,zh,zH,ze,za,zj,RO.isGh,zI,zar,ev,look,zd,zg,zk,Value.oneCell',cond_true,cond_false,Nat.reduceEqDiff,↓reduceIte,reduceCtorEq,Bool.not_false,↓zL,↓zbW,Bool.bne_false]
    subst hQ
    simp (maxSteps:=2000000) only [zp,zy,zah,look,↓reduceIte,zD,zal,zC,ptr]
    rw [hb]
   |some y=>
    rw [hg]at hb
    simp only at hb
    simp (maxSteps:=2000000) only [zi,zm,zf,zc,zb,zh,ze,za,zj,ev,look,zd,zg,zk,Value.oneCell',cond_true,Nat.reduceEqDiff,↓reduceIte,reduceCtorEq,zcf]
    refine zcH (zqH _) ?_
    simp (maxSteps:=2000000) only [zH,ze,za,zj,ev,look,zd,Nat.reduceEqDiff,↓reduceIte,reduceCtorEq,↓zbi,Bool.bne_false]
    refine zac (zmW x) rfl rfl rfl fun _=> ?_
    simp (maxSteps:=2000000) only [zK,zu,zx,zi,zm,zq,zf,zp,zy,zc,zb,zh,ze,za,zj,ev,look,zd,zg,zk,Value.oneCell',cond_true,Nat.reduceEqDiff,↓reduceIte,reduceCtorEq,Nat.add_zero,↓zN,zax]
    refine ⟨fun ht=> ?_,fun ht=> ?_⟩
    ·subst hQ
     simp (maxSteps:=2000000) only [zp,zy,zah,look,↓reduceIte,zD,zal,zC,ptr]
     rw [hb,if_pos (by simpa [zbc]using ht)]
    ·refine zJ _ (hT.s_node hk hg).1 rfl ?_
     simp (maxSteps:=2000000) only [zm,zf,zT,zc,zb,zh,ze,za,zj,ev,look,zd,zg,zk,zO,zP,Value.oneCell',cond_true,Nat.reduceEqDiff,↓reduceIte,reduceCtorEq,Bool.true_and,true_and]
     subst hQ;simp only [zaB];refine ⟨(i+1,y.parent), ?_, ?_,zR ?_ ?_ rfl rfl rfl⟩
     ·refine ⟨by simp only;omega, ?_⟩
      rw [hb,if_neg (by rw [zbc,ht];simp)]
      simp only
      rw [show T.nodes.length+1 - (i+1)=f by omega]
     ·simp only;omega
     ·simp only [zaf,look,Nat.reduceEqDiff,↓reduceIte,reduceCtorEq,Bool.and_true,Bool.true_and,true_and,and_true,ptr]
      rw [zaN (by omega)]
      try simp
     ·simp [zam,look]
 ·subst hQ
  simp (maxSteps:=2000000) only [zx,zi,zm,zf,zat,zc,zaQ,zb,zh,ze,za,zj,ev,look,zd,zg,zk,Value.oneCell',cond_true,↓reduceIte,zD,zal,zC,ptr]
  rw [hb,show T.nodes.length+1 - i=0 by omega];rfl
theorem ztK (hu:u.le w) (hT:TM u L T) (op:Op) (hl:T.nodes.length<9223372036854775800) (hb:op.name.size≤140737488355328):Spec Tryz.prog zoB [ptr (L .t),(gOp op).val] PH.no w fun rs _=>rs=[.s (.bool (zaL T op))]:=by
 refine zbE zoU (Qf:=fun rs=>rs=[.s (.bool (zaL T op))]) [.g (.s (ptr (L .t))), .g (gOp op)] (by simp) (by simp [AV.ok,GV.ok,Value.oneCell',ptr,zcS]) ?_
 have hk:∀{l:List PH},KN (⟨Tryz.prog,80,w,PH.no⟩:Ctx).u0 l u:=zdy hu
 have hw':∀{w':World},(⟨Tryz.prog,80,w,PH.no⟩:Ctx).u0.le w'→u.le w':=fun hw b o h=>hw b o (by rw [zbr];exact hu b o h)
 simp (maxSteps:=2000000) only [ziL,zi,zm,zf,zc,zb,zh,ze,za,zj,ev,look,zZ,zd,zg,zk,Value.oneCell',cond_true,Nat.reduceEqDiff,↓reduceIte,reduceCtorEq,Nat.zero_add,Bool.true_and,true_and,zak,zaK,ptr]
 refine zdc _ [.s (.bool false)] rfl rfl (fun w' vs hv hw=> ?_) ?_
 ·obtain ⟨vs,rfl,_,hv⟩:=zt hv
  obtain rfl:=zr hv
  intro _
  exact zka (hw' hw) hT
 simp (maxSteps:=2000000) only [zK,zu,zi,zbh,zq,zf,zc,zb,ze,zaq,zw,zX,zj,zaD,ev,look,zd,zg,zk,Nat.reduceEqDiff,↓reduceIte,reduceCtorEq,Nat.add_zero,Bool.true_and,true_and,↓zN]
 refine zJ _ (hT.s_map hk) rfl ?_
 simp (maxSteps:=2000000) only [zw,zX,zj,zaD,ev,look,zd,GV.getT,Nat.reduceEqDiff,↓reduceIte,reduceCtorEq,List.nil_append,Bool.true_and,Bool.not_false,true_and,zn,zF,zbo,zaW]
 refine hT.lk hk _ ?_
 simp (maxSteps:=2000000) only [zw,zX,zj,zaD,ev,look,zd,Value.oneCell',cond_true,↓reduceIte,Bool.true_and,true_and]
 refine zAb Tryz.underlying115 ?_
 simp (maxSteps:=2000000) only [zw,zX,zj,zaD,ev,look,zd,↓reduceIte,reduceCtorEq,Nat.add_zero,Bool.true_and,true_and,Bool.bne_true]
 refine zJ _ (hT.s_map hk) rfl ?_
 simp (maxSteps:=2000000) only [zw,zX,zj,zaD,ev,look,zd,GV.getT,Nat.reduceEqDiff,↓reduceIte,reduceCtorEq,List.nil_append,Bool.true_and,Bool.not_false,true_and,zn,zF,zcn,zcd]
 refine hT.lk hk _ ?_
 simp (maxSteps:=2000000) only [zw,zX,zj,zaD,ev,look,zd,Value.oneCell',cond_true,↓reduceIte,Bool.true_and,true_and]
 refine zAb Tryz.underlying115 ?_
 simp (maxSteps:=2000000) only [zu,zx,zi,zB,zm,zq,zf,zp,zT,zy,zc,zb,zh,zH,ze,za,zM,zU,zw,zX,zj,zaD,RO.isGh,zI,zar,ev,look,zd,zg,zk,zO,zP,unV,GV.getT,Value.oneCell',cond_true,cond_false,Nat.reduceEqDiff,↓reduceIte,reduceCtorEq,List.nil_append,Bool.true_and,Bool.not_true,Bool.not_false,true_and,zD,zal,zC,decide_eq_true_eq,decide_eq_false_iff_not,↓zL,↓zN,zax,Bool.bne_true,zn,zF,zbn,zbj,zbo,zaW,zcy,zck,zcI,zcD,zdi,zdj]
 have hN:∀{o:Option PN},(!!o.isNone)= !o.isSome:=fun {o}=>by cases o<;>rfl
 have hS:∀{o:Option PN},(!o.isNone)=o.isSome:=fun {o}=>by cases o<;>rfl
 rw [hN,hS,hS]
 change (_→_)∧(_→_)
 refine ⟨fun k1=> ?_,fun k1=>⟨fun k2=> ?_,fun k2=>⟨fun k3=> ?_,fun k3=> ?_⟩⟩⟩
 ·rw [beq_iff_eq]at k1
  have e:zaL T op=(decide (op.node>2)&& !T.has op.node&&T.has op.parent&&zcW op.name):=by rw [zaL,if_pos k1]
  rw [e,PT.has,PT.has]
  refine ⟨fun a1=>⟨fun a2=>⟨fun a3=> ?_,fun a3=> ?_⟩,fun a2=> ?_⟩,fun a1=> ?_⟩
  ·refine zac (zqG op.name hb) rfl rfl rfl fun _=> ?_
   simp (maxSteps:=2000000) only [zK,zx,zf,zp,zy,zc,zb,zh,ze,za,zj,ev,look,zd,zg,zk,Value.oneCell',cond_true,Nat.reduceEqDiff,↓reduceIte,zD,zal,zC,↓zL]
   rw [decide_eq_true a1,a2,a3];rfl
  ·rw [a3,Bool.and_false];rfl
  ·rw [a2,Bool.and_false];rfl
  ·rw [decide_eq_false a1];rfl
 ·rw [beq_eq_false_iff_ne]at k1
  rw [beq_iff_eq]at k2
  have e:zaL T op=(T.has op.node&& !zbc op.node&&T.has op.parent&& !T.below op.parent op.node&&zcW op.name):=by rw [zaL,if_neg k1,if_pos k2]
  rw [e,PT.has,PT.has]
  refine ⟨fun a1=> ?_,fun a1=>by rw [a1];rfl⟩
  refine zac (zmW op.node) rfl rfl rfl fun _=> ?_
  simp (maxSteps:=2000000) only [zK,zx,zf,zp,zy,zc,zb,zh,zH,ze,za,zj,RO.isGh,zI,zar,ev,look,zd,zg,zk,unV,GV.getT,Value.oneCell',cond_true,cond_false,Nat.reduceEqDiff,↓reduceIte,reduceCtorEq,List.nil_append,Bool.true_and,Bool.not_true,Bool.not_false,true_and,zD,zal,zC,↓zL,↓zN,zax,zn,zF,zbo,zaW,zcn,zcd]
  rw [a1,←zbc]
  refine ⟨fun a2=>⟨fun a3=> ?_,fun a3=>by rw [a3,Bool.and_false];rfl⟩,fun a2=>by rw [a2];rfl⟩
  refine zdc _ [.s (.bool (T.below op.parent op.node))] rfl rfl (fun w' vs hv hw=> ?_) ?_
  ·obtain ⟨vs,rfl,_,hv⟩:=zt hv
   obtain ⟨vs,rfl,_,hv⟩:=zt hv
   obtain ⟨vs,rfl,_,hv⟩:=zt hv
   obtain rfl:=zr hv
   intro _
   exact zvQ (hw' hw) hT _ _ hl
  simp (maxSteps:=2000000) only [zK,zx,zf,zp,zy,zc,zb,zh,zH,ze,za,zj,RO.isGh,zI,zar,ev,look,zd,zg,zk,unV,GV.getT,Value.oneCell',cond_true,cond_false,Nat.reduceEqDiff,↓reduceIte,reduceCtorEq,List.nil_append,Bool.true_and,Bool.not_true,Bool.not_false,true_and,zD,zal,zC,↓zL,↓zN,zax,zn,zF,zcy,zck]
  rw [a2,a3]
  refine ⟨fun a4=> ?_,fun a4=>by rw [a4];rfl⟩
  refine zac (zqG op.name hb) rfl rfl rfl fun _=> ?_
  simp (maxSteps:=2000000) only [zK,zx,zf,zp,zy,zc,zb,zh,ze,za,zj,ev,look,zd,zg,zk,Value.oneCell',cond_true,Nat.reduceEqDiff,↓reduceIte,Bool.and_true,Bool.true_and,true_and,and_true,zD,zal,zC,↓zL]
  rw [a4];rfl
 ·rw [beq_eq_false_iff_ne]at k1 k2
  rw [beq_iff_eq]at k3
  have e:zaL T op=(T.has op.node&&zcl op.key op.value):=by rw [zaL,if_neg k1,if_neg k2,if_pos k3]
  rw [e,PT.has]
  refine ⟨fun a1=> ?_,fun a1=>by rw [a1];rfl⟩
  refine zac (zxs op.key op.value) rfl rfl rfl fun _=> ?_
  simp (maxSteps:=2000000) only [zK,zx,zf,zp,zy,zc,zb,zh,ze,za,zj,ev,look,zd,zg,zk,Value.oneCell',cond_true,Nat.reduceEqDiff,↓reduceIte,zD,zal,zC,↓zL]
  rw [a1];rfl
 ·rw [beq_eq_false_iff_ne]at k1 k2 k3
  rw [zaL,if_neg k1,if_neg k2,if_neg k3]
end
end Go.Proofs.YtmjiojflncffeaaGreat.Vc

set_option linter.unusedVariables false
set_option linter.unusedSimpArgs false
namespace Go.Proofs.YtmjiojflncffeaaGreat.Vc
open Go
structure BareM (m:PH) (b a k:Nat):Prop where
 ba:b≠a
 bk:b≠k
 ak:a≠k
 node:∃e,m b=some (.cells #[.int .i64 0, .string ⟨#[]⟩, .map (some a), .map (some k)] e (0,0))
 attrs:∃o,m a=some o∧zcE none o []
 kids:∃o,m k=some o∧zcE (some .i64) o []
def Lay.add (L:Lay) (n:Int) (b a k:Nat):Lay
 | .nd j=>if j=n then b else L (.nd j)
 | .ab j=>if j=n then a else L (.ab j)
 | .kb j=>if j=n then k else L (.kb j)
 |r=>L r
def PT.add (T:PT) (n:Int):PT:={T with nodes:=T.nodes++[(n,PN.bare)]}
theorem PT.get_add {T:PT} {n:Int} (h:T.get n=none) (j:Int):(T.add n).get j=if j=n then some PN.bare else T.get j:=by
 unfold PT.add PT.get at*
 simp only [zvA]
 by_cases hj:j=n
 ·subst hj;rw [h];simp [zcv]
 ·rw [if_neg hj]
  cases zcv T.nodes j with
  |none=>simp [zcv,Ne.symm hj]
  |some x=>rfl
theorem TreeT.add {R:Role→Prop} {m mb:PH} {L:Lay} {T:PT} {idsV:Value} {n:Int} {b a k:Nat} {o':Obj} (h:TreeT R m L T idsV) (hR:R .nb) (hb:BareM mb b a k) (hd:dis mb m) (hn:T.get n=none)
  (ho:zcE (some .i64) o' (zhG (zcQ L T.nodes) (.int .i64 n) (ptr b))):TreeT R ((uni mb m).upd (L .nb) o') (L.add n b a k) (T.add n) idsV:=by
 obtain ⟨onb,hnb,_⟩:=h.has .nb hR trivial
 have hmb:∀{j:Nat} {o:Obj},m j=some o→mb j=none:=fun {j o} hj=>by
  rcases hd j with e|e
  ·exact e
  ·rw [e]at hj;cases hj
 have hold:∀r,R r→act T r→∃o,m (L r)=some o:=fun r h1 h2=>by
  obtain ⟨o,h3,_⟩:=h.has r h1 h2
  exact ⟨o,h3⟩
 obtain ⟨e1,q1⟩:=hb.node
 obtain ⟨oa,q2,q2'⟩:=hb.attrs
 obtain ⟨ok,q3,q3'⟩:=hb.kids
 have hne:∀{j:Nat} {o:Obj},mb j=some o→∀r,R r→act T r→L r≠j:=fun {j o} hj r h1 h2 e=>by
  obtain ⟨o2,h3⟩:=hold r h1 h2
  rw [e]at h3
  rw [hmb h3]at hj;cases hj
 have new:∀{j:Nat} {o:Obj},mb j=some o→((uni mb m).upd (L .nb) o') j=some o:=fun {j o} hj=>by
  rw [zjc (fun e=>hne hj .nb hR trivial e.symm)]
  simp [uni,hj]
 have old:∀r,R r→act T r→r≠ .nb→∀o,m (L r)=some o→((uni mb m).upd (L .nb) o') (L r)=some o:=fun r h1 h2 h3 o hj=>by
  rw [zjc (fun e=>h3 (h.sep r .nb h1 hR h2 trivial e))]
  simp [uni,hmb hj,hj]
 have hg:=PT.get_add hn
 have hkey:n∉T.nodes.map (·.1):=zct.1 hn
 refine ⟨fun r hr ha=> ?_,fun r s hr hs ha hb'=> ?_, ?_⟩
 ·cases r with
  |t=>
   obtain ⟨o,h1,h2⟩:=h.has .t hr trivial
   exact ⟨o,old .t hr trivial (by simp) o h1,h2⟩
  |nb=>
   refine ⟨o',zft _ _ _, ?_⟩
   show zcE (some .i64) o' (zcQ (L.add n b a k) (T.nodes++[(n,PN.bare)]))
   rw [zrU _ _ _ _ hn]at ho
   have e:zcQ (L.add n b a k) (T.nodes++[(n,PN.bare)])=zcQ L T.nodes++[(.int .i64 n,ptr b)]:=by
    have e1:zcQ (L.add n b a k) T.nodes=zcQ L T.nodes:=zpj fun j x hj=>by
     have:j≠n:=fun e=>hkey (List.mem_map.2 ⟨(j,x),hj,e⟩)
     simp [Lay.add,this]
    have e2:∀(l r:List (Int×PN)) (M:Lay),zcQ M (l++r)=zcQ M l++zcQ M r:=fun l r M=>by simp [zcQ]
    rw [e2,e1]
    simp [zcQ,Lay.add]
   rw [e];exact ho
  |mk=>
   obtain ⟨o,h1,h2⟩:=h.has .mk hr trivial
   exact ⟨o,old .mk hr trivial (by simp) o h1,trivial⟩
  |nd j=>
   by_cases hj:j=n
   ·subst hj
    refine ⟨_,by show ((uni mb m).upd (L .nb) o') (if j=j then b else _)=_;rw [if_pos rfl];exact new q1,fun x hx=> ?_⟩
    rw [hg,if_pos rfl]at hx
    cases hx
    exact ⟨e1,by simp [PN.bare,Lay.add]⟩
   ·have ha':act T (.nd j):=by obtain ⟨x,hx⟩:=ha;rw [hg,if_neg hj]at hx;exact ⟨x,hx⟩
    obtain ⟨o,h1,h2⟩:=h.has _ hr ha'
    refine ⟨o,by show ((uni mb m).upd (L .nb) o') (if j=n then b else _)=_;rw [if_neg hj];exact old _ hr ha' (by simp) o h1,fun x hx=> ?_⟩
    rw [hg,if_neg hj]at hx
    obtain ⟨e',he'⟩:=h2 x hx
    exact ⟨e',by rw [he'];simp [Lay.add,hj]⟩
  |ab j=>
   by_cases hj:j=n
   ·subst hj
    refine ⟨_,by show ((uni mb m).upd (L .nb) o') (if j=j then a else _)=_;rw [if_pos rfl];exact new q2,fun x hx=> ?_⟩
    rw [hg,if_pos rfl]at hx
    cases hx
    exact q2'
   ·have ha':act T (.ab j):=by obtain ⟨x,hx⟩:=ha;rw [hg,if_neg hj]at hx;exact ⟨x,hx⟩
    obtain ⟨o,h1,h2⟩:=h.has _ hr ha'
    refine ⟨o,by show ((uni mb m).upd (L .nb) o') (if j=n then a else _)=_;rw [if_neg hj];exact old _ hr ha' (by simp) o h1,fun x hx=> ?_⟩
    rw [hg,if_neg hj]at hx
    exact h2 x hx
  |kb j=>
   by_cases hj:j=n
   ·subst hj
    refine ⟨_,by show ((uni mb m).upd (L .nb) o') (if j=j then k else _)=_;rw [if_pos rfl];exact new q3,fun x hx=> ?_⟩
    rw [hg,if_pos rfl]at hx
    cases hx
    exact q3'
   ·have ha':act T (.kb j):=by obtain ⟨x,hx⟩:=ha;rw [hg,if_neg hj]at hx;exact ⟨x,hx⟩
    obtain ⟨o,h1,h2⟩:=h.has _ hr ha'
    refine ⟨o,by show ((uni mb m).upd (L .nb) o') (if j=n then k else _)=_;rw [if_neg hj];exact old _ hr ha' (by simp) o h1,fun x hx=> ?_⟩
    rw [hg,if_neg hj]at hx
    exact h2 x hx
 ·
  intro e
  have cls:∀r,R r→act (T.add n) r→(r= .nd n∧(L.add n b a k) r=b)∨(r= .ab n∧(L.add n b a k) r=a)∨(r= .kb n∧(L.add n b a k) r=k)∨(act T r∧(L.add n b a k) r=L r):=by
   intro r hr ha
   cases r with
   |nd j=>
    by_cases hj:j=n
    ·subst hj;exact .inl ⟨rfl,by simp [Lay.add]⟩
    ·obtain ⟨x,hx⟩:=ha;rw [hg,if_neg hj]at hx
     exact .inr (.inr (.inr ⟨⟨x,hx⟩,by simp [Lay.add,hj]⟩))
   |ab j=>
    by_cases hj:j=n
    ·subst hj;exact .inr (.inl ⟨rfl,by simp [Lay.add]⟩)
    ·obtain ⟨x,hx⟩:=ha;rw [hg,if_neg hj]at hx
     exact .inr (.inr (.inr ⟨⟨x,hx⟩,by simp [Lay.add,hj]⟩))
   |kb j=>
    by_cases hj:j=n
    ·subst hj;exact .inr (.inr (.inl ⟨rfl,by simp [Lay.add]⟩))
    ·obtain ⟨x,hx⟩:=ha;rw [hg,if_neg hj]at hx
     exact .inr (.inr (.inr ⟨⟨x,hx⟩,by simp [Lay.add,hj]⟩))
   |t=>exact .inr (.inr (.inr ⟨trivial,rfl⟩))
   |nb=>exact .inr (.inr (.inr ⟨trivial,rfl⟩))
   |mk=>exact .inr (.inr (.inr ⟨trivial,rfl⟩))
  rcases cls r hr ha with ⟨h1,h2⟩|⟨h1,h2⟩|⟨h1,h2⟩|⟨h1,h2⟩<;>rcases cls s hs hb' with ⟨g1,g2⟩|⟨g1,g2⟩|⟨g1,g2⟩|⟨g1,g2⟩<;>rw [h2,g2]at e
  ·rw [h1,g1]
  ·exact absurd e hb.ba
  ·exact absurd e hb.bk
  ·exact absurd e.symm (hne q1 s hs g1)
  ·exact absurd e.symm hb.ba
  ·rw [h1,g1]
  ·exact absurd e hb.ak
  ·exact absurd e.symm (hne q2 s hs g1)
  ·exact absurd e.symm hb.bk
  ·exact absurd e.symm hb.ak
  ·rw [h1,g1]
  ·exact absurd e.symm (hne q3 s hs g1)
  ·exact absurd e (hne q1 r hr h1)
  ·exact absurd e (hne q2 r hr h1)
  ·exact absurd e (hne q3 r hr h1)
  ·exact h.sep r s hr hs h1 g1 e
 ·show ((T.nodes++[(n,PN.bare)]).map (·.1)).Nodup
  rw [List.map_append,List.nodup_append]
  refine ⟨h.nod,by simp,fun x hx y hy=> ?_⟩
  simp only [List.map_cons,List.map_nil,List.mem_singleton]at hy
  subst hy
  exact fun e=>hkey (e▸hx)
theorem TreeM.add {e:TypeId} {m mb:PH} {L:Lay} {T:PT} {n:Int} {b a k:Nat} {o':Obj} (h:TreeM e m L T) (hb:BareM mb b a k) (hd:dis mb m) (hn:T.get n=none)
  (ho:zcE (some .i64) o' (zhG (zcQ L T.nodes) (.int .i64 n) (ptr b))):TreeM e ((uni mb m).upd (L .nb) o') (L.add n b a k) (T.add n):=by
 obtain ⟨mi,mt,idsV,rfl,hdi,hi,ht⟩:=h
 obtain ⟨hd1,hd2⟩:=zA hd
 obtain ⟨onb,hnb,_⟩:=ht.has .nb trivial trivial
 have hn':mi (L .nb)=none:=(zfg hdi hnb).2
 have e1:uni mb (uni mi mt)=uni mi (uni mb mt):=by rw [←zbs,zbU hd1,zbs]
 have hdis:dis mi (uni mb mt):=zad (zG hd1) hdi
 exact ⟨mi,(uni mb mt).upd (L .nb) o',idsV,by rw [e1,zdm hn'],zig hdis hn',hi,ht.add trivial hb hd2 hn ho⟩
def PT.empty:PT:=⟨[],[],0⟩
def part (r:Role):Prop:=r≠ .t∧r≠ .mk
theorem TreeT.none {nb:Nat} {o:Obj} (ho:zcE (some .i64) o []):TreeT part (one nb o) (fun _=>nb) PT.empty (.slice none 0 0):=by
 refine ⟨fun r hr ha=> ?_,fun r s hr hs ha hb e=> ?_,by simp [PT.empty]⟩
 ·cases r with
  |t=>exact absurd rfl hr.1
  |mk=>exact absurd rfl hr.2
  |nb=>exact ⟨o,by simp [one],ho⟩
  |nd k=>obtain ⟨x,hx⟩:=ha;cases hx
  |ab k=>obtain ⟨x,hx⟩:=ha;cases hx
  |kb k=>obtain ⟨x,hx⟩:=ha;cases hx
 ·have h1:∀r,part r→act PT.empty r→r= .nb:=fun r hr ha=>by
   cases r with
   |t=>exact absurd rfl hr.1
   |mk=>exact absurd rfl hr.2
   |nb=>rfl
   |nd k=>obtain ⟨x,hx⟩:=ha;cases hx
   |ab k=>obtain ⟨x,hx⟩:=ha;cases hx
   |kb k=>obtain ⟨x,hx⟩:=ha;cases hx
  rw [h1 r hr ha,h1 s hs hb]
def Lay.top (L:Lay) (t k:Nat):Lay
 | .t=>t
 | .mk=>k
 |r=>L r
theorem TreeM.make {ei et:TypeId} {m:PH} {L:Lay} {l:List (Int×PN)} {t k:Nat} {om:Obj} (h:TreeT part m L ⟨l,[],0⟩ (.slice none 0 0)) (hd1:dis (one k om) m)
  (hd2:dis (one t (.cells #[.map (some (L .nb)),ptr k, .int .i64 0, .slice none 0 0, .int .i64 0] et (0,0))) (uni (one k om) m)):
  TreeM ei (uni (one t (.cells #[.map (some (L .nb)),ptr k, .int .i64 0, .slice none 0 0, .int .i64 0] et (0,0))) (uni (one k om) m)) (L.top t k) ⟨l,[],0⟩:=by
 refine ⟨PH.no,_, .slice none 0 0,(zeX _).symm,zgC _,⟨fun x hx=>by simp at hx, .inl ⟨rfl,rfl⟩⟩, ?_⟩
 generalize hot:Obj.cells #[.map (some (L .nb)),ptr k, .int .i64 0, .slice none 0 0, .int .i64 0] et (0,0)=ot at hd2 ⊢
 have hk:∀{j:Nat} {o:Obj},m j=some o→j≠k∧j≠t:=fun {j o} hj=>by
  refine ⟨fun e=> ?_,fun e=> ?_⟩
  ·subst e;rcases hd1 j with q|q
   ·simp [one]at q
   ·rw [q]at hj;cases hj
  ·subst e;rcases hd2 j with q|q
   ·simp [one]at q
   ·have:uni (one k om) m j≠none:=by
     unfold uni
     cases one k om j with
     |none=>simp [hj]
     |some x=>simp
    exact absurd q this
 have htk:t≠k:=fun e=>by
  subst e;rcases hd2 t with q|q
  ·simp [one]at q
  ·simp [uni,one]at q
 have hin:∀{j:Nat} {o:Obj},m j=some o→uni (one t ot) (uni (one k om) m) j=some o:=fun {j o} hj=>by
  obtain ⟨h1,h2⟩:=hk hj
  simp [uni,one,h1,h2,hj]
 have hr:∀l':List (Int×PN),zcQ (L.top t k) l'=zcQ L l':=fun l'=>zpj fun _ _ _=>rfl
 have cls:∀r,act ⟨l,[],0⟩ r→r= .t∨r= .mk∨(part r∧(L.top t k) r=L r):=fun r _=>by
  cases r with
  |t=>exact .inl rfl
  |mk=>exact .inr (.inl rfl)
  |nb=>exact .inr (.inr ⟨⟨by simp,by simp⟩,rfl⟩)
  |nd j=>exact .inr (.inr ⟨⟨by simp,by simp⟩,rfl⟩)
  |ab j=>exact .inr (.inr ⟨⟨by simp,by simp⟩,rfl⟩)
  |kb j=>exact .inr (.inr ⟨⟨by simp,by simp⟩,rfl⟩)
 refine ⟨fun r _ ha=> ?_,fun r s _ _ ha hb e=> ?_,h.nod⟩
 ·rcases cls r ha with rfl|rfl|⟨hp,e⟩
  ·refine ⟨ot,by simp [Lay.top,uni,one],et, ?_⟩
   rw [←hot];rfl
  ·refine ⟨om,by simp [Lay.top,uni,one,Ne.symm htk],trivial⟩
  ·obtain ⟨o,h1,h2⟩:=h.has r hp ha
   refine ⟨o,by rw [e];exact hin h1, ?_⟩
   cases r with
   |t=>exact absurd rfl hp.1
   |mk=>trivial
   |nb=>show zcE _ _ _;rw [hr];exact h2
   |nd j=>exact h2
   |ab j=>exact h2
   |kb j=>exact h2
 ·rcases cls r ha with rfl|rfl|⟨hp,e1⟩<;>rcases cls s hb with rfl|rfl|⟨hp2,e2⟩
  ·rfl
  ·exact absurd e htk
  ·obtain ⟨o,h1,_⟩:=h.has s hp2 hb
   rw [e2]at e
   exact absurd e.symm (hk h1).2
  ·exact absurd e.symm htk
  ·rfl
  ·obtain ⟨o,h1,_⟩:=h.has s hp2 hb
   rw [e2]at e
   exact absurd e.symm (hk h1).1
  ·obtain ⟨o,h1,_⟩:=h.has r hp ha
   rw [e1]at e
   exact absurd e (hk h1).2
  ·obtain ⟨o,h1,_⟩:=h.has r hp ha
   rw [e1]at e
   exact absurd e (hk h1).1
  ·obtain ⟨o,h1,_⟩:=h.has r hp ha
   rw [e1,e2]at e
   exact h.sep r s hp hp2 ha hb e
end Go.Proofs.YtmjiojflncffeaaGreat.Vc

set_option linter.unusedVariables false
set_option linter.unusedSimpArgs false
set_option maxRecDepth 100000
namespace Go.Proofs.YtmjiojflncffeaaGreat.Vc
open Go Go.Proofs
theorem zvt {R:Role→Prop} {m mb:PH} {L:Lay} {T:PT} {idsV:Value} {n:Int} {b:Nat} {d:Option Nat} {σ:SS} {K:KT} (h:TreeT R m L T idsV) (hR:R .nb) (hd:dis mb m) (hm:σ.m=uni mb m)
  (hK:∀o',zcE (some .i64) o' (zhG (zcQ L T.nodes) (.int .i64 n) (ptr b))→K ({σ with m:=(uni mb m).upd (L .nb) o'}.put d .no)):zyu (some .i64) (L .nb) (.int .i64 n) (.pointer (some ⟨b,0,none⟩)) d K σ:=by
 obtain ⟨o,h1,h2⟩:=h.has .nb hR trivial
 refine ⟨o,_,by rw [hm];exact (zfg hd h1).1,h2,rfl,fun o' ho'=> ?_⟩
 have:=hK o' ho'
 rwa [hm]
theorem zku (w:World):Spec Tryz.prog zvq [] PH.no w fun rs m'=>∃b a k,rs=[.s (ptr b)]∧BareM m' b a k:=by
 refine zbb zvu [] (by simp) (by simp [AV.ok]) ?_
 simp (maxSteps:=2000000) only [znT,zi,zm,zf,zc,zb,zh,ze,za,zj,ev,zd,zg,zk,Value.oneCell',cond_true,zak,zaK,zcL,ptr]
 intro a oa ha _
 simp (maxSteps:=2000000) only [za,zj,zd]
 intro k ok hk hdk
 simp (maxSteps:=2000000) only [za,zj,ev,evL,gvL,look,zZ,zd,GV.getT,GV.same,GV.setT,Nat.reduceEqDiff,↓reduceIte,Bool.and_true,Bool.true_and,true_and,and_true,List.map_cons,List.map_nil,Option.map_some,GV.bldT,GV.bldC]
 refine ⟨⟨rfl,rfl⟩,zcu 0 4 rfl rfl fun v u hv hp hd=> ?_⟩
 obtain ⟨hok,b,e,rfl,rfl⟩:=hp
 simp (maxSteps:=2000000) only [zx,zf,zc,zab,zb,ze,look,zg,zk,cond_true,cond_false,↓reduceIte,BEq.rfl,zbA,SV.mentions]
 refine zbq _ rfl (fun _ _ h=>h) ⟨b,a,k,rfl, ?_⟩
 rw [zaz]at hdk hd ⊢
 have hak:a≠k:=fun e=>by subst e;rcases hdk a with q|q<;>simp [one]at q
 have hbk:b≠k:=fun e=>by subst e;rcases hd b with q|q<;>simp [one,uni]at q
 have hba:b≠a:=fun e=>by subst e;rcases hd b with q|q<;>simp [one,uni,hak]at q
 exact ⟨hba,hbk,hak,⟨e,by simp [uni,one];rfl⟩,⟨oa,by simp [uni,one,Ne.symm hba,hak],ha _⟩,⟨ok,by simp [uni,one,Ne.symm hbk],hk _⟩⟩
def T0:PT:=⟨[(1,PN.bare),(2,PN.bare)],[],0⟩
theorem zqF (w:World):Spec Tryz.prog zwN [] PH.no w fun rs m'=>∃L,rs=[.s (ptr (L .t))]∧TM m' L T0:=by
 refine zbb zvI [] (by simp) (by simp [AV.ok]) ?_
 simp (maxSteps:=2000000) only [zpr,zi,zm,zf,zc,zb,zh,ze,za,zj,ev,zd,zg,zk,Value.oneCell',cond_true,zak,zaK,ptr]
 intro nb o0 ho0 _
 simp (maxSteps:=2000000) only [za,zj,zd]
 refine zaJ rfl rfl (Q:=fun rs m'=>∃b a k,rs=[.s (ptr b)]∧BareM m' b a k) (fun w' vs hv hw _ _=> ?_) fun rs m1 _ hq hd1=> ?_
 ·obtain rfl:=zr hv
  exact zku w'
 obtain ⟨b1,a1,k1,rfl,hb1⟩:=hq
 simp (maxSteps:=2000000) only [zK,za,zj,ev,look,zd,Value.oneCell',cond_true,Nat.reduceEqDiff,↓reduceIte,ptr]
 have hd1':dis m1 (one nb o0):=by have:=hd1;simp only [zaz]at this;exact this
 have t0:=TreeT.none (nb:=nb) (ho0 (some .i64))
 refine zvt (L:=fun _=>nb) (T:=PT.empty) t0 ⟨by simp,by simp⟩ hd1' (by rw [zaz]) fun o1 ho1=> ?_
 have t1:=t0.add ⟨by simp,by simp⟩ hb1 hd1' rfl ho1
 generalize hM1:(uni m1 (one nb o0)).upd nb o1=M1 at*
 simp (maxSteps:=2000000) only [za,zj,zS]
 refine zaJ rfl rfl (Q:=fun rs m'=>∃b a k,rs=[.s (ptr b)]∧BareM m' b a k) (fun w' vs hv hw _ _=> ?_) fun rs m2 _ hq hd2=> ?_
 ·obtain rfl:=zr hv
  exact zku w'
 obtain ⟨b2,a2,k2,rfl,hb2⟩:=hq
 simp (maxSteps:=2000000) only [zK,za,zj,ev,look,zd,Value.oneCell',cond_true,Nat.reduceEqDiff,↓reduceIte,ptr]
 refine zvt t1 ⟨by simp,by simp⟩ hd2 rfl fun o2 ho2=> ?_
 have t2:=t1.add ⟨by simp,by simp⟩ hb2 hd2 rfl ho2
 generalize hM2:(uni m2 M1).upd _ o2=M2 at*
 simp (maxSteps:=2000000) only [za,zj,ev,evL,gvL,look,zZ,zd,zS,Nat.reduceEqDiff,↓reduceIte,Bool.true_and,true_and,List.map_nil,GV.bldT,GV.bldC]
 refine zcu 6 6 rfl rfl fun v u hv hp hd=> ?_
 obtain ⟨hok,k,e,rfl,rfl⟩:=hp
 simp (maxSteps:=2000000) only [dropK,za,zj,ev,evL,gvL,look,zZ,zd,GV.getT,GV.same,GV.setT,cond_true,cond_false,Nat.reduceEqDiff,↓reduceIte,Bool.and_true,Bool.true_and,BEq.rfl,true_and,and_true,List.map_cons,List.map_nil,Option.map_some,zbA,SV.mentions,GV.bldT,GV.bldC]
 refine ⟨⟨rfl,rfl⟩,zcu 0 8 rfl rfl fun v u hv' hp' hd'=> ?_⟩
 obtain ⟨hok',t,e',rfl,rfl⟩:=hp'
 simp (maxSteps:=2000000) only [zx,zf,zc,zab,zb,ze,look,zg,zk,cond_true,cond_false,↓reduceIte,BEq.rfl,zbA,SV.mentions]
 have hM:=TreeM.make (ei:=3) (et:=e') (m:=M2) (L:=(Lay.add (fun x=>nb) 1 b1 a1 k1).add 2 b2 a2 k2) (l:=T0.nodes) (t:=t) (k:=k) t2 hd hd'
 exact zbq _ rfl (fun _ _ h=>h) ⟨_,rfl,hM⟩
end Go.Proofs.YtmjiojflncffeaaGreat.Vc

set_option linter.unusedVariables false
set_option linter.unusedSimpArgs false
namespace Go.Proofs.YtmjiojflncffeaaGreat.Vc
open Go
section
variable {e:TypeId} {m:PH} {L:Lay} {T:PT} {k:Int} {x:PN}
theorem zsK {f:PN→PN} {s:Role} (h:act (T.mod k f) s):act T s:=by
 have key:∀j n,(T.mod k f).get j=some n→∃n',T.get j=some n':=fun j n hn=>by
  rw [PT.get_mod]at hn
  split at hn
  ·cases hg:T.get j with
   |none=>rw [hg]at hn;cases hn
   |some y=>exact ⟨y,rfl⟩
  ·exact ⟨n,hn⟩
 cases s with
 |nd j=>obtain ⟨n,hn⟩:=h;exact key j n hn
 |ab j=>obtain ⟨n,hn⟩:=h;exact key j n hn
 |kb j=>obtain ⟨n,hn⟩:=h;exact key j n hn
 |t=>trivial
 |nb=>trivial
 |mk=>trivial
theorem zcp {f:PN→PN} (hx:T.get k=some x):(T.mod k f).get k=some (f x):=by rw [PT.get_mod,if_pos rfl,hx];rfl
theorem zdf {f:PN→PN} {j:Int} (h:j≠k):(T.mod k f).get j=T.get j:=by rw [PT.get_mod,if_neg h]
theorem TreeM.modKids {f:PN→PN} (h:TreeM e m L T) (hx:T.get k=some x) (hf:∀y,(f y).parent=y.parent∧(f y).name=y.name∧(f y).attrs=y.attrs) {o':Obj} (ho:zcE (some .i64) o' (zfv (f x).kids)):TreeM e (m.upd (L (.kb k)) o') L (T.mod k f):=by
 refine h.upd (.kb k) ⟨x,hx⟩ o' rfl (fun s=>zsK) (by rw [PT.mod,zgD];exact h.nod) (fun idsV o _=>fun n hn=> ?_) fun s hs ha idsV o hh=> ?_
 ·rw [zcp hx]at hn;cases hn;exact ho
 ·cases s with
  |t=>exact hh
  |mk=>trivial
  |nb=>show zcE _ _ _;rw [PT.mod,zlV];exact hh
  |nd j=>
   intro n hn
   by_cases hj:j=k
   ·subst hj;rw [zcp hx]at hn;cases hn
    obtain ⟨h1,h2,_⟩:=hf x
    obtain ⟨e',he'⟩:=hh x hx
    exact ⟨e',by rw [he',h1,h2]⟩
   ·rw [zdf hj]at hn;exact hh n hn
  |ab j=>
   intro n hn
   by_cases hj:j=k
   ·subst hj;rw [zcp hx]at hn;cases hn
    rw [(hf x).2.2];exact hh x hx
   ·rw [zdf hj]at hn;exact hh n hn
  |kb j=>
   intro n hn
   by_cases hj:j=k
   ·subst hj;exact absurd rfl hs
   ·rw [zdf hj]at hn;exact hh n hn
theorem TreeM.modAttrs {f:PN→PN} (h:TreeM e m L T) (hx:T.get k=some x) (hf:∀y,(f y).parent=y.parent∧(f y).name=y.name∧(f y).kids=y.kids) {o':Obj} (ho:zcE none o' (zja (f x).attrs)):TreeM e (m.upd (L (.ab k)) o') L (T.mod k f):=by
 refine h.upd (.ab k) ⟨x,hx⟩ o' rfl (fun s=>zsK) (by rw [PT.mod,zgD];exact h.nod) (fun idsV o _=>fun n hn=> ?_) fun s hs ha idsV o hh=> ?_
 ·rw [zcp hx]at hn;cases hn;exact ho
 ·cases s with
  |t=>exact hh
  |mk=>trivial
  |nb=>show zcE _ _ _;rw [PT.mod,zlV];exact hh
  |nd j=>
   intro n hn
   by_cases hj:j=k
   ·subst hj;rw [zcp hx]at hn;cases hn
    obtain ⟨h1,h2,_⟩:=hf x
    obtain ⟨e',he'⟩:=hh x hx
    exact ⟨e',by rw [he',h1,h2]⟩
   ·rw [zdf hj]at hn;exact hh n hn
  |kb j=>
   intro n hn
   by_cases hj:j=k
   ·subst hj;rw [zcp hx]at hn;cases hn
    rw [(hf x).2.2];exact hh x hx
   ·rw [zdf hj]at hn;exact hh n hn
  |ab j=>
   intro n hn
   by_cases hj:j=k
   ·subst hj;exact absurd rfl hs
   ·rw [zdf hj]at hn;exact hh n hn
theorem TreeM.modPlace {f:PN→PN} (h:TreeM e m L T) (hx:T.get k=some x) (hf:∀y,(f y).attrs=y.attrs∧(f y).kids=y.kids) {e':TypeId}:TreeM e (m.upd (L (.nd k)) (.cells #[.int .i64 (f x).parent, .string (f x).name, .map (some (L (.ab k))), .map (some (L (.kb k)))] e' (0,0))) L (T.mod k f):=by
 refine h.upd (.nd k) ⟨x,hx⟩ _ rfl (fun s=>zsK) (by rw [PT.mod,zgD];exact h.nod) (fun idsV o _=>fun n hn=> ?_) fun s hs ha idsV o hh=> ?_
 ·rw [zcp hx]at hn;cases hn;exact ⟨e',rfl⟩
 ·cases s with
  |t=>exact hh
  |mk=>trivial
  |nb=>show zcE _ _ _;rw [PT.mod,zlV];exact hh
  |nd j=>
   intro n hn
   by_cases hj:j=k
   ·subst hj;exact absurd rfl hs
   ·rw [zdf hj]at hn;exact hh n hn
  |ab j=>
   intro n hn
   by_cases hj:j=k
   ·subst hj;rw [zcp hx]at hn;cases hn
    rw [(hf x).1];exact hh x hx
   ·rw [zdf hj]at hn;exact hh n hn
  |kb j=>
   intro n hn
   by_cases hj:j=k
   ·subst hj;rw [zcp hx]at hn;cases hn
    rw [(hf x).2];exact hh x hx
   ·rw [zdf hj]at hn;exact hh n hn
def PT.unkid (T:PT) (k n:Int):PT:=T.mod k fun x=>{x with kids:=x.kids.erase n}
def PT.kid (T:PT) (k n:Int):PT:=T.mod k fun x=>{x with kids:=zmD x.kids n}
def PT.place (T:PT) (n parent:Int) (name:ByteArray):PT:=T.mod n fun x=>{x with parent:=parent,name:=name}
def PT.attr (T:PT) (n:Int) (key value:ByteArray):PT:=T.mod n fun x=>{x with attrs:=if value=⟨#[]⟩then zjx x.attrs key else zes x.attrs key value}
def PT.del (T:PT) (n:Int):PT:={T with nodes:=zky T.nodes n}
theorem zuu {f:PN→PN} (h:T.get k=none):T.mod k f=T:=by
 have:∀l:List (Int×PN),zcv l k=none→zlk f l k=l:=by
  intro l
  induction l with
  |nil=>intro _;rfl
  |cons p l ih=>
   obtain ⟨j,y⟩:=p
   intro h
   by_cases hj:j=k
   ·simp [zcv,hj]at h
   ·simp only [zcv,hj,if_false]at h
    simp only [zlk,hj,if_false,ih h]
 unfold PT.mod
 rw [this _ h]
variable {C:Ctx} {σ:SS} {d:Option Nat} {K:KT} {n:Int}
theorem TreeM.unkid (h:TreeM e σ.m L T) (hx:T.get k=some x) (hK:∀m',TreeM e m' L (T.unkid k n)→K ({σ with m:=m'}.put d (.tup []))):zAS (some .i64) (L (.kb k)) (.int .i64 n) d K σ:=by
 obtain ⟨o,idsV,h1,h2⟩:=h.at (.kb k) ⟨x,hx⟩
 refine ⟨o,_,h1,h2 x hx,rfl,fun o' ho'=>hK _ ?_⟩
 rw [zrS]at ho'
 exact h.modKids (f:=fun x=>{x with kids:=x.kids.erase n}) hx (fun y=>⟨rfl,rfl,rfl⟩) ho'
theorem TreeM.kid (h:TreeM e σ.m L T) (hx:T.get k=some x) (hK:∀m',TreeM e m' L (T.kid k n)→K ({σ with m:=m'}.put d .no)):zyu (some .i64) (L (.kb k)) (.int .i64 n) (.int .i64 1) d K σ:=by
 obtain ⟨o,idsV,h1,h2⟩:=h.at (.kb k) ⟨x,hx⟩
 refine ⟨o,_,h1,h2 x hx,rfl,fun o' ho'=>hK _ ?_⟩
 rw [znb]at ho'
 exact h.modKids (f:=fun x=>{x with kids:=zmD x.kids n}) hx (fun y=>⟨rfl,rfl,rfl⟩) ho'
theorem TreeM.place (h:TreeM e σ.m L T) (hx:T.get k=some x) {p:Place} (hK:∀m',TreeM e m' L (T.place k p.parent p.name)→K ({σ with m:=m'}.put d .no)):stK σ (L (.nd k)) 0 2 (zby p) d K:=by
 obtain ⟨o,idsV,h1,h2⟩:=h.at (.nd k) ⟨x,hx⟩
 obtain ⟨e',rfl⟩:=h2 x hx
 refine zgi (zbf p) _ e' ⟨h1,by simp⟩ ?_
 have:=h.modPlace (f:=fun x=>{x with parent:=p.parent,name:=p.name}) hx (fun y=>⟨rfl,rfl⟩) (e':=e')
 exact hK _ this
theorem TreeM.attrDel {key:ByteArray} (h:TreeM e σ.m L T) (hx:T.get k=some x) (hK:∀m',TreeM e m' L (T.attr k key ⟨#[]⟩)→K ({σ with m:=m'}.put d (.tup []))):zAS none (L (.ab k)) (.string key) d K σ:=by
 obtain ⟨o,idsV,h1,h2⟩:=h.at (.ab k) ⟨x,hx⟩
 refine ⟨o,_,h1,h2 x hx,trivial,fun o' ho'=>hK _ ?_⟩
 rw [zrW]at ho'
 exact h.modAttrs (f:=fun x=>{x with attrs:=if (⟨#[]⟩:ByteArray)=⟨#[]⟩then zjx x.attrs key else zes x.attrs key ⟨#[]⟩}) hx (fun y=>⟨rfl,rfl,rfl⟩) (by simp only [if_true];exact ho')
theorem TreeM.attrPut {key value:ByteArray} (hv:value≠⟨#[]⟩) (h:TreeM e σ.m L T) (hx:T.get k=some x) (hK:∀m',TreeM e m' L (T.attr k key value)→K ({σ with m:=m'}.put d .no)):zyu none (L (.ab k)) (.string key) (.string value) d K σ:=by
 obtain ⟨o,idsV,h1,h2⟩:=h.at (.ab k) ⟨x,hx⟩
 refine ⟨o,_,h1,h2 x hx,trivial,fun o' ho'=>hK _ ?_⟩
 rw [zrV]at ho'
 exact h.modAttrs (f:=fun x=>{x with attrs:=if value=⟨#[]⟩then zjx x.attrs key else zes x.attrs key value}) hx (fun y=>⟨rfl,rfl,rfl⟩) (by simp only [if_neg hv];exact ho')
theorem TreeM.delNode (h:TreeM e σ.m L T) (hK:∀m',TreeM e m' L (T.del n)→K ({σ with m:=m'}.put d (.tup []))):zAS (some .i64) (L .nb) (.int .i64 n) d K σ:=by
 obtain ⟨o,idsV,h1,h2⟩:=h.at .nb trivial
 have hg:∀j y,(T.del n).get j=some y→j≠n∧T.get j=some y:=fun j y hy=>by
  unfold PT.get PT.del at hy
  rw [zut h.nod]at hy
  split at hy
  ·cases hy
  ·rename_i hj;exact ⟨hj,hy⟩
 have hact:∀s,act (T.del n) s→act T s:=fun s hs=>by
  cases s with
  |nd j=>obtain ⟨y,hy⟩:=hs;exact ⟨y,(hg j y hy).2⟩
  |ab j=>obtain ⟨y,hy⟩:=hs;exact ⟨y,(hg j y hy).2⟩
  |kb j=>obtain ⟨y,hy⟩:=hs;exact ⟨y,(hg j y hy).2⟩
  |t=>trivial
  |nb=>trivial
  |mk=>trivial
 refine ⟨o,_,h1,h2,rfl,fun o' ho'=>hK _ ?_⟩
 rw [zsm]at ho'
 refine h.upd .nb trivial o' rfl hact (by rw [PT.del,zmp];exact h.nod.erase _) (fun idsV o _=>ho') fun s hs ha idsV o hh=> ?_
 cases s with
 |t=>exact hh
 |mk=>trivial
 |nb=>exact absurd rfl hs
 |nd j=>exact fun y hy=>hh y (hg j y hy).2
 |ab j=>exact fun y hy=>hh y (hg j y hy).2
 |kb j=>exact fun y hy=>hh y (hg j y hy).2
end
end Go.Proofs.YtmjiojflncffeaaGreat.Vc

set_option linter.unusedVariables false
set_option maxRecDepth 100000
namespace Go.Proofs.YtmjiojflncffeaaGreat.Vc
open Go Go.Proofs
abbrev zjJ:Nat:=27
def zeg:Cd:=
 (.seq (.gh (.rga (.op ⟨none,[(some 97, .mv (.t 0))]⟩ (.op ⟨none,[(some 98, .mv (.t 0))]⟩ (.op ⟨none,[(some 99, .nilc (.t 98))]⟩ (.op ⟨none,[(some 100, .fldA (.t 99) 3 3)]⟩ (.op ⟨none,[(some 102, .fldA (.t 6) 1 1)]⟩ (.or (.op ⟨none,[(some 101, .ld (.t 100) 1 false)]⟩ (.op ⟨none,[(some 103, .ld (.t 102) 1 false)]⟩ (.op ⟨none,[(some 104, .bldS 3 1 (.s (.int .i64 0)) [(.t 103)])]⟩ (.op ⟨none,[(some 105, .app 3 1 8 (.s (.int .i64 0)) (.t 101) (.t 104))]⟩ (.op ⟨none,[(some 106, .nilc (.t 97))]⟩ (.op ⟨none,[(some 107, .fldA (.t 106) 3 3)]⟩ (.op ⟨none,[(none, .st (.t 107) (.t 105) 1)]⟩ .done))))))) (.op ⟨none,[(some 103, .ld (.t 102) 1 false)]⟩ (.or (.op ⟨none,[(some 101, .ld (.t 100) 1 false)]⟩ (.op ⟨none,[(some 104, .bldS 3 1 (.s (.int .i64 0)) [(.t 103)])]⟩ (.op ⟨none,[(some 105, .app 3 1 8 (.s (.int .i64 0)) (.t 101) (.t 104))]⟩ (.op ⟨none,[(some 106, .nilc (.t 97))]⟩ (.op ⟨none,[(some 107, .fldA (.t 106) 3 3)]⟩ (.op ⟨none,[(none, .st (.t 107) (.t 105) 1)]⟩ .done)))))) (.op ⟨none,[(some 104, .bldS 3 1 (.s (.int .i64 0)) [(.t 103)])]⟩ (.op ⟨none,[(some 101, .ld (.t 100) 1 false)]⟩ (.op ⟨none,[(some 105, .app 3 1 8 (.s (.int .i64 0)) (.t 101) (.t 104))]⟩ (.op ⟨none,[(some 106, .nilc (.t 97))]⟩ (.op ⟨none,[(some 107, .fldA (.t 106) 3 3)]⟩ (.op ⟨none,[(none, .st (.t 107) (.t 105) 1)]⟩ .done)))))))))))))) [4,6]))
 (.seq (.rg [⟨none,[(some 108, .ld (.t 6) 13 true),(none, .st (.t 4) (.t 108) 13),(some 5, .mv (.c (.bool true)))]⟩] [4,5])
 .ret))
def zjX:Cd:=
 (.seq (.rg [⟨none,[(some 3, .box 26 (.t 1)),(some 4, .new 71 (.c (.s (.pointer none)) (.c (.s (.int .i64 0)) (.c (.c (.c (.s (.int .i64 0)) (.c (.s (.int .i64 0)) .u)) (.c (.s (.int .i64 0)) (.c (.s (.int .i64 0)) (.c (.s (.int .i64 0)) (.c (.s (.string ⟨#[]⟩)) (.c (.s (.string ⟨#[]⟩)) (.c (.s (.string ⟨#[]⟩)) .u))))))) (.c (.c (.s (.int .i64 0)) (.c (.s (.string ⟨#[]⟩)) .u)) (.c (.s (.string ⟨#[]⟩)) .u)))))),(some 5, .mv (.c (.bool false)))]⟩] [0,3,4])
 (.seq (.seq (.rg [⟨none,[(some 7, .mv (.t 0)),(some 8, .ld (.t 3) 8 true),(some 9, .call 53 [(.t 7),(.t 8)]),(some 10, .un .not (.t 9))]⟩] [0,3,4,10])
 (.ite (.t 10)
 (.seq (.rg [⟨none,[(some 11, .bld (.c (.s (.pointer none)) (.c (.s (.int .i64 0)) (.c (.c (.c (.s (.int .i64 0)) (.c (.s (.int .i64 0)) .u)) (.c (.s (.int .i64 0)) (.c (.s (.int .i64 0)) (.c (.s (.int .i64 0)) (.c (.s (.string ⟨#[]⟩)) (.c (.s (.string ⟨#[]⟩)) (.c (.s (.string ⟨#[]⟩)) .u))))))) (.c (.c (.s (.int .i64 0)) (.c (.s (.string ⟨#[]⟩)) .u)) (.c (.s (.string ⟨#[]⟩)) .u))))) []),(none, .st (.t 4) (.t 11) 13),(some 5, .mv (.c (.bool false)))]⟩] [4,5])
 .ret)
 .skip))
 (.seq (.rg [⟨none,[(some 12, .mv (.t 0)),(some 13, .nilc (.t 12)),(some 14, .fldA (.t 13) 4 4),(some 15, .ld (.t 14) 1 false),(some 16, .bin .add (.t 15) (.c (.int .i64 1))),(some 17, .nilc (.t 12)),(some 18, .fldA (.t 17) 4 4),(none, .st (.t 18) (.t 16) 1)]⟩] [0,3,4])
 (.seq (.rga (.held [0,3] (.op ⟨none,[(some 19, .mv (.t 0))]⟩ (.op ⟨none,[(some 20, .nilc (.t 19))]⟩ (.op ⟨none,[(some 21, .fldA (.t 20) 1 1)]⟩ (.op ⟨none,[(some 23, .mv (.t 0))]⟩ (.op ⟨none,[(some 24, .nilc (.t 23))]⟩ (.op ⟨none,[(some 25, .fldA (.t 24) 4 4)]⟩ (.first ⟨none,[(some 22, .ld (.t 21) 1 false)]⟩ (.first ⟨none,[(some 26, .ld (.t 25) 1 false)]⟩ (.first ⟨none,[(some 27, .ld (.t 3) 8 true)]⟩ (.op ⟨none,[(some 28, .bld (.c (.s (.pointer none)) (.c (.s (.int .i64 0)) (.c (.c (.c (.s (.int .i64 0)) (.c (.s (.int .i64 0)) .u)) (.c (.s (.int .i64 0)) (.c (.s (.int .i64 0)) (.c (.s (.int .i64 0)) (.c (.s (.string ⟨#[]⟩)) (.c (.s (.string ⟨#[]⟩)) (.c (.s (.string ⟨#[]⟩)) .u))))))) (.c (.c (.s (.int .i64 0)) (.c (.s (.string ⟨#[]⟩)) .u)) (.c (.s (.string ⟨#[]⟩)) .u))))) [(0,(.t 22)),(1,(.t 26)),(2,(.t 27))])]⟩ (.op ⟨none,[(some 6, .new 71 (.c (.s (.pointer none)) (.c (.s (.int .i64 0)) (.c (.c (.c (.s (.int .i64 0)) (.c (.s (.int .i64 0)) .u)) (.c (.s (.int .i64 0)) (.c (.s (.int .i64 0)) (.c (.s (.int .i64 0)) (.c (.s (.string ⟨#[]⟩)) (.c (.s (.string ⟨#[]⟩)) (.c (.s (.string ⟨#[]⟩)) .u))))))) (.c (.c (.s (.int .i64 0)) (.c (.s (.string ⟨#[]⟩)) .u)) (.c (.s (.string ⟨#[]⟩)) .u))))))]⟩ (.op ⟨none,[(none, .st (.t 6) (.t 28) 13)]⟩ .done))))))))))))) [0,3,4,6])
 (.seq (.seq (.rg [⟨none,[(some 29, .fldA (.t 3) 1 2),(some 30, .ld (.t 29) 1 false)]⟩] [0,3,4,6,30])
 (.block 0 (.seq (.rg [⟨none,[(some 58, .bin .eql (.t 30) (.c (.int .i64 1))),(some 57, .mv (.t 58))]⟩] [0,3,4,6,30,57])
 (.ite (.t 57)
 (.seq (.rga (.op ⟨none,[(some 59, .mv (.t 0))]⟩ (.op ⟨none,[(some 60, .nilc (.t 59))]⟩ (.op ⟨none,[(some 61, .fldA (.t 60) 0 0)]⟩ (.op ⟨none,[(some 63, .fldA (.t 3) 2 3)]⟩ (.or (.op ⟨none,[(some 62, .ld (.t 61) 1 false)]⟩ (.or (.op ⟨none,[(some 64, .ld (.t 63) 1 false)]⟩ (.op ⟨none,[(some 65, .call 66 [])]⟩ (.op ⟨none,[(none, .mup (some .i64) (.t 62) (.t 64) (.t 65))]⟩ .done))) (.op ⟨none,[(some 65, .call 66 [])]⟩ (.op ⟨none,[(some 64, .ld (.t 63) 1 false)]⟩ (.op ⟨none,[(none, .mup (some .i64) (.t 62) (.t 64) (.t 65))]⟩ .done))))) (.or (.op ⟨none,[(some 64, .ld (.t 63) 1 false)]⟩ (.or (.op ⟨none,[(some 62, .ld (.t 61) 1 false)]⟩ (.op ⟨none,[(some 65, .call 66 [])]⟩ (.op ⟨none,[(none, .mup (some .i64) (.t 62) (.t 64) (.t 65))]⟩ .done))) (.op ⟨none,[(some 65, .call 66 [])]⟩ (.op ⟨none,[(some 62, .ld (.t 61) 1 false)]⟩ (.op ⟨none,[(none, .mup (some .i64) (.t 62) (.t 64) (.t 65))]⟩ .done))))) (.op ⟨none,[(some 65, .call 66 [])]⟩ (.or (.op ⟨none,[(some 62, .ld (.t 61) 1 false)]⟩ (.op ⟨none,[(some 64, .ld (.t 63) 1 false)]⟩ (.op ⟨none,[(none, .mup (some .i64) (.t 62) (.t 64) (.t 65))]⟩ .done))) (.op ⟨none,[(some 64, .ld (.t 63) 1 false)]⟩ (.op ⟨none,[(some 62, .ld (.t 61) 1 false)]⟩ (.op ⟨none,[(none, .mup (some .i64) (.t 62) (.t 64) (.t 65))]⟩ .done))))))))))) [0,3,4,6])
 (.rg [⟨none,[(some 66, .mv (.t 0)),(some 67, .fldA (.t 3) 2 3),(some 68, .ld (.t 67) 1 false),(some 69, .fldA (.t 3) 3 4),(some 70, .ld (.t 69) 1 false),(some 71, .fldA (.t 3) 4 5),(some 72, .ld (.t 71) 1 false),(some 73, .bld (.c (.s (.int .i64 0)) (.c (.s (.string ⟨#[]⟩)) .u)) [(0,(.t 70)),(1,(.t 72))]),(some 74, .call 67 [(.t 66),(.t 68),(.t 73)])]⟩] [0,4,6]))
 (.seq (.rg [⟨none,[(some 76, .bin .eql (.t 30) (.c (.int .i64 2))),(some 75, .mv (.t 76))]⟩] [0,3,4,6,75])
 (.ite (.t 75)
 (.seq (.rgq [⟨none,[(some 77, .mv (.t 0)),(some 78, .nilc (.t 77)),(some 79, .fldA (.t 78) 0 0),(some 80, .ld (.t 79) 1 false),(some 81, .fldA (.t 3) 2 3),(some 82, .ld (.t 81) 1 false)]⟩] [⟨none,[(some 83, .mlk (some .i64) (.t 80) (.t 82) (.pointer none) false),(some 84, .nilc (.t 83)),(some 85, .fldA (.t 84) 0 0),(some 86, .ld (.t 85) 2 true),(some 87, .fldA (.t 6) 3 10),(none, .st (.t 87) (.t 86) 2)]⟩] [0,3,4,6])
 (.rg [⟨none,[(some 88, .mv (.t 0)),(some 89, .fldA (.t 3) 2 3),(some 90, .ld (.t 89) 1 false),(some 91, .fldA (.t 3) 3 4),(some 92, .ld (.t 91) 1 false),(some 93, .fldA (.t 3) 4 5),(some 94, .ld (.t 93) 1 false),(some 95, .bld (.c (.s (.int .i64 0)) (.c (.s (.string ⟨#[]⟩)) .u)) [(0,(.t 92)),(1,(.t 94))]),(some 96, .call 67 [(.t 88),(.t 90),(.t 95)])]⟩] [0,4,6]))
 (.seq (.rgq [⟨none,[(some 31, .mv (.t 0)),(some 32, .nilc (.t 31)),(some 33, .fldA (.t 32) 0 0),(some 34, .ld (.t 33) 1 false),(some 35, .fldA (.t 3) 2 3),(some 36, .ld (.t 35) 1 false),(some 37, .mlk (some .i64) (.t 34) (.t 36) (.pointer none) false),(some 38, .nilc (.t 37)),(some 39, .fldA (.t 38) 1 2),(some 40, .ld (.t 39) 1 false),(some 41, .fldA (.t 3) 5 6),(some 42, .ld (.t 41) 1 false)]⟩] [⟨none,[(some 43, .mlk none (.t 40) (.t 42) (.string ⟨#[]⟩) false),(some 44, .fldA (.t 6) 4 12),(none, .st (.t 44) (.t 43) 1)]⟩] [0,3,4,6])
 (.rgq [⟨none,[(some 45, .mv (.t 0)),(some 46, .nilc (.t 45)),(some 47, .fldA (.t 46) 0 0),(some 48, .ld (.t 47) 1 false),(some 49, .fldA (.t 3) 2 3),(some 50, .ld (.t 49) 1 false),(some 51, .mlk (some .i64) (.t 48) (.t 50) (.pointer none) false),(some 52, .fldA (.t 3) 5 6),(some 53, .ld (.t 52) 1 false),(some 54, .fldA (.t 3) 6 7),(some 55, .ld (.t 54) 1 false)]⟩] [⟨none,[(some 56, .call 68 [(.t 51),(.t 53),(.t 55)])]⟩] [0,4,6]))))))))
 zeg)))))
theorem zpz:Ok Tryz.prog 27 zjX 109 [(4,999998),(9,999999),(12,6),(6,12),(7,11),(14,999999)] [.cell 4 13 true, .tmp 5]:=Ok.mk' Tryz.func27 (by kernel_rfl) (by kernel_rfl) (by kernel_rfl)
abbrev zne:Nat:=68
def zhN:Cd:=
 (.seq (.rg [⟨none,[(some 6, .mv (.t 2)),(some 7, .bin .eql (.t 6) (.c (.string ⟨#[]⟩)))]⟩] [0,1,2,7])
 (.ite (.t 7)
 (.rg [⟨none,[(some 8, .mv (.t 0)),(some 9, .nilc (.t 8)),(some 10, .fldA (.t 9) 1 2),(some 11, .ld (.t 10) 1 false),(some 12, .mv (.t 1)),(none, .mdl none (.t 11) (.t 12))]⟩] [])
 (.rg [⟨none,[(some 13, .mv (.t 0)),(some 14, .nilc (.t 13)),(some 15, .fldA (.t 14) 1 2),(some 16, .ld (.t 15) 1 false),(some 17, .mv (.t 1)),(some 18, .mv (.t 2)),(none, .mup none (.t 16) (.t 17) (.t 18))]⟩] [])))
theorem zmR:Ok Tryz.prog 68 zhN 19 [] []:=Ok.mk' Tryz.func68 (by kernel_rfl) (by kernel_rfl) (by kernel_rfl)
abbrev zeZ:Nat:=44
def zeQ:Cd:=
 (.seq (.rg [⟨none,[(some 3, .box 71 (.t 1)),(some 4, .mv (.c (.int .i64 0)))]⟩] [0,3])
 (.seq (.seq (.rg [⟨none,[(some 6, .mv (.t 0)),(some 7, .call 56 [(.t 6)])]⟩] [0,3,7])
 (.ite (.t 7)
 (.seq (.rg [⟨none,[(some 4, .mv (.c (.int .i64 2)))]⟩] [4])
 .ret)
 .skip))
 (.seq (.seq (.rg [⟨none,[(some 8, .ld (.t 3) 13 true),(some 9, .bld (.c (.s (.pointer none)) (.c (.s (.int .i64 0)) (.c (.c (.c (.s (.int .i64 0)) (.c (.s (.int .i64 0)) .u)) (.c (.s (.int .i64 0)) (.c (.s (.int .i64 0)) (.c (.s (.int .i64 0)) (.c (.s (.string ⟨#[]⟩)) (.c (.s (.string ⟨#[]⟩)) (.c (.s (.string ⟨#[]⟩)) .u))))))) (.c (.c (.s (.int .i64 0)) (.c (.s (.string ⟨#[]⟩)) .u)) (.c (.s (.string ⟨#[]⟩)) .u))))) []),(some 10, .eqA false 71 (.t 8) (.t 9))]⟩] [0,3,10])
 (.ite (.t 10)
 (.seq (.rg [⟨none,[(some 4, .mv (.c (.int .i64 0)))]⟩] [4])
 .ret)
 .skip))
 (.seq (.rg [⟨none,[(some 11, .mv (.t 0)),(some 12, .nilc (.t 11)),(some 13, .fldA (.t 12) 3 3),(some 14, .ld (.t 13) 1 false),(some 15, .len (.t 14)),(some 16, .bin .sub (.t 15) (.c (.int .i64 1))),(some 5, .mv (.t 16))]⟩] [0,3,5])
 (.seq (.seq (.rgq [⟨none,[(some 17, .fldA (.t 3) 0 0),(some 18, .ld (.t 17) 1 false),(some 19, .mv (.t 0)),(some 20, .nilc (.t 19)),(some 21, .fldA (.t 20) 1 1),(some 22, .ld (.t 21) 1 false),(some 23, .eqA true 67 (.t 18) (.t 22)),(some 24, .mv (.t 23))]⟩,⟨some (24,false),[(some 25, .mv (.t 5)),(some 26, .bin .lss (.t 25) (.c (.int .i64 0)))]⟩,⟨none,[(some 27, .pick (.t 24) (.c (.bool true)) (.t 26)),(some 28, .mv (.t 27))]⟩,⟨some (28,false),[(some 29, .mv (.t 0)),(some 30, .nilc (.t 29)),(some 31, .fldA (.t 30) 3 3),(some 32, .ld (.t 31) 1 false),(some 33, .mv (.t 5)),(some 34, .idxS (.t 32) (.t 33) 1),(some 35, .ld (.t 34) 1 false),(some 36, .fldA (.t 3) 1 1),(some 37, .ld (.t 36) 1 false)]⟩] [⟨some (28,false),[(some 38, .bin .neq (.t 35) (.t 37))]⟩,⟨none,[(some 39, .pick (.t 28) (.c (.bool true)) (.t 38))]⟩] [0,3,5,39])
 (.ite (.t 39)
 (.seq (.rg [⟨none,[(some 4, .mv (.c (.int .i64 120)))]⟩] [4])
 .ret)
 .skip))
 (.seq (.rg [⟨none,[(some 40, .mv (.t 0)),(some 41, .mv (.t 0)),(some 42, .nilc (.t 41)),(some 43, .fldA (.t 42) 3 3),(some 44, .ld (.t 43) 1 false),(some 45, .mv (.t 5)),(some 46, .sl 1 (.t 44) none (some (.t 45))),(some 47, .nilc (.t 40)),(some 48, .fldA (.t 47) 3 3),(none, .st (.t 48) (.t 46) 1)]⟩] [0,3])
 (.seq (.seq (.rg [⟨none,[(some 49, .fldA (.t 3) 2 2),(some 50, .fldA (.t 49) 1 2),(some 51, .ld (.t 50) 1 false)]⟩] [0,3,51])
 (.block 0 (.seq (.rg [⟨none,[(some 67, .bin .eql (.t 51) (.c (.int .i64 1))),(some 66, .mv (.t 67))]⟩] [0,3,51,66])
 (.ite (.t 66)
 (.seq (.rgq [⟨none,[(some 68, .mv (.t 0)),(some 69, .nilc (.t 68)),(some 70, .fldA (.t 69) 0 0),(some 71, .ld (.t 70) 1 false),(some 72, .fldA (.t 3) 2 2),(some 73, .fldA (.t 72) 3 4),(some 74, .ld (.t 73) 1 false),(some 75, .mlk (some .i64) (.t 71) (.t 74) (.pointer none) false),(some 76, .nilc (.t 75)),(some 77, .fldA (.t 76) 2 3),(some 78, .ld (.t 77) 1 false),(some 79, .fldA (.t 3) 2 2),(some 80, .fldA (.t 79) 2 3),(some 81, .ld (.t 80) 1 false)]⟩] [⟨none,[(none, .mdl (some .i64) (.t 78) (.t 81))]⟩] [0,3])
 (.rgq [⟨none,[(some 82, .mv (.t 0)),(some 83, .nilc (.t 82)),(some 84, .fldA (.t 83) 0 0),(some 85, .ld (.t 84) 1 false),(some 86, .fldA (.t 3) 2 2),(some 87, .fldA (.t 86) 2 3),(some 88, .ld (.t 87) 1 false)]⟩] [⟨none,[(none, .mdl (some .i64) (.t 85) (.t 88))]⟩] []))
 (.seq (.rg [⟨none,[(some 90, .bin .eql (.t 51) (.c (.int .i64 2))),(some 89, .mv (.t 90))]⟩] [0,3,89])
 (.ite (.t 89)
 (.rg [⟨none,[(some 91, .mv (.t 0)),(some 92, .fldA (.t 3) 2 2),(some 93, .fldA (.t 92) 2 3),(some 94, .ld (.t 93) 1 false),(some 95, .fldA (.t 3) 3 10),(some 96, .ld (.t 95) 2 true),(some 97, .call 67 [(.t 91),(.t 94),(.t 96)])]⟩] [])
 (.rgq [⟨none,[(some 52, .mv (.t 0)),(some 53, .nilc (.t 52)),(some 54, .fldA (.t 53) 0 0),(some 55, .ld (.t 54) 1 false),(some 56, .fldA (.t 3) 2 2),(some 57, .fldA (.t 56) 2 3),(some 58, .ld (.t 57) 1 false),(some 59, .mlk (some .i64) (.t 55) (.t 58) (.pointer none) false),(some 60, .fldA (.t 3) 2 2),(some 61, .fldA (.t 60) 5 6),(some 62, .ld (.t 61) 1 false),(some 63, .fldA (.t 3) 4 12),(some 64, .ld (.t 63) 1 false)]⟩] [⟨none,[(some 65, .call 68 [(.t 59),(.t 62),(.t 64)])]⟩] [])))))))
 (.seq (.rg [⟨none,[(some 4, .mv (.c (.int .i64 0)))]⟩] [4])
 .ret))))))))
theorem zhD:Ok Tryz.prog 44 zeQ 98 [(6,21),(12,14),(13,7),(10,13)] [.tmp 4]:=Ok.mk' Tryz.func44 (by kernel_rfl) (by kernel_rfl) (by kernel_rfl)
end Go.Proofs.YtmjiojflncffeaaGreat.Vc

set_option linter.unusedVariables false
set_option linter.unusedSimpArgs false
set_option maxRecDepth 100000
namespace Go.Proofs.YtmjiojflncffeaaGreat.Vc
open Go Go.Proofs
def PT.put (T:PT) (n:Int) (p:Place):PT:=match T.get n with
 | .none=>T
 |some x=>((T.unkid x.parent n).place n p.parent p.name).kid p.parent n
theorem zbu {C:Ctx} {a:Cd} {Q:QT} {σ τ:SS} (h:Ge σ τ) (hv:vc C a Q τ):vc C (.gh a) Q σ:=fun act w hR=>⟨τ,h.rel hR,hv⟩
theorem zrl {T:PT} {k n j:Int}:(T.unkid k n).get j=if j=k then (T.get j).map (fun x=>{x with kids:=x.kids.erase n})else T.get j:=PT.get_mod _ _ _ _
theorem zkt {T:PT} {n j q:Int} {nm:ByteArray}:(T.place n q nm).get j=if j=n then (T.get j).map (fun x=>{x with parent:=q,name:=nm})else T.get j:=PT.get_mod _ _ _ _
theorem zxI {T:PT} {k n j:Int}:(T.kid k n).get j=if j=k then (T.get j).map (fun x=>{x with kids:=zmD x.kids n})else T.get j:=PT.get_mod _ _ _ _
theorem zbY {C:Ctx} {ph:List PH} {m:PH}:KN C.u0 (m::ph) m:=KN.mem (by simp)
theorem zpA (w:World) (m:PH) (L:Lay) (T:PT) (n:Int) (p:Place) (x:PN) (hx:T.get n=some x) (hT:TM m L T):
  Spec Tryz.prog zoI [ptr (L .t), .int .i64 n,(zby p).val] m w fun rs m'=>rs=[]∧TM m' L (T.put n p):=by
 refine zbb zoP [.g (.s (ptr (L .t))), .g (.s (.int .i64 n)), .g (zby p)] (by simp) (by simp [AV.ok,GV.ok,Value.oneCell',ptr,znG]) ?_
 rw [PT.put,hx]
 simp only
 have rest:∀(m1:PH) (T1:PT) (x1:PN),TM m1 L T1→T1.get n=some x1→∀σ:SS,Ge σ ⟨[(0, .g (.s (.pointer (some ⟨L .t,0,none⟩)))),(1, .g (.s (.int .i64 (n)))),(5, .ref 5 [])],[(5, .box (zby p))],[],m1⟩→
   vc ⟨Tryz.prog,53,w,m⟩ zeh (znm ⟨Tryz.prog,53,w,m⟩ [] fun rs m'=>rs=[]∧TM m' L ((T1.place n p.parent p.name).kid p.parent n)) σ:=by
  intro m1 T1 x1 hT1 hx1 σ hσ
  unfold zeh
  rw [zi]
  refine zbu hσ ?_
  simp (maxSteps:=2000000) only [zbh,zaq,zw,zX,zj,zaD,ev,look,zd,↓reduceIte,Nat.add_zero,Bool.true_and,true_and]
  refine zJ _ (hT1.s_map zbY) rfl ?_
  simp (maxSteps:=2000000) only [zw,zX,zj,zaD,ev,look,zd,Nat.reduceEqDiff,↓reduceIte,reduceCtorEq,Bool.true_and,true_and]
  refine hT1.lk zbY n ?_
  rw [hx1]
  simp (maxSteps:=2000000) only [zh,za,zM,zU,zw,zX,zj,zaD,ev,look,zd,Nat.reduceEqDiff,↓reduceIte,reduceCtorEq,Nat.add_zero,Bool.true_and,true_and,zn,zjG,zcf]
  refine hT1.place hx1 fun m2 hT2=> ?_
  simp (maxSteps:=2000000) only [zi,zbh,zf,zc,zb,ze,zaq,zw,zX,zj,zaD,ev,look,zd,zS,zg,zk,Nat.reduceEqDiff,↓reduceIte,reduceCtorEq,Nat.add_zero,Bool.true_and,true_and]
  refine zJ _ (hT2.s_map zbY) rfl ?_
  simp (maxSteps:=2000000) only [zh,za,zM,zU,zw,zX,zj,zaD,ev,look,zd,GV.getT,Nat.reduceEqDiff,↓reduceIte,reduceCtorEq,List.nil_append,Bool.true_and,Bool.not_false,true_and,zn,zF,zuN,zhb]
  refine hT2.lk zbY _ ?_
  simp (maxSteps:=2000000) only [zi,zm,zf,zc,zb,zh,ze,za,zj,ev,look,zd,zg,zk,Value.oneCell',cond_true,Nat.reduceEqDiff,↓reduceIte,reduceCtorEq]
  cases hq:(T1.place n p.parent p.name).get p.parent with
  |none=>
   simp (maxSteps:=2000000) only [zhC]
   refine zcH zly ?_
   simp (maxSteps:=2000000) only [zu,zq,zf,zc,zni,zb,ze,ev,look,zd,zg,zk,Nat.reduceEqDiff,↓reduceIte,Bool.not_true,↓zN,Bool.bne_true]
   refine zbq _ rfl (fun _ _ h=>h) ⟨rfl, ?_⟩
   rw [PT.kid,zuu hq]
   exact hT2
  |some y=>
   simp (maxSteps:=2000000) only [zcf]
   refine zcH (zqH _) ?_
   simp (maxSteps:=2000000) only [zm,zq,zf,zc,zb,zh,ze,za,zj,ev,look,zd,zg,zk,Nat.reduceEqDiff,↓reduceIte,Nat.zero_add,Bool.not_false,↓zL,Bool.bne_true]
   refine zJ _ (hT2.s_node zbY hq).2.2.2.1 rfl ?_
   simp (maxSteps:=2000000) only [za,zj,ev,look,zd,Value.oneCell',cond_true,Nat.reduceEqDiff,↓reduceIte]
   refine hT2.kid hq fun m3 hT3=> ?_
   simp (maxSteps:=2000000) only [zc,zni,zb,ze,zS,zg,zk]
   exact zbq _ rfl (fun _ _ h=>h) ⟨rfl,hT3⟩
 simp (maxSteps:=2000000) only [ziR,zi,zm,zbh,zf,zc,zb,zh,ze,za,zaq,zw,zX,zj,zaD,ev,look,zZ,zd,zg,zk,Nat.reduceEqDiff,Nat.reduceAdd,↓reduceIte,reduceCtorEq,Nat.zero_add,Nat.add_zero,Bool.true_and,true_and,zak,zaK,Int.reduceAdd,ptr]
 refine zJ _ (hT.s_map zbY) rfl ?_
 simp (maxSteps:=2000000) only [zw,zX,zj,zaD,ev,look,zd,↓reduceIte,reduceCtorEq,Nat.add_zero,Bool.true_and,true_and]
 refine zJ _ (hT.s_map zbY) rfl ?_
 simp (maxSteps:=2000000) only [zw,zX,zj,zaD,ev,look,zd,Nat.reduceEqDiff,↓reduceIte,reduceCtorEq,Bool.true_and,true_and]
 refine hT.lk zbY n ?_
 rw [hx]
 simp (maxSteps:=2000000) only [zw,zX,zj,zaD,ev,look,zd,↓reduceIte,Nat.add_zero,Bool.true_and,true_and,zcf]
 refine zJ _ (hT.s_node zbY hx).1 rfl ?_
 simp (maxSteps:=2000000) only [zh,za,zM,zU,zj,ev,look,zd,Nat.reduceEqDiff,↓reduceIte]
 refine hT.lk zbY _ ?_
 simp (maxSteps:=2000000) only [zi,zm,zf,zc,zb,zh,ze,za,zj,ev,look,zd,zg,zk,Value.oneCell',cond_true,Nat.reduceEqDiff,↓reduceIte,reduceCtorEq]
 cases hq:T.get x.parent with
 |none=>
  simp (maxSteps:=2000000) only [zhC]
  refine zcH zly ?_
  simp (maxSteps:=2000000) only [zu,zq,zf,zc,zb,ze,ev,look,zd,zg,zk,Nat.reduceEqDiff,↓reduceIte,reduceCtorEq,Bool.not_true,↓zN,Bool.bne_true]
  rw [show T.unkid x.parent n=T from zuu hq]
  refine rest m T x hT hx _ (zR ?_ ?_ rfl rfl rfl)
  ·simp [zaf,look]
  ·simp [zam,look]
 |some y=>
  simp (maxSteps:=2000000) only [zcf]
  refine zcH (zqH _) ?_
  simp (maxSteps:=2000000) only [zm,zq,zf,zc,zb,zh,ze,za,zj,ev,look,zd,zg,zk,Nat.reduceEqDiff,↓reduceIte,reduceCtorEq,Nat.zero_add,Bool.not_false,↓zL,Bool.bne_true]
  refine zJ _ (hT.s_node zbY hq).2.2.2.1 rfl ?_
  simp (maxSteps:=2000000) only [za,zj,ev,look,zd,Nat.reduceEqDiff,↓reduceIte,reduceCtorEq]
  refine hT.unkid hq fun m2 hT2=> ?_
  simp (maxSteps:=2000000) only [zf,zc,zb,ze,look,zS,zg,zk,Nat.reduceEqDiff,↓reduceIte,reduceCtorEq]
  obtain ⟨x1,hx1⟩:∃x1,(T.unkid x.parent n).get n=some x1:=by rw [zrl,hx];split<;>exact ⟨_,rfl⟩
  refine rest m2 _ x1 hT2 hx1 _ (zR ?_ ?_ rfl rfl rfl)
  ·simp [zaf,look]
  ·simp [zam,look]
theorem zrM (w:World) (m:PH) (L:Lay) (T:PT) (n:Int) (key value:ByteArray) (x:PN) (hx:T.get n=some x) (hT:TM m L T):
  Spec Tryz.prog zne [ptr (L (.nd n)), .string key, .string value] m w fun rs m'=>rs=[]∧TM m' L (T.attr n key value):=by
 refine zbb zmR [.g (.s (ptr (L (.nd n)))), .g (.s (.string key)), .g (.s (.string value))] (by simp) (by simp [AV.ok,GV.ok,Value.oneCell',ptr]) ?_
 simp (maxSteps:=2000000) only [zhN,zi,zm,zq,zf,zc,zb,zh,ze,za,zj,ev,look,zd,zg,zk,zO,zP,Value.oneCell',cond_true,Nat.reduceEqDiff,Nat.reduceAdd,↓reduceIte,reduceCtorEq,Nat.zero_add,Bool.true_and,true_and,zak,zaK,Int.reduceAdd,decide_eq_true_eq,decide_eq_false_iff_not,zax,ptr]
 refine ⟨fun hv=> ?_,fun hv=> ?_⟩
 ·subst hv
  refine zJ _ (hT.s_node zbY hx).2.2.1 rfl ?_
  simp (maxSteps:=2000000) only [za,zj,ev,look,zd,Nat.reduceEqDiff,↓reduceIte,reduceCtorEq,decide_true]
  refine hT.attrDel hx fun m2 hT2=> ?_
  simp (maxSteps:=2000000) only [zc,zni,zb,ze,zS,zg,zk]
  exact zbq _ rfl (fun _ _ h=>h) ⟨rfl,hT2⟩
 ·refine zJ _ (hT.s_node zbY hx).2.2.1 rfl ?_
  simp (maxSteps:=2000000) only [za,zj,ev,look,zd,Nat.reduceEqDiff,↓reduceIte,reduceCtorEq]
  refine hT.attrPut hv hx fun m2 hT2=> ?_
  simp (maxSteps:=2000000) only [zc,zni,zb,ze,zS,zg,zk]
  exact zbq _ rfl (fun _ _ h=>h) ⟨rfl,hT2⟩
end Go.Proofs.YtmjiojflncffeaaGreat.Vc

set_option linter.unusedVariables false
set_option linter.unusedSimpArgs false
set_option maxRecDepth 100000
namespace Go.Proofs.YtmjiojflncffeaaGreat.Vc
open Go Go.Proofs
theorem TreeM.setLast {e:TypeId} {σ:SS} {L:Lay} {T:PT} {d:Option Nat} {K:KT} {n:Int} (h:TreeM e σ.m L T) (hK:∀m',TreeM e m' L {T with last:=n}→K ({σ with m:=m'}.put d .no)):stK σ (L .t) 4 1 (.s (.int .i64 n)) d K:=by
 obtain ⟨mi,mt,idsV,hm,hd,hi,ht⟩:=h
 obtain ⟨o,h1,e',rfl⟩:=ht.has .t trivial trivial
 obtain ⟨h2,h3⟩:=zfg hd h1
 refine zgi rfl _ e' ⟨by rw [hm];exact h2,by simp⟩ (hK _ ?_)
 rw [hm,zdm h3]
 refine ⟨mi,_,idsV,rfl,zig hd h3,hi,⟨fun s _ hs=> ?_,fun a b _ _ ha hb=>ht.sep a b trivial trivial ha hb,ht.nod⟩⟩
 by_cases hst:s= .t
 ·subst hst
  exact ⟨_,zft _ _ _,e',rfl⟩
 ·obtain ⟨o2,g1,g2⟩:=ht.has s trivial hs
  refine ⟨o2,by rw [zjc (fun q=>hst (ht.sep s .t trivial trivial hs trivial q))];exact g1, ?_⟩
  cases s with
  |t=>exact absurd rfl hst
  |nb=>exact g2
  |mk=>trivial
  |nd k=>exact g2
  |ab k=>exact g2
  |kb k=>exact g2
theorem zlh {u0:PH} {L:List PH} {a b:PH} (h:dis a b):KN u0 (uni a b::L) b:=fun j o hj=> .inr ⟨_,by simp,zao h j o hj⟩
theorem TreeM.setIds {e:TypeId} {σ:SS} {L:Lay} {T:PT} {d:Option Nat} {K:KT} {mt ui:PH} {idsV v:Value} {ids:List Int} (hm:σ.m=uni ui mt) (hd:dis ui mt) (ht:TreeT (fun _=>True) mt L T idsV) (hv:SlO ui v e 1 (ids.map gi))
  (hK:∀m',TreeM e m' L {T with ids:=ids}→K ({σ with m:=m'}.put d .no)):stK σ (L .t) 3 1 (.s v) d K:=by
 obtain ⟨o,h1,e',rfl⟩:=ht.has .t trivial trivial
 obtain ⟨h2,h3⟩:=zfg hd h1
 refine zgi rfl _ e' ⟨by rw [hm];exact h2,by simp⟩ (hK _ ?_)
 rw [hm,zdm h3]
 refine ⟨ui,_,v,rfl,zig hd h3,hv,⟨fun s _ hs=> ?_,fun a b _ _ ha hb=>ht.sep a b trivial trivial ha hb,ht.nod⟩⟩
 by_cases hst:s= .t
 ·subst hst
  exact ⟨_,zft _ _ _,e',rfl⟩
 ·obtain ⟨o2,g1,g2⟩:=ht.has s trivial hs
  refine ⟨o2,by rw [zjc (fun q=>hst (ht.sep s .t trivial trivial hs trivial q))];exact g1, ?_⟩
  cases s with
  |t=>exact absurd rfl hst
  |nb=>exact g2
  |mk=>trivial
  |nd k=>exact g2
  |ab k=>exact g2
  |kb k=>exact g2
theorem TreeM.mupAdd {e:TypeId} {σ:SS} {L:Lay} {T:PT} {d:Option Nat} {K:KT} {n:Int} {m mb:PH} {b a k:Nat} (h:TreeM e m L T) (hb:BareM mb b a k) (hd:dis mb m) (hn:T.get n=none) (hm:σ.m=uni mb m)
  (hK:∀m',TreeM e m' (L.add n b a k) (T.add n)→K ({σ with m:=m'}.put d .no)):zyu (some .i64) (L .nb) (.int .i64 n) (.pointer (some ⟨b,0,none⟩)) d K σ:=by
 obtain ⟨o,idsV,h1,h2⟩:=h.at .nb trivial
 refine ⟨o,_,by rw [hm];exact (zfg hd h1).1,h2,rfl,fun o' ho'=> ?_⟩
 rw [hm]
 exact hK _ (h.add hb hd hn ho')
theorem ztp (T:PT) (n:Int) (p:Place):(T.put n p).ids=T.ids:=by
 unfold PT.put
 cases T.get n<;>rfl
theorem zgL {C:Ctx} {σ:SS} {f:Nat} {args:List Opd} {d:Option Nat} {K:KT} {svs:List SV} {Q:List GV→PH→Prop} (hd:dOk d C.N=true) (ha:evL σ args=some svs)
  (hs:∀w vs,zeo C σ w svs vs→C.u0.le w→(∀u∈σ.ph,u.le w)→Spec C.P f vs σ.m w Q) (hK:∀rs m',(∀r∈rs,r.ok)→Q rs m'→K ({σ with m:=m'}.put d (zK rs))):vcCall C f args d K σ:=
 zdz σ.m PH.no (zcz hd) ha (zaz _).symm (zdW _) hs fun rs m' h1 h2 _=>by rw [zaz];exact hK rs m' h1 h2
theorem TreeM.lkA {C:Ctx} {e:TypeId} {u:PH} {σ:SS} {L:Lay} {T:PT} {d:Option Nat} {K:KT} {k:Int} {x:PN} {key:ByteArray} (h:TreeM e u L T) (hk:KN C.u0 (σ.m::σ.ph) u) (hx:T.get k=some x)
  (hK:K (σ.put d (.g (.s (.string ((zbv x.attrs key).getD ⟨#[]⟩)))))):mlkK C none (L (.ab k)) (.string key) (.string ⟨#[]⟩) false d K σ:=by
 obtain ⟨o,h1,h2⟩:=h.s_attrs hk hx
 refine ⟨o,_,h1,h2,trivial, ?_⟩
 unfold lkS
 rw [zrf]
 cases hg:zbv x.attrs key with
 |none=>rw [hg]at hK;exact hK
 |some y=>rw [hg]at hK;exact hK
def PT.acts (T:PT) (op:Op):PT:=
 if op.kind=1 then (T.add op.node).put op.node ⟨op.parent,op.name⟩
 else if op.kind=2 then T.put op.node ⟨op.parent,op.name⟩
 else T.attr op.node op.key op.value
def PT.undo (T:PT) (mk:Value) (op:Op):Undo:=
 match T.get op.node with
 | .none=>⟨mk,T.last+1,op,zgQ,⟨#[]⟩⟩
 |some x=>if op.kind=1 then ⟨mk,T.last+1,op,zgQ,⟨#[]⟩⟩else if op.kind=2 then ⟨mk,T.last+1,op,⟨x.parent,x.name⟩,⟨#[]⟩⟩else ⟨mk,T.last+1,op,zgQ,(zbv x.attrs op.key).getD ⟨#[]⟩⟩
def PT.does (T:PT) (op:Op):PT:={({T with last:=T.last+1}:PT).acts op with ids:=T.ids++[T.last+1]}
def PT.fits (T:PT):Prop:=T.nodes.length<4611686018427387904∧0≤T.last∧T.last<4611686018427387904∧T.ids.length<1099511627776
theorem zpa (w:World) (m:PH) (L:Lay) (T:PT) (op:Op) (hb:op.name.size≤140737488355328) (hf:T.fits) (hT:TM m L T):
  Spec Tryz.prog zjJ [ptr (L .t),(gOp op).val] m w fun rs m'=>
   (zaL T op=false→rs=[zaH zdJ, .s (.bool false)]∧TM m' L T)∧
   (zaL T op=true→∃L',L' .t=L .t∧L' .mk=L .mk∧rs=[zaH (T.undo (ptr (L .mk)) op), .s (.bool true)]∧TM m' L' (T.does op)):=by
 refine zbb zpz [.g (.s (ptr (L .t))), .g (gOp op)] (by simp) (by simp [AV.ok,GV.ok,Value.oneCell',ptr,zcS]) ?_
 simp (maxSteps:=2000000) only [zjX,zi,zm,zf,zc,zb,zh,ze,za,zj,ev,look,zZ,zd,zg,zk,Value.oneCell',cond_true,Nat.reduceEqDiff,↓reduceIte,reduceCtorEq,Nat.zero_add,Bool.true_and,true_and,zak,zaK,zn,zaU,zbp,zcx,zcL,zee,ptr]
 obtain ⟨hf1,hf2,hf3,hf4⟩:=hf
 refine zaM _ [.s (.bool (zaL T op))] rfl rfl (fun w' vs hv _ _ hm=> ?_) ?_
 ·obtain ⟨vs,rfl,_,hv⟩:=zt hv
  obtain ⟨vs,rfl,_,hv⟩:=zt hv
  obtain rfl:=zr hv
  exact ztK hm hT op (by omega) hb
 simp (maxSteps:=2000000) only [zK,zu,zx,zi,zm,zq,zf,zp,zc,zab,zb,zh,ze,za,zj,ev,evL,gvL,look,zZ,zd,zS,zg,zk,unV,Value.oneCell',cond_true,Nat.reduceEqDiff,↓reduceIte,reduceCtorEq,Nat.zero_add,Bool.and_true,Bool.true_and,true_and,and_true,List.map_nil,zax,GV.bldT,GV.bldC,zn,zY,zbT,zgy]
 cases hmay:zaL T op with
 |false=>
  simp (maxSteps:=2000000) only [Bool.and_true,Bool.not_false,and_true,true_imp_iff,false_imp_iff,Bool.true_eq_false,Bool.false_eq_true]
  exact zbq m rfl (fun _ _ h=>h) ⟨rfl,hT⟩
 |true=>
  simp (maxSteps:=2000000) only [Bool.true_and,Bool.not_true,true_and,true_imp_iff,false_imp_iff,Bool.true_eq_false,Bool.false_eq_true]
  have tail:∀(m2:PH) (L':Lay) (T2:PT) (U:Undo),L' .t=L .t→L' .mk=L .mk→TM m2 L' T2→T2.ids=T.ids→U.ix=T.last+1→U.of.oneCell'=true→T.undo (ptr (L .mk)) op=U→({T2 with ids:=T.ids++[T.last+1]}:PT)=T.does op→
    ∀σ:SS,Ge σ ⟨[(0, .g (.s (.pointer (some ⟨L' .t,0,none⟩)))),(4, .ref 4 []),(6, .ref 6 [])],[(4, .box (zaH zdJ)),(6, .box (zaH U))],[],m2⟩→
    vc ⟨Tryz.prog,109,w,m⟩ zeg (znm ⟨Tryz.prog,109,w,m⟩ [.cell 4 13 true, .tmp 5] fun rs m'=>∃L',L' .t=L .t∧L' .mk=L .mk∧rs=[zaH (T.undo (.pointer (some ⟨L .mk,0,none⟩)) op), .s (.bool true)]∧TM m' L' (T.does op)) σ:=by
   intro m2 L' T2 U hL1 hL2 hT2 hids hix hof hU hdoes σ hσ
   obtain ⟨mi,mt,idsV,hm2,hd,hi,ht⟩:=hT2
   have hidsS:zce ⟨Tryz.prog,109,w,m⟩ [] m2 (L' .t) 3 (.s idsV):=by
    obtain ⟨o,h1,e',rfl⟩:=ht.has .t trivial trivial
    refine zaC (u:=m2) zbY (by rw [hm2];exact (zfg hd h1).1) rfl ?_
    rcases hi.2 with ⟨rfl,_⟩|⟨ad,c,rfl,_⟩<;>rfl
   unfold zeg
   rw [zi]
   refine zbu hσ ?_
   simp (maxSteps:=2000000) only [zeS,zb,zh,ze,za,zbI,zeG,zj,ev,evL,gvL,look,zZ,zd,GV.getT,GV.sz,Nat.reduceEqDiff,↓reduceIte,reduceCtorEq,List.nil_append,Nat.zero_add,Bool.and_true,Bool.true_and,Bool.not_false,true_and,and_true,Option.map_some,zcO,List.length_cons,List.length_nil,zn,zF,zpM,zit]
   refine ⟨zJ _ hidsS rfl ?_,zJ _ hidsS rfl ?_,zJ _ hidsS rfl ?_⟩
   all_goals
    simp (maxSteps:=2000000) only [zb,zh,ze,za,zbI,zj,ev,evL,gvL,look,zZ,zd,zaF,GV.getT,GV.sz,Nat.reduceEqDiff,↓reduceIte,Nat.zero_add,Bool.and_true,Bool.true_and,Bool.not_false,true_and,and_true,Option.map_some,zcO,List.length_cons,List.length_nil,List.drop_zero,List.take_succ_cons,List.take_zero,zF,zit]
    refine znH rfl rfl mi mt (T2.ids.map gi) hi hm2 hd (by simp only [List.length_map,hids,List.length_cons,List.length_nil];omega) fun v' u' hv' hs' hd'=> ?_
    simp (maxSteps:=2000000) only [zb,zh,ze,za,zbI,zj,ev,look,zd,Nat.reduceEqDiff,↓reduceIte,Nat.zero_add]
    refine TreeM.setIds (ids:=T.ids++[T.last+1]) rfl hd' ht (by rw [←hids,←hix,List.map_append];exact hs') fun m3 hT3=> ?_
    simp (maxSteps:=2000000) only [zx,zi,zm,zf,zc,zab,zb,zh,ze,za,zdn,zj,ev,look,zZ,zd,zS,zg,zk,Value.oneCell',cond_true,Nat.reduceEqDiff,↓reduceIte,reduceCtorEq,Bool.and_true,Bool.true_and,true_and,and_true,zn,zY,zbT,ziu,zgy]
    exact zbq (rs:=[zaH U, .s (.bool true)]) _ rfl (fun _ _ h=>h) ⟨L',hL1,hL2,by rw [←hU];rfl,by rw [←hdoes];exact hT3⟩
  refine zJ _ (hT.s_last zbY) rfl ?_
  simp (maxSteps:=2000000) only [za,zj,ev,look,zd,zO,zP,Value.oneCell',cond_true,Nat.reduceEqDiff,↓reduceIte,Nat.zero_add,Bool.true_and,true_and]
  rw [zeA (by omega) (by omega)]
  refine hT.setLast fun m1 hT1=> ?_
  simp (maxSteps:=2000000) only [zi,zB,zm,zbh,zeS,zq,zf,zc,zb,zh,ze,za,zaq,zw,zbI,zeG,zsF,zpf,zhh,zuD,zcJ,zhV,zbg,zlF,ldH,zdp,List.contains_cons,List.contains_nil,Bool.or_false,zX,zj,zaD,ev,evL,gvL,look,zZ,zd,zS,zg,zk,zO,zP,GV.getT,Value.oneCell',cond_true,Nat.reduceEqDiff,↓reduceIte,reduceCtorEq,List.nil_append,Nat.zero_add,Nat.add_zero,Bool.and_true,Bool.true_and,Bool.not_false,BEq.rfl,true_and,and_true,List.map_cons,List.map_nil,Option.map_some,zax,GV.bldT,GV.bldC,zn,zY,zF,zbp,zbn,zbj,zbo,zaW,zpp]
  refine ⟨_,hT1.s_mark zbY,rfl,_,hT1.s_last zbY,rfl, ?_⟩
  simp (maxSteps:=2000000) only [GV.getT,GV.same,Bool.and_true,Bool.true_and,true_and,and_true,zcT,zn,zfs,zbT,zgy,zwO,zit,zwh,zej,zwC,ptr]
  refine ⟨⟨rfl,rfl,rfl⟩,fun k1=> ?_,fun k1=>⟨fun k2=> ?_,fun k2=> ?_⟩⟩
  ·rw [beq_iff_eq]at k1
   have hnone:T.get op.node=none:=by
    rw [zaL,if_pos k1]at hmay
    simp only [Bool.and_eq_true,Bool.not_eq_true',PT.has]at hmay
    exact Option.isNone_iff_eq_none.1 (by rw [←Option.not_isSome,hmay.1.1.2];rfl)
   repeat' (first
    |(refine zJ _ (hT1.s_map zbY) rfl ?_;simp (maxSteps:=2000000) only [zb,zh,ze,za,zbI,zeG,zj,ev,look,zd,GV.getT,Nat.reduceEqDiff,↓reduceIte,Bool.true_and,Bool.not_false,true_and,zF,zaW])
    |(refine zJ _ (hT1.s_map (zlh hdb)) rfl ?_;simp (maxSteps:=2000000) only [zb,zh,ze,za,zbI,zj,ev,look,zd,GV.getT,Nat.reduceEqDiff,↓reduceIte,Bool.true_and,Bool.not_false,true_and,zF,zaW])
    |(refine zaJ rfl rfl (Q:=fun rs m'=>∃b a k,rs=[.s (ptr b)]∧BareM m' b a k) (fun w' vs hv hw _ _=>by obtain rfl:=zr hv;exact zku w') fun rs mb _ hq hdb=> ?_;obtain ⟨b,a,k,rfl,hbm⟩:=hq;simp (maxSteps:=2000000) only [zK,zb,zh,ze,za,zbI,zeG,zj,ev,look,zd,GV.getT,Nat.reduceEqDiff,↓reduceIte,Bool.true_and,Bool.not_false,true_and,zF,zaW,ptr])
    |refine And.intro ?_ ?_)
   all_goals
    refine hT1.mupAdd hbm hdb hnone rfl fun m3 hT3=> ?_
    simp (maxSteps:=2000000) only [zm,zf,zc,zb,zh,ze,za,zdn,zj,ev,evL,gvL,look,zd,zS,zg,zk,GV.getT,GV.same,Nat.reduceEqDiff,↓reduceIte,reduceCtorEq,List.nil_append,Bool.and_true,Bool.true_and,Bool.not_false,true_and,and_true,List.map_cons,List.map_nil,Option.map_some,GV.bldT,GV.bldC,zcT,zn,zF,zbo,zaW,zcn,zcd,zcy,zck,zhb,zjm,zjF,zjK]
    refine ⟨⟨rfl,rfl⟩, ?_⟩
    refine zgL (Q:=fun rs m'=>rs=[]∧TM m' (L.add op.node b a k) ((({T with last:=T.last+1}:PT).add op.node).put op.node ⟨op.parent,op.name⟩)) rfl rfl (fun w' vs hv hw _=> ?_) fun rs m4 _ hq=> ?_
    ·obtain ⟨vs,rfl,_,hv⟩:=zt hv
     obtain ⟨vs,rfl,_,hv⟩:=zt hv
     obtain ⟨vs,rfl,_,hv⟩:=zt hv
     obtain rfl:=zr hv
     exact zpA w' m3 (L.add op.node b a k) _ op.node ⟨op.parent,op.name⟩ PN.bare (by rw [PT.get_add (T:={T with last:=T.last+1}) hnone,if_pos rfl]) hT3
    obtain ⟨rfl,hT4⟩:=hq
    simp (maxSteps:=2000000) only [zK,zf,zT,zc,zb,ze,look,zd,zg,zk,Nat.reduceEqDiff,↓reduceIte,reduceCtorEq]
    refine tail m4 (L.add op.node b a k) _ ⟨ptr (L .mk),T.last+1,op,zgQ,⟨#[]⟩⟩ rfl rfl hT4 ?_ rfl rfl ?_ ?_ _ (zR ?_ ?_ rfl rfl rfl)
    ·rw [ztp];rfl
    ·rw [PT.undo,hnone]
    ·rw [PT.does,PT.acts,if_pos k1]
    ·simp [zaf,look,Lay.add]
    ·simp [zam,look];rfl
  ·rw [beq_eq_false_iff_ne]at k1
   rw [beq_iff_eq]at k2
   obtain ⟨x,hx⟩:∃x,T.get op.node=some x:=by
    rw [zaL,if_neg k1,if_pos k2]at hmay
    simp only [Bool.and_eq_true,PT.has]at hmay
    exact Option.isSome_iff_exists.1 hmay.1.1.1.1
   refine zJ _ (hT1.s_map zbY) rfl ?_
   simp (maxSteps:=2000000) only [zh,za,zM,zU,zw,zX,zj,zaD,ev,look,zd,GV.getT,Nat.reduceEqDiff,↓reduceIte,reduceCtorEq,List.nil_append,Bool.true_and,Bool.not_false,true_and,zn,zF,zbo,zaW]
   refine hT1.lk zbY _ ?_
   rw [show ({T with last:=T.last+1}:PT).get op.node=some x from hx]
   simp (maxSteps:=2000000) only [za,zj,ev,look,zd,↓reduceIte,Nat.add_zero,zcf]
   refine zJ _ (hT1.s_node zbY hx).2.2.2.2 (zjG _) ?_
   simp (maxSteps:=2000000) only [zm,zf,zc,zb,zh,ze,za,zj,ev,evL,gvL,look,zZ,zd,zS,zg,zk,GV.getT,GV.same,Nat.reduceEqDiff,↓reduceIte,reduceCtorEq,List.nil_append,Bool.and_true,Bool.true_and,Bool.not_false,true_and,and_true,List.map_cons,List.map_nil,Option.map_some,GV.bldT,GV.bldC,zcT,zn,zF,zbo,zaW,zcn,zcd,zcy,zck,zbf,zoe,zhb,zjm,zjF,zjK,zpn,zqi,zwm]
   refine ⟨⟨rfl,rfl⟩, ?_⟩
   refine zgL (Q:=fun rs m'=>rs=[]∧TM m' L (({T with last:=T.last+1}:PT).put op.node ⟨op.parent,op.name⟩)) rfl rfl (fun w' vs hv hw _=> ?_) fun rs m4 _ hq=> ?_
   ·obtain ⟨vs,rfl,_,hv⟩:=zt hv
    obtain ⟨vs,rfl,_,hv⟩:=zt hv
    obtain ⟨vs,rfl,_,hv⟩:=zt hv
    obtain rfl:=zr hv
    exact zpA w' m1 L _ op.node ⟨op.parent,op.name⟩ x hx hT1
   obtain ⟨rfl,hT4⟩:=hq
   simp (maxSteps:=2000000) only [zK,zf,zT,zc,zb,ze,look,zd,zg,zk,Nat.reduceEqDiff,↓reduceIte,reduceCtorEq]
   refine tail m4 L _ ⟨ptr (L .mk),T.last+1,op,⟨x.parent,x.name⟩,⟨#[]⟩⟩ rfl rfl hT4 ?_ rfl rfl ?_ ?_ _ (zR ?_ ?_ rfl rfl rfl)
   ·rw [ztp]
   ·rw [PT.undo,hx];simp only;rw [if_neg k1,if_pos k2]
   ·rw [PT.does,PT.acts,if_neg k1,if_pos k2]
   ·simp [zaf,look]
   ·simp [zam,look];rfl
  ·rw [beq_eq_false_iff_ne]at k1 k2
   obtain ⟨x,hx⟩:∃x,T.get op.node=some x:=by
    rw [zaL,if_neg k1,if_neg k2]at hmay
    split at hmay
    ·simp only [Bool.and_eq_true,PT.has]at hmay
     exact Option.isSome_iff_exists.1 hmay.1
    ·cases hmay
   refine zJ _ (hT1.s_map zbY) rfl ?_
   simp (maxSteps:=2000000) only [zw,zX,zj,zaD,ev,look,zd,GV.getT,Nat.reduceEqDiff,↓reduceIte,reduceCtorEq,List.nil_append,Bool.true_and,Bool.not_false,true_and,zn,zF,zbo,zaW]
   refine hT1.lk zbY _ ?_
   rw [show ({T with last:=T.last+1}:PT).get op.node=some x from hx]
   simp (maxSteps:=2000000) only [zw,zX,zj,zaD,ev,look,zd,↓reduceIte,Nat.zero_add,Bool.true_and,true_and,zcf]
   refine zJ _ (hT1.s_node zbY hx).2.2.1 rfl ?_
   simp (maxSteps:=2000000) only [zh,za,zM,zU,zw,zX,zj,zaD,ev,look,zd,GV.getT,Nat.reduceEqDiff,↓reduceIte,reduceCtorEq,List.nil_append,Bool.true_and,Bool.not_false,true_and,zn,zF,zcI,zcD]
   refine hT1.lkA zbY hx ?_
   simp (maxSteps:=2000000) only [zbh,zf,zc,zb,ze,za,zaq,zw,zX,zj,zaD,ev,look,zZ,zd,zS,zg,zk,GV.getT,GV.sz,GV.same,Nat.reduceEqDiff,↓reduceIte,reduceCtorEq,List.nil_append,Nat.add_zero,Bool.and_true,Bool.true_and,true_and,and_true,zn,zqv,zpv,zwF]
   refine zJ _ (hT1.s_map zbY) rfl ?_
   simp (maxSteps:=2000000) only [zw,zX,zj,zaD,ev,look,zd,GV.getT,Nat.reduceEqDiff,↓reduceIte,reduceCtorEq,List.nil_append,Bool.true_and,Bool.not_false,true_and,zn,zF,zbo,zaW]
   refine hT1.lk zbY _ ?_
   rw [show ({T with last:=T.last+1}:PT).get op.node=some x from hx]
   simp (maxSteps:=2000000) only [zh,za,zM,zU,zw,zX,zj,zaD,ev,look,zd,GV.getT,Nat.reduceEqDiff,↓reduceIte,reduceCtorEq,List.nil_append,Bool.true_and,Bool.not_false,true_and,zn,zF,zcI,zcD,zdi,zdj,zcf]
   refine zgL (Q:=fun rs m'=>rs=[]∧TM m' L (({T with last:=T.last+1}:PT).attr op.node op.key op.value)) rfl rfl (fun w' vs hv hw _=> ?_) fun rs m4 _ hq=> ?_
   ·obtain ⟨vs,rfl,_,hv⟩:=zt hv
    obtain ⟨vs,rfl,_,hv⟩:=zt hv
    obtain ⟨vs,rfl,_,hv⟩:=zt hv
    obtain rfl:=zr hv
    exact zrM w' m1 L _ op.node op.key op.value x hx hT1
   obtain ⟨rfl,hT4⟩:=hq
   simp (maxSteps:=2000000) only [zK,zf,zT,zc,zb,ze,look,zd,zg,zk,Nat.reduceEqDiff,↓reduceIte,reduceCtorEq]
   refine tail m4 L _ ⟨ptr (L .mk),T.last+1,op,zgQ,(zbv x.attrs op.key).getD ⟨#[]⟩⟩ rfl rfl hT4 rfl rfl rfl ?_ ?_ _ (zR ?_ ?_ rfl rfl rfl)
   ·rw [PT.undo,hx];simp only;rw [if_neg k1,if_neg k2]
   ·rw [PT.does,PT.acts,if_neg k1,if_neg k2]
   ·simp [zaf,look]
   ·simp [zam,look];rfl
end Go.Proofs.YtmjiojflncffeaaGreat.Vc

set_option linter.unusedVariables false
set_option linter.unusedSimpArgs false
set_option maxRecDepth 100000
namespace Go.Proofs.YtmjiojflncffeaaGreat.Vc
open Go Go.Proofs
theorem zzd {P:Program} {t:TypeId} {fs:Array Field} {f0:Field} {rest:List Field} {tx ty:GV} {e:TypeId} {i:TypeInfo} {a:Addr} (hu:P.underlying t=some (.struct fs)) (hfs:fs.toList=f0::rest) (hn:f0.name≠ "_") (ho:f0.offset=0)
  (h0:P.underlying f0.type=some (.pointer e)) (hi:P.info? f0.type=some i) (hsz:i.size=1) (hst:P.stoodInHeld t=false) (hg:P.eqGuardType P.depth t=false) (okx:(GV.c (.s (.pointer (some a))) tx).ok) (oky:(GV.c (.s (.pointer none)) ty).ok):
  EqG P t (.c (.s (.pointer (some a))) tx) (.c (.s (.pointer none)) ty) false:=by
 have hfs':P.fieldsOf t=fs:=by simp [Program.fieldsOf,hu]
 have h:∀w,(Op.equalIn 10000 t (GV.c (.s (.pointer (some a))) tx).val (GV.c (.s (.pointer none)) ty).val).run P w= .ok false w:=fun w=>by
  show (Op.equalIn (9999+1) t _ _).run P w=_
  rw [zfO (fun v=>by simp),zfO (fun v=>by simp),run_equalIn_struct w 9999 t _ _ (by rw [hfs'];exact hu) hst,hfs',hfs]
  have p1:=zfj (P:=P) h0 hi (p:=[0]) (y:= .s (.pointer (some a))) okx rfl (by rw [hsz];rfl) w
  have p2:=zfj (P:=P) h0 hi (p:=[0]) (y:= .s (.pointer none)) oky rfl (by rw [hsz];rfl) w
  have o1:(GV.c (.s (.pointer (some a))) tx).offs [0]=0:=rfl
  have o2:(GV.c (.s (.pointer none)) ty).offs [0]=0:=rfl
  rw [o1,←ho]at p1;rw [o2,←ho]at p2
  have p3:=zlw (P:=P) 9998 h0 a w
  simp only [Op.eqFields,hn,ne_eq,not_false_eq_true,if_true,Sem.run_bind,p1,p2,Result.andThen_ok,GV.val]
  rw [p3]
  rfl
 intro b c w
 have hw:=h w
 rw [zfO (fun v=>by simp),zfO (fun v=>by simp)]at hw ⊢
 constructor
 ·rw [Sem.run_bind,run_eqGuard_agg w _ _ _ _ _ _ hg,Result.andThen_ok,run_eql_struct w,hw];rfl
 ·rw [Sem.run_bind,run_eqGuard_agg w _ _ _ _ _ _ hg,Result.andThen_ok,run_neq_struct w,hw];rfl
theorem zAR {P:Program} {t e:TypeId} {i:TypeInfo} (ht:P.underlying t=some (.pointer e)) (hi:P.info? e=some i) (hz:i.size≠0) (a:Addr):EqG P t (.s (.pointer (some a))) (.s (.pointer (some a))) true:=by
 have h1:∀w,(sameAddr a a).run P w= .ok true w:=fun w=>by
  unfold sameAddr
  simp [Sem.run_bind]
 have h0:∀d w,(Op.equalIn (d+1) t (.pointer (some a)) (.pointer (some a))).run P w= .ok true w:=fun d w=>by
  unfold Op.equalIn
  simp only [Sem.run_bind,zo ht,Result.andThen_ok,zW hi,ne_eq,hz,not_false_eq_true,if_true,h1]
 have h:∀w,(Op.equal t (.pointer (some a)) (.pointer (some a))).run P w= .ok true w:=fun w=>h0 9999 w
 intro x y w
 exact ⟨by simp [eqGuard,binOp,Sem.run_bind,GV.val,h],by simp [eqGuard,binOp,Sem.run_bind,GV.val,h]⟩
def PT.undone (T:PT) (u:Undo):PT:=
 let T1:PT:={T with ids:=T.ids.dropLast}
 if u.op.kind=1 then (T1.unkid u.op.parent u.op.node).del u.op.node
 else if u.op.kind=2 then T1.put u.op.node u.was
 else T1.attr u.op.node u.op.key u.attr
theorem SlO.take {u:PH} {ad:Option Addr} {n c z:Nat} {e:TypeId} {xs:List GV} (h:SlO u (.slice ad n c) e z xs) (hn:n=xs.length) {k:Nat} (hk:k≤n) {ad':Option Addr} (ha:ad'=ad):SlO u (.slice ad' k c) e z (xs.take k):=by
 subst ha
 obtain ⟨hels,⟨h1,rfl⟩|⟨a,c',h1,h2,h3⟩⟩:=h
 ·simp only [Value.slice.injEq]at h1
  obtain ⟨rfl,rfl,rfl⟩:=h1
  obtain rfl:k=0:=by omega
  exact ⟨fun x hx=>by simp at hx, .inl ⟨rfl,by simp⟩⟩
 ·simp only [Value.slice.injEq]at h1
  obtain ⟨rfl,_,rfl⟩:=h1
  refine ⟨fun x hx=>hels x (List.mem_of_mem_take hx), .inr ⟨a,c,by rw [List.length_take,Nat.min_eq_left (by omega)],by rw [List.length_take];omega,fun hc=> ?_⟩⟩
  obtain ⟨cs,g1,g2,g3,g4⟩:=h3 hc
  exact ⟨cs,g1,g2,g3,fun j v hj=>g4 j v (zwe hels k hj)⟩
theorem zyK (w:World) (m:PH) (L:Lay) (T:PT) (u:Undo) (hof:u.of= .pointer (some ⟨L .mk,0,none⟩)) (hT:TM m L T) (hil:T.ids.length<1099511627776)
  (hsafe:T.ids.getLast? =some u.ix→(u.op.kind=1→∃x,T.get u.op.parent=some x)∧(u.op.kind≠1→∃x,T.get u.op.node=some x)):
  Spec Tryz.prog zeZ [ptr (L .t),(zaH u).val] m w fun rs m'=>
   (T.ids.getLast? =some u.ix→rs=[.s (.int .i64 0)]∧TM m' L (T.undone u))∧(T.ids.getLast? ≠some u.ix→rs=[.s (.int .i64 120)]∧TM m' L T):=by
 have hok:(zaH u).ok:=zlN u (by rw [hof];rfl)
 refine zbb zhD [.g (.s (ptr (L .t))), .g (zaH u)] (by simp) (by simp [AV.ok,GV.ok,Value.oneCell',ptr,hok]) ?_
 simp (maxSteps:=2000000) only [zeQ,zi,zm,zf,zc,zb,zh,ze,za,zj,ev,look,zZ,zd,zg,zk,Value.oneCell',cond_true,Nat.reduceEqDiff,↓reduceIte,reduceCtorEq,Nat.zero_add,Bool.true_and,true_and,zak,zaK,ne_eq,zaU,zcx,zcL,zee,ptr]
 refine zaM _ [.s (.bool false)] rfl rfl (fun w' vs hv _ _ hm=> ?_) ?_
 ·obtain ⟨vs,rfl,_,hv⟩:=zt hv
  obtain rfl:=zr hv
  exact zka hm hT
 simp (maxSteps:=2000000) only [zK,zu,zi,zm,zq,zf,zc,zb,zh,ze,za,zj,ev,evL,gvL,look,zd,zg,zk,Nat.reduceEqDiff,↓reduceIte,reduceCtorEq,Bool.true_and,true_and,List.map_nil,↓zN,GV.bldT,GV.bldC,zn,ziu]
 have hne:EqG Tryz.prog 71 (zaH u) (zaH zdJ) false:=by
  obtain ⟨of,ix,op,was,attr⟩:=u
  subst hof
  exact zzd (fs:=Tryz.prog.fieldsOf 71) (f0:=(Tryz.prog.fieldsOf 71)[0]!) (rest:=(Tryz.prog.fieldsOf 71).toList.tail) (i:=(Tryz.prog.info? 67).get!) (e:=139) (by kernel_rfl) (by kernel_rfl) (by decide+kernel) (by kernel_rfl) (by kernel_rfl) (by kernel_rfl) (by kernel_rfl) (by kernel_rfl) (by kernel_rfl) hok (zlN zdJ rfl)
 refine zcH hne ?_
 simp (maxSteps:=2000000) only [zu,zi,zm,zq,zf,zc,zb,zh,ze,za,zj,ev,look,zd,zg,zk,Nat.reduceEqDiff,↓reduceIte,reduceCtorEq,Nat.zero_add,↓zN,Bool.bne_false]
 obtain ⟨mi,mt,idsV,hm2,hd,hi,ht⟩:=id hT
 have hidsS:∀{ph:List PH},zce ⟨Tryz.prog,98,w,m⟩ ph m (L .t) 3 (.s idsV):=by
  intro ph
  obtain ⟨o,h1,e',rfl⟩:=ht.has .t trivial trivial
  refine zaC (u:=m) zbY (by rw [hm2];exact (zfg hd h1).1) rfl ?_
  rcases hi.2 with ⟨rfl,_⟩|⟨ad,c,rfl,_⟩<;>rfl
 refine zJ _ hidsS rfl ?_
 have hshape:∃a c,idsV= .slice a T.ids.length c∧∀d,d<T.ids.length→∃b o,a=some ⟨b,o,none⟩∧zce ⟨Tryz.prog,98,w,m⟩ [] m b (o+d*1) (gi (T.ids.getD d 0)):=by
  have hkn:KN (⟨Tryz.prog,98,w,m⟩:Ctx).u0 [m] mi:=fun b o h=> .inr ⟨m,by simp,by rw [hm2];exact zV mi mt b o h⟩
  rcases hi.toR.shape with ⟨h3,a,c,h4⟩|⟨h3,b,o,c,h4,h5,h6⟩
  ·have:T.ids=[]:=by simpa using h3
   exact ⟨a,c,by rw [h4,this];rfl,fun d hd=>by rw [this]at hd;simp at hd⟩
  ·refine ⟨_,c,by simpa using h4,fun d hd=>⟨b,o,rfl,h6 hkn d _ ?_⟩⟩
   rw [List.getElem?_map,List.getD_eq_getElem?_getD,List.getElem?_eq_getElem hd];rfl
 obtain ⟨a,c,rfl,hs⟩:=hshape
 simp (maxSteps:=2000000) only [zi,zbh,zf,zc,zb,ze,za,zaq,zw,zX,zj,zaD,ev,look,zd,zg,zk,zO,zP,GV.getT,Value.oneCell',cond_true,Nat.reduceEqDiff,↓reduceIte,reduceCtorEq,List.nil_append,Nat.zero_add,Bool.true_and,Bool.not_false,true_and,zn,zF,zwd,zpp]
 rw [zeA (by omega) (by omega)]
 refine zJ _ (hT.s_mark zbY) rfl ?_
 simp (maxSteps:=2000000) only [zw,zX,zj,zaD,ev,look,zd,Nat.reduceEqDiff,↓reduceIte,Bool.true_and,true_and,ptr]
 rw [hof]
 refine zcH (zAR (i:=(Tryz.prog.info? 139).get!) Tryz.underlying67 (by kernel_rfl) (by decide+kernel) _) ?_
 simp (maxSteps:=2000000) only [zx,zi,zm,zq,zf,zp,zc,zab,zb,zh,zH,ze,za,zM,zaq,zcA,zU,zw,zX,zj,zaD,RO.isGh,zI,zar,ev,look,zd,zg,zk,zO,zP,Value.oneCell',cond_true,cond_false,Nat.reduceEqDiff,↓reduceIte,reduceCtorEq,Nat.zero_add,Bool.true_and,Bool.not_true,Bool.not_false,true_and,decide_eq_true_eq,decide_eq_false_iff_not,↓zL,↓zbi,↓zbW,↓zN,zdE,Bool.bne_true]
 have hlast:∀n,T.ids.length=n+1→T.ids.getLast? =some (T.ids.getD n 0):=fun n hn=>by
  rw [List.getLast?_eq_getElem?,hn,Nat.add_sub_cancel,List.getD_eq_getElem?_getD,List.getElem?_eq_getElem (by omega)];rfl
 refine ⟨fun hge=> ?_,fun hlt=> ?_⟩
 ·obtain ⟨n,hn⟩:∃n,T.ids.length=n+1:=⟨T.ids.length - 1,by omega⟩
  refine zJ _ hidsS rfl ?_
  obtain ⟨b,o,rfl,hsn⟩:=hs n (by omega)
  simp (maxSteps:=2000000) only [zw,zX,zj,zaD,ev,look,zd,Nat.reduceEqDiff,↓reduceIte,reduceCtorEq,Bool.true_and,true_and]
  have en:((T.ids.length:Int) - 1).toNat=n:=by omega
  rw [en]
  refine ⟨⟨by omega,by omega⟩,zJ _ hsn rfl ?_⟩
  simp (maxSteps:=2000000) only [gi,bne_iff_ne,bne_eq_false_iff_eq,zu,zx,zi,zm,zq,zf,zp,zc,zab,zb,zh,zH,ze,za,zM,zU,zw,zX,zj,zaD,ev,look,zd,zg,zk,zO,zP,GV.getT,Value.oneCell',cond_true,Nat.reduceEqDiff,↓reduceIte,reduceCtorEq,List.nil_append,Nat.zero_add,Bool.true_and,Bool.not_false,true_and,ne_eq,↓zbi,↓zN,zax,zn,zF,zpM,zit]
  rw [hlast n hn]
  refine ⟨fun hne'=> ?_,fun heq=> ?_⟩
  ·exact zbq m rfl (fun _ _ h=>h) ⟨fun h=>absurd (by simpa using h) hne',fun _=>⟨rfl,hT⟩⟩
  rw [heq]
  obtain ⟨hs1,hs2⟩:=hsafe (by rw [hlast n hn,heq])
  refine zJ _ hidsS rfl ?_
  simp (maxSteps:=2000000) only [ite_self,Nat.sub_zero,za,zj,ev,look,zd,zdA,Nat.reduceEqDiff,Nat.reduceMul,↓reduceIte,reduceCtorEq,Nat.zero_add,Nat.add_zero,Bool.and_true,and_true,true_imp_iff,false_imp_iff,Int.toNat_natCast,not_true_eq_false]
  rw [en]
  have hcap:T.ids.length≤c:=by
   rcases hi.2 with ⟨h1,h2⟩|⟨ad,c',h1,h2,_⟩
   ·cases h1
   ·simp only [Value.slice.injEq]at h1
    rw [←h1.2.2,List.length_map]at h2;exact h2
  have hdrop:T.ids.dropLast=T.ids.take n:=by rw [List.dropLast_eq_take,hn,Nat.add_sub_cancel]
  have hi2:SlO mi (.slice (some ⟨b,o,none⟩) n c) 3 1 (T.ids.dropLast.map gi):=by
   rw [hdrop,List.map_take]
   exact hi.take (by simp) (by omega) rfl
  refine ⟨⟨hcap,by omega,by omega,by omega⟩,TreeM.setIds (ids:=T.ids.dropLast) hm2 hd ht hi2 fun m2 hT2=> ?_⟩
  simp (maxSteps:=2000000) only [zi,zB,zm,zbh,zq,zf,zc,zb,zh,ze,za,zaq,zw,zX,zj,zaD,ev,look,zd,zS,zg,zk,zO,zP,GV.getT,Value.oneCell',cond_true,Nat.reduceEqDiff,↓reduceIte,reduceCtorEq,List.nil_append,List.cons_append,Nat.add_zero,Bool.true_and,Bool.not_false,true_and,zax,zn,zF,zbn,zbj,zbo,zaW,zjG,zfa,zej,zpn,zqi]
  refine ⟨fun k1=> ?_,fun k1=>⟨fun k2=> ?_,fun k2=> ?_⟩⟩
  ·rw [beq_iff_eq]at k1
   obtain ⟨x,hx⟩:=hs1 k1
   refine zJ _ (hT2.s_map zbY) rfl ?_
   simp (maxSteps:=2000000) only [zw,zX,zj,zaD,ev,look,zd,GV.getT,Nat.reduceEqDiff,↓reduceIte,reduceCtorEq,List.nil_append,List.cons_append,Bool.true_and,Bool.not_false,true_and,zn,zF,zcn,zcd,zfa,zej]
   refine hT2.lk zbY _ ?_
   rw [show ({T with ids:=T.ids.dropLast}:PT).get u.op.parent=some x from hx]
   simp (maxSteps:=2000000) only [zw,zX,zj,zaD,ev,look,zd,↓reduceIte,Nat.zero_add,Bool.true_and,true_and,zcf]
   refine zJ _ (hT2.s_node zbY hx).2.2.2.1 rfl ?_
   simp (maxSteps:=2000000) only [zh,za,zM,zU,zw,zX,zj,zaD,ev,look,zd,GV.getT,Nat.reduceEqDiff,↓reduceIte,reduceCtorEq,List.nil_append,List.cons_append,Bool.true_and,Bool.not_false,true_and,zn,zF,zbo,zaW,zfa,zej]
   refine TreeM.unkid (T:={T with ids:=T.ids.dropLast}) hT2 hx fun m3 hT3=> ?_
   simp (maxSteps:=2000000) only [zbh,zf,zc,zb,ze,zaq,zw,zX,zj,zaD,ev,look,zd,zS,zg,zk,Nat.reduceEqDiff,↓reduceIte,reduceCtorEq,Nat.add_zero,Bool.true_and,true_and]
   refine zJ _ (hT3.s_map zbY) rfl ?_
   simp (maxSteps:=2000000) only [zh,za,zM,zU,zw,zX,zj,zaD,ev,look,zd,GV.getT,Nat.reduceEqDiff,↓reduceIte,reduceCtorEq,List.nil_append,List.cons_append,Bool.true_and,Bool.not_false,true_and,zn,zF,zbo,zaW,zfa,zej]
   refine hT3.delNode fun m4 hT4=> ?_
   simp (maxSteps:=2000000) only [zx,zi,zm,zf,zT,zc,zab,zb,zh,ze,za,zj,ev,look,zd,zS,zg,zk,Value.oneCell',cond_true,↓reduceIte]
   refine zbq _ rfl (fun _ _ h=>h) ⟨rfl, ?_⟩
   rw [PT.undone];simp only;rw [if_pos k1];exact hT4
  ·rw [beq_eq_false_iff_ne]at k1
   rw [beq_iff_eq]at k2
   obtain ⟨x,hx⟩:=hs2 k1
   refine zgL (Q:=fun rs m'=>rs=[]∧TM m' L (({T with ids:=T.ids.dropLast}:PT).put u.op.node u.was)) rfl rfl (fun w' vs hv hw _=> ?_) fun rs m4 _ hq=> ?_
   ·obtain ⟨vs,rfl,_,hv⟩:=zt hv
    obtain ⟨vs,rfl,_,hv⟩:=zt hv
    obtain ⟨vs,rfl,_,hv⟩:=zt hv
    obtain rfl:=zr hv
    exact zpA w' m2 L _ u.op.node u.was x hx hT2
   obtain ⟨rfl,hT4⟩:=hq
   simp (maxSteps:=2000000) only [zK,zx,zi,zm,zf,zT,zc,zab,zb,zh,ze,za,zj,ev,look,zd,zg,zk,Value.oneCell',cond_true,↓reduceIte]
   refine zbq _ rfl (fun _ _ h=>h) ⟨rfl, ?_⟩
   rw [PT.undone];simp only;rw [if_neg k1,if_pos k2];exact hT4
  ·rw [beq_eq_false_iff_ne]at k1 k2
   obtain ⟨x,hx⟩:=hs2 k1
   refine zJ _ (hT2.s_map zbY) rfl ?_
   simp (maxSteps:=2000000) only [zw,zX,zj,zaD,ev,look,zd,GV.getT,Nat.reduceEqDiff,↓reduceIte,reduceCtorEq,List.nil_append,List.cons_append,Bool.true_and,Bool.not_false,true_and,zn,zF,zbo,zaW,zfa,zej]
   refine hT2.lk zbY _ ?_
   rw [show ({T with ids:=T.ids.dropLast}:PT).get u.op.node=some x from hx]
   simp (maxSteps:=2000000) only [zh,za,zM,zU,zw,zX,zj,zaD,ev,look,zd,GV.getT,Nat.reduceEqDiff,↓reduceIte,reduceCtorEq,List.nil_append,List.cons_append,Bool.true_and,Bool.not_false,true_and,zn,zF,zcI,zcD,zfa,zej,zqv,zpv,zcf]
   refine zgL (Q:=fun rs m'=>rs=[]∧TM m' L (({T with ids:=T.ids.dropLast}:PT).attr u.op.node u.op.key u.attr)) rfl rfl (fun w' vs hv hw _=> ?_) fun rs m4 _ hq=> ?_
   ·obtain ⟨vs,rfl,_,hv⟩:=zt hv
    obtain ⟨vs,rfl,_,hv⟩:=zt hv
    obtain ⟨vs,rfl,_,hv⟩:=zt hv
    obtain rfl:=zr hv
    exact zrM w' m2 L _ u.op.node u.op.key u.attr x hx hT2
   obtain ⟨rfl,hT4⟩:=hq
   simp (maxSteps:=2000000) only [zK,zx,zi,zm,zf,zT,zc,zab,zb,zh,ze,za,zj,ev,look,zd,zg,zk,Value.oneCell',cond_true,↓reduceIte]
   refine zbq _ rfl (fun _ _ h=>h) ⟨rfl, ?_⟩
   rw [PT.undone];simp only;rw [if_neg k1,if_neg k2];exact hT4
 ·have:T.ids=[]:=List.length_eq_zero_iff.1 (by omega)
  refine zbq m rfl (fun _ _ h=>h) ⟨fun h=> ?_,fun _=>⟨rfl,hT⟩⟩
  rw [this]at h;cases h
end Go.Proofs.YtmjiojflncffeaaGreat.Vc

namespace Go.Proofs
open Go.Shelf
def Tryz.keysI_ren:Go.Shelf.Ren:=⟨fun|7=>58|10=>94|n=>n,fun|23=>114|26=>2|3=>115|28=>112|0=>0|27=>111|33=>106|4=>4|n=>n,fun|n=>n⟩
theorem Tryz.keysI:Go.Proofs.SlLaysZI.n7 Tryz.prog Tryz.keysI_ren:={
 mixed:=by kernel_rfl
 f7:=⟨Tryz.f58.name,by decide,Tryz.func58.trans (congrArg some (by kernel_rfl))⟩
 f10:=⟨Tryz.f94.name,by decide,Tryz.func94.trans (congrArg some (by kernel_rfl))⟩
 t0:=Tryz.underlying0
 a0:=Tryz.isAgg0
 z0:=Tryz.sizeOf0
 v0:=Tryz.zeroValue0
 t4:=Tryz.underlying4
 a4:=Tryz.isAgg4
 z4:=Tryz.sizeOf4
 v4:=Tryz.zeroValue4
 t23:=Tryz.underlying114
 a23:=Tryz.isAgg114
 z23:=Tryz.sizeOf114
 v23:=Tryz.zeroValue114
 t26:=Tryz.underlying2
 a26:=Tryz.isAgg2
 z26:=Tryz.sizeOf2
 v26:=Tryz.zeroValue2
 t27:=Tryz.underlying111
 a27:=Tryz.isAgg111
 z27:=Tryz.sizeOf111
 v27:=Tryz.zeroValue111
 t28:=Tryz.underlying112
 a28:=Tryz.isAgg112
 z28:=Tryz.sizeOf112
 v28:=Tryz.zeroValue112
 t33:=Tryz.underlying106
 a33:=Tryz.isAgg106
 z33:=Tryz.sizeOf106
 v33:=Tryz.zeroValue106}
def Tryz.sortedI_ren:Go.Shelf.Ren:=⟨fun|6=>57|8=>92|9=>93|11=>130|13=>76|12=>131|23=>116|24=>117|14=>147|15=>148|16=>149|17=>150|18=>151|19=>152|20=>153|21=>154|22=>155|25=>162|26=>139|27=>140|28=>163|29=>164|30=>118|31=>178|n=>n,fun|26=>2|28=>112|24=>109|0=>0|3=>3|37=>142|48=>178|50=>180|4=>4|40=>172|39=>171|45=>94|5=>5|9=>9|51=>191|55=>195|57=>207|58=>208|33=>106|n=>n,fun|n=>n⟩
theorem Tryz.sortedI:Go.Proofs.SlLaysZI.n6 Tryz.prog Tryz.sortedI_ren:={
 mixed:=by kernel_rfl
 f6:=⟨Tryz.f57.name,by decide,Tryz.func57.trans (congrArg some (by kernel_rfl))⟩
 f8:=⟨Tryz.f92.name,by decide,Tryz.func92.trans (congrArg some (by kernel_rfl))⟩
 f11:=⟨Tryz.f130.name,by decide,Tryz.func130.trans (congrArg some (by kernel_rfl))⟩
 t0:=Tryz.underlying0
 a0:=Tryz.isAgg0
 z0:=Tryz.sizeOf0
 v0:=Tryz.zeroValue0
 t24:=Tryz.underlying109
 a24:=Tryz.isAgg109
 z24:=Tryz.sizeOf109
 v24:=Tryz.zeroValue109
 t26:=Tryz.underlying2
 a26:=Tryz.isAgg2
 z26:=Tryz.sizeOf2
 v26:=Tryz.zeroValue2
 t28:=Tryz.underlying112
 a28:=Tryz.isAgg112
 z28:=Tryz.sizeOf112
 v28:=Tryz.zeroValue112
 i26:=by kernel_rfl}
def Tryz.sortI_ren:Go.Shelf.Ren:=⟨fun|5=>93|8=>76|7=>131|19=>116|20=>117|10=>147|11=>148|12=>149|13=>150|14=>151|15=>152|16=>153|17=>154|18=>155|30=>162|31=>139|32=>140|33=>163|34=>164|35=>118|40=>178|n=>n,fun|23=>109|25=>2|3=>3|32=>142|22=>109|0=>0|44=>178|46=>180|4=>4|36=>172|35=>171|41=>94|5=>5|9=>9|53=>191|57=>195|63=>207|64=>208|n=>n,fun|n=>n⟩
theorem Tryz.sortI:Go.Proofs.SlLaysM.n5 Tryz.prog Tryz.sortI_ren:={
 mixed:=by kernel_rfl
 f5:=⟨Tryz.f93.name,by decide,Tryz.func93.trans (congrArg some (by kernel_rfl))⟩
 f7:=⟨Tryz.f131.name,by decide,Tryz.func131.trans (congrArg some (by kernel_rfl))⟩
 f8:=Tryz.func76.trans (congrArg some (by kernel_rfl))
 f10:=⟨Tryz.f147.name,by decide,Tryz.func147.trans (congrArg some (by kernel_rfl))⟩
 f11:=⟨Tryz.f148.name,by decide,Tryz.func148.trans (congrArg some (by kernel_rfl))⟩
 f12:=⟨Tryz.f149.name,by decide,Tryz.func149.trans (congrArg some (by kernel_rfl))⟩
 f13:=⟨Tryz.f150.name,by decide,Tryz.func150.trans (congrArg some (by kernel_rfl))⟩
 f14:=⟨Tryz.f151.name,by decide,Tryz.func151.trans (congrArg some (by kernel_rfl))⟩
 f15:=⟨Tryz.f152.name,by decide,Tryz.func152.trans (congrArg some (by kernel_rfl))⟩
 f16:=⟨Tryz.f153.name,by decide,Tryz.func153.trans (congrArg some (by kernel_rfl))⟩
 f17:=⟨Tryz.f154.name,by decide,Tryz.func154.trans (congrArg some (by kernel_rfl))⟩
 f18:=⟨Tryz.f155.name,by decide,Tryz.func155.trans (congrArg some (by kernel_rfl))⟩
 f19:=Tryz.func116.trans (congrArg some (by kernel_rfl))
 f20:=Tryz.func117.trans (congrArg some (by kernel_rfl))
 f30:=⟨Tryz.f162.name,by decide,Tryz.func162.trans (congrArg some (by kernel_rfl))⟩
 f31:=Tryz.func139.trans (congrArg some (by kernel_rfl))
 f32:=Tryz.func140.trans (congrArg some (by kernel_rfl))
 f33:=⟨Tryz.f163.name,by decide,Tryz.func163.trans (congrArg some (by kernel_rfl))⟩
 f34:=⟨Tryz.f164.name,by decide,Tryz.func164.trans (congrArg some (by kernel_rfl))⟩
 f35:=⟨Tryz.f118.name,by decide,Tryz.func118.trans (congrArg some (by kernel_rfl))⟩
 f40:=⟨Tryz.f178.name,by decide,Tryz.func178.trans (congrArg some (by kernel_rfl))⟩
 t0:=Tryz.underlying0
 a0:=Tryz.isAgg0
 z0:=Tryz.sizeOf0
 v0:=Tryz.zeroValue0
 t3:=Tryz.underlying3
 a3:=Tryz.isAgg3
 z3:=Tryz.sizeOf3
 v3:=Tryz.zeroValue3
 t4:=Tryz.underlying4
 a4:=Tryz.isAgg4
 z4:=Tryz.sizeOf4
 v4:=Tryz.zeroValue4
 t5:=Tryz.underlying5
 a5:=Tryz.isAgg5
 z5:=Tryz.sizeOf5
 v5:=Tryz.zeroValue5
 t9:=Tryz.underlying9
 a9:=Tryz.isAgg9
 z9:=Tryz.sizeOf9
 v9:=Tryz.zeroValue9
 t22:=Tryz.underlying109
 a22:=Tryz.isAgg109
 z22:=Tryz.sizeOf109
 v22:=Tryz.zeroValue109
 t23:=Tryz.underlying109
 a23:=Tryz.isAgg109
 z23:=Tryz.sizeOf109
 v23:=Tryz.zeroValue109
 t25:=Tryz.underlying2
 a25:=Tryz.isAgg2
 z25:=Tryz.sizeOf2
 v25:=Tryz.zeroValue2
 t32:=Tryz.underlying142
 a32:=Tryz.isAgg142
 z32:=Tryz.sizeOf142
 v32:=Tryz.zeroValue142
 t35:=Tryz.underlying171
 a35:=Tryz.isAgg171
 z35:=Tryz.sizeOf171
 v35:=Tryz.zeroValue171
 t36:=Tryz.underlying172
 a36:=Tryz.isAgg172
 z36:=Tryz.sizeOf172
 v36:=Tryz.zeroValue172
 t41:=Tryz.underlying94
 a41:=Tryz.isAgg94
 z41:=Tryz.sizeOf94
 v41:=Tryz.zeroValue94
 t44:=Tryz.underlying178
 a44:=Tryz.isAgg178
 z44:=Tryz.sizeOf178
 v44:=Tryz.zeroValue178
 t46:=Tryz.underlying180
 a46:=Tryz.isAgg180
 z46:=Tryz.sizeOf180
 v46:=Tryz.zeroValue180
 t53:=Tryz.underlying191
 a53:=Tryz.isAgg191
 z53:=Tryz.sizeOf191
 v53:=Tryz.zeroValue191
 t57:=Tryz.underlying195
 a57:=Tryz.isAgg195
 z57:=Tryz.sizeOf195
 v57:=Tryz.zeroValue195
 t63:=Tryz.underlying207
 a63:=Tryz.isAgg207
 z63:=Tryz.sizeOf207
 v63:=Tryz.zeroValue207
 t64:=Tryz.underlying208
 a64:=Tryz.isAgg208
 z64:=Tryz.sizeOf208
 v64:=Tryz.zeroValue208}
def Tryz.keysT_ren:Go.Shelf.Ren:=⟨fun|7=>96|10=>134|n=>n,fun|23=>129|26=>9|3=>9|28=>158|0=>0|27=>157|33=>151|4=>4|n=>n,fun|n=>n⟩
theorem Tryz.keysT:Go.Proofs.SlLaysZ.n7 Tryz.prog Tryz.keysT_ren:={
 mixed:=by kernel_rfl
 f7:=⟨Tryz.f96.name,by decide,Tryz.func96.trans (congrArg some (by kernel_rfl))⟩
 f10:=⟨Tryz.f134.name,by decide,Tryz.func134.trans (congrArg some (by kernel_rfl))⟩
 t0:=Tryz.underlying0
 a0:=Tryz.isAgg0
 z0:=Tryz.sizeOf0
 v0:=Tryz.zeroValue0
 t4:=Tryz.underlying4
 a4:=Tryz.isAgg4
 z4:=Tryz.sizeOf4
 v4:=Tryz.zeroValue4
 t23:=Tryz.underlying129
 a23:=Tryz.isAgg129
 z23:=Tryz.sizeOf129
 v23:=Tryz.zeroValue129
 t26:=Tryz.underlying9
 a26:=Tryz.isAgg9
 z26:=Tryz.sizeOf9
 v26:=Tryz.zeroValue9
 t27:=Tryz.underlying157
 a27:=Tryz.isAgg157
 z27:=Tryz.sizeOf157
 v27:=Tryz.zeroValue157
 t28:=Tryz.underlying158
 a28:=Tryz.isAgg158
 z28:=Tryz.sizeOf158
 v28:=Tryz.zeroValue158
 t33:=Tryz.underlying151
 a33:=Tryz.isAgg151
 z33:=Tryz.sizeOf151
 v33:=Tryz.zeroValue151}
def Tryz.sortedT_ren:Go.Shelf.Ren:=⟨fun|6=>95|8=>132|9=>133|11=>156|13=>76|12=>157|23=>116|24=>117|14=>165|15=>166|16=>167|17=>168|18=>169|19=>170|20=>171|21=>172|22=>173|25=>179|26=>139|27=>140|28=>180|29=>181|30=>182|31=>185|n=>n,fun|26=>9|28=>158|24=>155|0=>0|3=>3|37=>142|48=>178|50=>180|4=>4|40=>172|39=>171|45=>94|5=>5|9=>9|51=>191|55=>195|57=>207|58=>208|33=>151|n=>n,fun|n=>n⟩
theorem Tryz.sortedT:Go.Proofs.SlLaysZ.n6 Tryz.prog Tryz.sortedT_ren:={
 mixed:=by kernel_rfl
 f6:=⟨Tryz.f95.name,by decide,Tryz.func95.trans (congrArg some (by kernel_rfl))⟩
 f8:=⟨Tryz.f132.name,by decide,Tryz.func132.trans (congrArg some (by kernel_rfl))⟩
 f11:=⟨Tryz.f156.name,by decide,Tryz.func156.trans (congrArg some (by kernel_rfl))⟩
 t0:=Tryz.underlying0
 a0:=Tryz.isAgg0
 z0:=Tryz.sizeOf0
 v0:=Tryz.zeroValue0
 t24:=Tryz.underlying155
 a24:=Tryz.isAgg155
 z24:=Tryz.sizeOf155
 v24:=Tryz.zeroValue155
 t26:=Tryz.underlying9
 a26:=Tryz.isAgg9
 z26:=Tryz.sizeOf9
 v26:=Tryz.zeroValue9
 t28:=Tryz.underlying158
 a28:=Tryz.isAgg158
 z28:=Tryz.sizeOf158
 v28:=Tryz.zeroValue158
 i26:=by kernel_rfl}
def Tryz.sortT_ren:Go.Shelf.Ren:=⟨fun|6=>133|8=>76|9=>157|19=>116|20=>117|21=>165|22=>166|23=>167|24=>168|25=>169|26=>170|27=>171|28=>172|29=>173|36=>179|31=>139|32=>140|37=>180|38=>181|39=>182|41=>185|n=>n,fun|27=>155|29=>9|3=>3|32=>142|26=>155|0=>0|44=>178|46=>180|4=>4|36=>172|35=>171|41=>94|5=>5|9=>9|53=>191|57=>195|63=>207|64=>208|n=>n,fun|n=>n⟩
theorem Tryz.sortT:Go.Proofs.SlLaysM.n6 Tryz.prog Tryz.sortT_ren:={
 mixed:=by kernel_rfl
 f6:=⟨Tryz.f133.name,by decide,Tryz.func133.trans (congrArg some (by kernel_rfl))⟩
 f8:=Tryz.func76.trans (congrArg some (by kernel_rfl))
 f9:=⟨Tryz.f157.name,by decide,Tryz.func157.trans (congrArg some (by kernel_rfl))⟩
 f19:=Tryz.func116.trans (congrArg some (by kernel_rfl))
 f20:=Tryz.func117.trans (congrArg some (by kernel_rfl))
 f21:=⟨Tryz.f165.name,by decide,Tryz.func165.trans (congrArg some (by kernel_rfl))⟩
 f22:=⟨Tryz.f166.name,by decide,Tryz.func166.trans (congrArg some (by kernel_rfl))⟩
 f23:=⟨Tryz.f167.name,by decide,Tryz.func167.trans (congrArg some (by kernel_rfl))⟩
 f24:=⟨Tryz.f168.name,by decide,Tryz.func168.trans (congrArg some (by kernel_rfl))⟩
 f25:=⟨Tryz.f169.name,by decide,Tryz.func169.trans (congrArg some (by kernel_rfl))⟩
 f26:=⟨Tryz.f170.name,by decide,Tryz.func170.trans (congrArg some (by kernel_rfl))⟩
 f27:=⟨Tryz.f171.name,by decide,Tryz.func171.trans (congrArg some (by kernel_rfl))⟩
 f28:=⟨Tryz.f172.name,by decide,Tryz.func172.trans (congrArg some (by kernel_rfl))⟩
 f29:=⟨Tryz.f173.name,by decide,Tryz.func173.trans (congrArg some (by kernel_rfl))⟩
 f31:=Tryz.func139.trans (congrArg some (by kernel_rfl))
 f32:=Tryz.func140.trans (congrArg some (by kernel_rfl))
 f36:=⟨Tryz.f179.name,by decide,Tryz.func179.trans (congrArg some (by kernel_rfl))⟩
 f37:=⟨Tryz.f180.name,by decide,Tryz.func180.trans (congrArg some (by kernel_rfl))⟩
 f38:=⟨Tryz.f181.name,by decide,Tryz.func181.trans (congrArg some (by kernel_rfl))⟩
 f39:=⟨Tryz.f182.name,by decide,Tryz.func182.trans (congrArg some (by kernel_rfl))⟩
 f41:=⟨Tryz.f185.name,by decide,Tryz.func185.trans (congrArg some (by kernel_rfl))⟩
 t0:=Tryz.underlying0
 a0:=Tryz.isAgg0
 z0:=Tryz.sizeOf0
 v0:=Tryz.zeroValue0
 t3:=Tryz.underlying3
 a3:=Tryz.isAgg3
 z3:=Tryz.sizeOf3
 v3:=Tryz.zeroValue3
 t4:=Tryz.underlying4
 a4:=Tryz.isAgg4
 z4:=Tryz.sizeOf4
 v4:=Tryz.zeroValue4
 t5:=Tryz.underlying5
 a5:=Tryz.isAgg5
 z5:=Tryz.sizeOf5
 v5:=Tryz.zeroValue5
 t9:=Tryz.underlying9
 a9:=Tryz.isAgg9
 z9:=Tryz.sizeOf9
 v9:=Tryz.zeroValue9
 t26:=Tryz.underlying155
 a26:=Tryz.isAgg155
 z26:=Tryz.sizeOf155
 v26:=Tryz.zeroValue155
 t27:=Tryz.underlying155
 a27:=Tryz.isAgg155
 z27:=Tryz.sizeOf155
 v27:=Tryz.zeroValue155
 t29:=Tryz.underlying9
 a29:=Tryz.isAgg9
 z29:=Tryz.sizeOf9
 v29:=Tryz.zeroValue9
 t32:=Tryz.underlying142
 a32:=Tryz.isAgg142
 z32:=Tryz.sizeOf142
 v32:=Tryz.zeroValue142
 t35:=Tryz.underlying171
 a35:=Tryz.isAgg171
 z35:=Tryz.sizeOf171
 v35:=Tryz.zeroValue171
 t36:=Tryz.underlying172
 a36:=Tryz.isAgg172
 z36:=Tryz.sizeOf172
 v36:=Tryz.zeroValue172
 t41:=Tryz.underlying94
 a41:=Tryz.isAgg94
 z41:=Tryz.sizeOf94
 v41:=Tryz.zeroValue94
 t44:=Tryz.underlying178
 a44:=Tryz.isAgg178
 z44:=Tryz.sizeOf178
 v44:=Tryz.zeroValue178
 t46:=Tryz.underlying180
 a46:=Tryz.isAgg180
 z46:=Tryz.sizeOf180
 v46:=Tryz.zeroValue180
 t53:=Tryz.underlying191
 a53:=Tryz.isAgg191
 z53:=Tryz.sizeOf191
 v53:=Tryz.zeroValue191
 t57:=Tryz.underlying195
 a57:=Tryz.isAgg195
 z57:=Tryz.sizeOf195
 v57:=Tryz.zeroValue195
 t63:=Tryz.underlying207
 a63:=Tryz.isAgg207
 z63:=Tryz.sizeOf207
 v63:=Tryz.zeroValue207
 t64:=Tryz.underlying208
 a64:=Tryz.isAgg208
 z64:=Tryz.sizeOf208
 v64:=Tryz.zeroValue208}
end Go.Proofs

set_option linter.unusedVariables false
set_option linter.unusedSimpArgs false
namespace Go.Proofs.YtmjiojflncffeaaGreat.Vc
open Go Go.Proofs Go.RowKit Go.Maps Go.Sort Go.Shelf
def znz (p:Value×Value):Int:=match p.1 with| .int _ n=>n|_=>0
def zlP (p:Value×Value):List UInt8:=match p.1 with| .string s=>s.data.toList|_=>[]
def zlo (_:Value):Option (DataW Unit×List MemPlace):=some (.nil,[])
theorem zzC {w:World} {b:Nat} {o:Obj} {l:List (Value×Value)} {kt:TypeId} (hk:Tryz.prog.underlying kt=some (.int .i64)) (hb:w.heap[b]? =some o) (hm:zcE (some .i64) o l) (hr:∀p∈l,(Lit.int .i64 (znz p)).wf=true) (hs:l.length≤maxLen):
  ∃nn D0,w.ownsMap Tryz.prog kt zlo b nn D0∧(intKeys D0).Perm (l.map znz)∧Maps.size D0=l.length:=by
 obtain ⟨es,cl,rfl,rfl,h1,h2⟩:=hm
 have hlen:es.size≤maxLen:=by simpa using hs
 have hrd:∀x∈es.toList,Go.WideElems.rd Tryz.prog kt zlo x=some (.int .i64 (znz (kv x)), .nil):=fun x hx=>by
  obtain ⟨g1,_⟩:=h2 x hx
  have g2:=hr (kv x) (List.mem_map.2 ⟨x,hx,rfl⟩)
  cases hkx:x.key with
  |int k n=>
   rw [hkx]at g1
   have:k= .i64:=g1
   subst this
   have e:znz (kv x)=n:=by simp [znz,kv,hkx]
   rw [e]at g2 ⊢
   unfold Go.WideElems.rd
   rw [hkx,keyOf_int_mk hk g2]
   rfl
  |_=>rw [hkx]at g1;exact g1.elim
 have hrg:∀x∈es.toList,Go.WideElems.rg Tryz.prog kt zlo x=(.int .i64 (znz (kv x)), .nil):=fun x hx=>by
  unfold Go.WideElems.rg;rw [hrd x hx];rfl
 refine ⟨es.size, .map ((es.toList.map (Go.WideElems.rg Tryz.prog kt zlo)).foldr DataW.insert []),⟨es,cl,hb,⟨hlen,h1,fun x hx=>⟨_,hrd x hx⟩⟩,Nat.le_refl _,rfl⟩, ?_, ?_⟩
 ·have hp:=Go.WideShapes.sorted_perm (es.toList.map (Go.WideElems.rg Tryz.prog kt zlo))
  have:=hp.map (fun p:Lit×DataW Unit=>_root_.Go.intOf p.1)
  refine (show (intKeys (H:=Unit) (.map ((es.toList.map (Go.WideElems.rg Tryz.prog kt zlo)).foldr DataW.insert []))).Perm _ from this).trans (List.Perm.of_eq ?_)
  rw [List.map_map,List.map_map]
  exact List.map_congr_left fun x hx=>by simp [Function.comp,hrg x hx,_root_.Go.intOf]
 ·have hp:=Go.WideShapes.sorted_perm (es.toList.map (Go.WideElems.rg Tryz.prog kt zlo))
  rw [Maps.size_eq,hp.length_eq]
  simp
theorem zzZ {w:World} {b:Nat} {o:Obj} {l:List (Value×Value)} {kt:TypeId} (hk:Tryz.prog.underlying kt=some .string) (hb:w.heap[b]? =some o) (hm:zcE none o l) (hr:∀p∈l,(zlP p).length≤maxLen) (hs:l.length≤maxLen):
  ∃nn D0,w.ownsMap Tryz.prog kt zlo b nn D0∧(strKeys D0).Perm (l.map zlP)∧Maps.size D0=l.length:=by
 obtain ⟨es,cl,rfl,rfl,h1,h2⟩:=hm
 have hlen:es.size≤maxLen:=by simpa using hs
 have hrd:∀x∈es.toList,Go.WideElems.rd Tryz.prog kt zlo x=some (.string (zlP (kv x)), .nil):=fun x hx=>by
  obtain ⟨g1,_⟩:=h2 x hx
  have g2:=hr (kv x) (List.mem_map.2 ⟨x,hx,rfl⟩)
  cases hkx:x.key with
  |string s=>
   have e:zlP (kv x)=s.data.toList:=by simp [zlP,kv,hkx]
   rw [e]at g2 ⊢
   have g3:s.size≤maxLen:=by rw [Array.length_toList]at g2;exact g2
   unfold Go.WideElems.rd
   rw [hkx]
   simp [keyOf,hk,mapKey,g3,zlo]
  |_=>rw [hkx]at g1;exact g1.elim
 have hrg:∀x∈es.toList,Go.WideElems.rg Tryz.prog kt zlo x=(.string (zlP (kv x)), .nil):=fun x hx=>by
  unfold Go.WideElems.rg;rw [hrd x hx];rfl
 refine ⟨es.size, .map ((es.toList.map (Go.WideElems.rg Tryz.prog kt zlo)).foldr DataW.insert []),⟨es,cl,hb,⟨hlen,h1,fun x hx=>⟨_,hrd x hx⟩⟩,Nat.le_refl _,rfl⟩, ?_, ?_⟩
 ·have hp:=Go.WideShapes.sorted_perm (es.toList.map (Go.WideElems.rg Tryz.prog kt zlo))
  have:=hp.map (fun p:Lit×DataW Unit=>strOf p.1)
  refine (show (strKeys (H:=Unit) (.map ((es.toList.map (Go.WideElems.rg Tryz.prog kt zlo)).foldr DataW.insert []))).Perm _ from this).trans (List.Perm.of_eq ?_)
  rw [List.map_map,List.map_map]
  exact List.map_congr_left fun x hx=>by simp [Function.comp,hrg x hx,strOf]
 ·have hp:=Go.WideShapes.sorted_perm (es.toList.map (Go.WideElems.rg Tryz.prog kt zlo))
  rw [Maps.size_eq,hp.length_eq]
  simp
theorem zCm (m:Nat):AnyZI.SortsIn Tryz.prog Tryz.sortedI_ren Fence.wide m:=
 ⟨fun blk off cap ss W hH hblk hsz=>callsIn_wide.2 (AnyM.slices_Sort_int Tryz.sortI blk off cap ss W hH hblk hsz),
  fun p cap W=>callsIn_wide.2 (AnyM.slices_Sort_int_none Tryz.sortI p cap W)⟩
theorem zCA (m:Nat):AnyZ.SortsIn Tryz.prog Tryz.sortedT_ren Fence.wide m:=
 ⟨fun blk off cap ss W hH hblk hsz=>callsIn_wide.2 (AnyM.slices_Sort_string Tryz.sortT blk off cap ss W hH hblk hsz),
  fun p cap W=>callsIn_wide.2 (AnyM.slices_Sort_string_none Tryz.sortT p cap W)⟩
abbrev zCo:Nat:=58
abbrev zmj:Nat:=94
abbrev zzx:Nat:=57
abbrev zDa:Nat:=96
abbrev zmt:Nat:=134
abbrev zzW:Nat:=95
def zzr (f b:Nat):Value:= .func (.func f) #[] #[ptr b]
def zxY (f b:Nat) (rs:List GV) (m':PH):Prop:=∃bm e,rs=[.s (zzr f bm)]∧m' bm=some (.cells #[.map (some b)] e (0,0))
theorem zpI {P:Program} {f:Nat} {args:List Value} {w:World} {ob:Obj} {v:Value} {Q:List GV→PH→Prop} (h:Calls P f args.toArray w fun e w'=>e= .returned v∧w'=w.alloc ob) (hv:v.oneCell'=true) (hn:∀xs,v≠ .tuple xs) (hq:Q [.s v] (one w.heap.size ob)):Spec P f args PH.no w Q:=by
 intro _
 refine h.mono fun e w' ⟨he,hw⟩=> ?_
 subst hw
 refine ⟨[.s v],one w.heap.size ob,by rw [he];rfl,by simpa [GV.ok]using hv,hq, ?_, ?_,⟨rfl,rfl,rfl,by simp,fun k hk _=>zdG hk⟩⟩
 ·intro b o hb
  simp only [one]at hb
  split at hb
  ·rename_i e;subst e
   simp only [Option.some.injEq]at hb
   subst hb
   exact zgb
  ·cases hb
 ·intro b hb
  right
  simp only [one]at hb
  split at hb
  ·rename_i e;omega
  ·exact absurd rfl hb
theorem zwT (w:World) (b:Nat):Spec Tryz.prog zCo [.map (some b)] PH.no w (zxY zmj b):=
 zpI (callsIn_wide.1 (AnyZI.keys_in Tryz.keysI Fence.wide 5 trivial rfl (some b) w)) rfl (fun xs h=>by cases h) ⟨_,_,rfl,by simp [one];rfl⟩
theorem zvR (w:World) (b:Nat):Spec Tryz.prog zDa [.map (some b)] PH.no w (zxY zmt b):=
 zpI (callsIn_wide.1 (AnyZ.keys_in Tryz.keysT Fence.wide 5 trivial rfl (some b) w)) rfl (fun xs h=>by cases h) ⟨_,_,rfl,by simp [one];rfl⟩
theorem zve {P:Program} {f:Nat} {args:List Value} {w:World} {et:TypeId} {Q:List GV→PH→Prop} (h:Calls P f args.toArray w fun e w'=>∃v xs,e= .returned v∧w'.ownsRow w.heap.size et 1 v xs.length xs∧Below w.heap.size w w'∧(∀x∈xs,x.oneCell'=true)∧∀m',SlO m' v et 1 (xs.map GV.s)→Q [.s v] m'):Spec P f args PH.no w Q:=by
 intro _
 refine h.mono fun e w' ⟨v,xs,he,⟨_,hrow⟩,hbl,hone,hq⟩=> ?_
 have hfl:∀l:List Value,zaa (l.map GV.s)=l:=fun l=>by
  induction l with
  |nil=>rfl
  |cons x l ih=>simp only [zaa,List.map_cons,List.flatMap_cons,GV.flat]at ih ⊢;rw [ih];rfl
 have hels:Els 1 (xs.map GV.s):=fun x hx=>by
  obtain ⟨y,hy,rfl⟩:=List.mem_map.1 hx
  exact ⟨hone y hy,rfl⟩
 rcases hrow with ⟨rfl,hz⟩|⟨g,cap,cur,rfl,hbase,hg,h1,h2,h3,h4⟩
 ·have:xs=[]:=List.length_eq_zero_iff.1 hz
  subst this
  exact ⟨[.s (.slice none 0 0)],PH.no,by rw [he];rfl,by simp [GV.ok,Value.oneCell'],hq _ ⟨fun x hx=>by simp at hx, .inl ⟨rfl,rfl⟩⟩,(fun _ _ h=>by cases h),(fun b hb=>absurd rfl hb),hbl.os,hbl.tape,hbl.output,hbl.size,fun k hk _=>hbl.block k hk⟩
 ·refine ⟨[.s (.slice (some ⟨g,0,none⟩) xs.length cap)],one g (.cells cur et (0,0)),by rw [he];rfl,by simp [GV.ok,Value.oneCell'],hq _ ⟨hels, .inr ⟨⟨g,0,none⟩,cap,by simp,by simpa using h1,fun _=>⟨cur,rfl,by simp [h3],by simp [one],fun j y hj=> ?_⟩⟩⟩, ?_, ?_,hbl.os,hbl.tape,hbl.output,hbl.size,fun k hk _=>hbl.block k hk⟩
  ·rw [hfl]at hj
   have:cur.toList[j]? =some y:=by
    have hlt:j<xs.length:=by
     rcases Nat.lt_or_ge j xs.length with h|h
     ·exact h
     ·rw [List.getElem?_eq_none h]at hj;cases hj
    rw [←h4]at hj
    rw [List.getElem?_take_of_lt (by omega)]at hj
    exact hj
   simpa using this
  ·intro b o hb
   simp only [one]at hb
   split at hb
   ·rename_i e;subst e
    simp only [Option.some.injEq]at hb
    subst hb
    exact hg
   ·cases hb
  ·intro b hb
   right
   simp only [one]at hb
   split at hb
   ·rename_i e;omega
   ·exact absurd rfl hb
def zqr (l:List Int):List Int:=l.mergeSort fun x y=>decide (x≤y)
def zjS (l:List (List UInt8)):List (List UInt8):=l.mergeSort fun x y=>decide (x≤y)
theorem zty (w:World) (b bm:Nat) (e:TypeId) (fz:Nat×Nat) (o:Obj) (l:List (Value×Value)) (u:PH) (hu:u.le w) (hbm:u bm=some (.cells #[.map (some b)] e fz)) (hb:u b=some o) (hm:zcE (some .i64) o l) (hr:∀p∈l,(Lit.int .i64 (znz p)).wf=true) (hs:l.length*8≤140737488355328):
  Spec Tryz.prog zzx [zzr zmj bm] PH.no w fun rs m'=>∃v,rs=[.s v]∧SlO m' v 2 1 ((zqr (l.map znz)).map gi):=by
 have hmax:l.length≤maxLen:=by unfold maxLen;omega
 obtain ⟨nn,D0,hown,hperm,hsize⟩:=zzC (kt:=2) Tryz.underlying2 (hu _ _ hb) hm hr hmax
 have hblk:=hu _ _ hbm
 have hseq:SeqGives Fence.wide 2 Tryz.prog zmj #[ptr bm] encZ (fun ss=>ss.Perm (intKeys D0)) (Maps.size D0) w:=
  AnyZI.keys_gives (ρ:=Tryz.keysI_ren) {Tryz.keysI with} Fence.wide _ trivial rfl (by omega) bm b nn D0 w (Array.getElem?_eq_some_iff.1 hblk).1 (by rw [zfN hblk];rfl) hown
 have cS:=AnyZI.sorted_in Tryz.sortedI Fence.wide 5 trivial trivial trivial trivial rfl (by omega) (zCm _) (enters_of Tryz.func93 (by kernel_rfl) rfl) zmj #[ptr bm] trivial (enters_of Tryz.func94 (by kernel_rfl) rfl) _ _ (by rw [hsize];exact hmax) (by rw [hsize];exact hs) w hseq
 refine zve (et:=2) ((callsIn_wide.1 cS).mono fun e w' ⟨v,ss,he,hS,hrow,_,hbl⟩=> ?_)
 have hss:(ss.mergeSort fun x y=>decide (x≤y))=zqr (l.map znz):=mergeSort_of_perm_i (hS.trans hperm)
 rw [hss]at hrow
 refine ⟨v,(zqr (l.map znz)).map encZ,he, ?_,hbl,fun x hx=> ?_,fun m' hm'=>⟨v,rfl, ?_⟩⟩
 ·have:((zqr (l.map znz)).map encZ).length=ss.length:=by rw [List.length_map,←hss];simp
  rw [this];exact hrow
 ·obtain ⟨n,_,rfl⟩:=List.mem_map.1 hx;rfl
 ·rw [List.map_map]at hm';exact hm'
theorem ztg (w:World) (b bm:Nat) (e:TypeId) (fz:Nat×Nat) (o:Obj) (l:List (Value×Value)) (u:PH) (hu:u.le w) (hbm:u bm=some (.cells #[.map (some b)] e fz)) (hb:u b=some o) (hm:zcE none o l) (hr:∀p∈l,(zlP p).length≤maxLen) (hs:l.length*16≤140737488355328):
  Spec Tryz.prog zzW [zzr zmt bm] PH.no w fun rs m'=>∃v,rs=[.s v]∧SlO m' v 9 1 ((zjS (l.map zlP)).map fun b=> .s (encStr b)):=by
 have hmax:l.length≤maxLen:=by unfold maxLen;omega
 obtain ⟨nn,D0,hown,hperm,hsize⟩:=zzZ (kt:=9) Tryz.underlying9 (hu _ _ hb) hm hr hmax
 have hblk:=hu _ _ hbm
 have hseq:SeqGives Fence.wide 2 Tryz.prog zmt #[ptr bm] encStr (fun ss=>ss.Perm (strKeys D0)) (Maps.size D0) w:=
  AnyZ.keys_gives (ρ:=Tryz.keysT_ren) {Tryz.keysT with} Fence.wide _ trivial rfl (by omega) bm b nn D0 w (Array.getElem?_eq_some_iff.1 hblk).1 (by rw [zfN hblk];rfl) hown
 have cS:=AnyZ.sorted_in Tryz.sortedT Fence.wide 5 trivial trivial trivial trivial rfl (by omega) (zCA _) (enters_of Tryz.func133 (by kernel_rfl) rfl) zmt #[ptr bm] trivial (enters_of Tryz.func134 (by kernel_rfl) rfl) _ _ (by rw [hsize];exact hmax) (by rw [hsize];exact hs) w hseq
 refine zve (et:=9) ((callsIn_wide.1 cS).mono fun e w' ⟨v,ss,he,hS,hrow,_,hbl⟩=> ?_)
 have hss:(ss.mergeSort fun x y=>decide (x≤y))=zjS (l.map zlP):=mergeSort_of_perm (hS.trans hperm)
 rw [hss]at hrow
 refine ⟨v,(zjS (l.map zlP)).map encStr,he, ?_,hbl,fun x hx=> ?_,fun m' hm'=>⟨v,rfl, ?_⟩⟩
 ·have:((zjS (l.map zlP)).map encStr).length=ss.length:=by rw [List.length_map,←hss];simp
  rw [this];exact hrow
 ·obtain ⟨n,_,rfl⟩:=List.mem_map.1 hx;rfl
 ·rw [List.map_map]at hm';exact hm'
end Go.Proofs.YtmjiojflncffeaaGreat.Vc

set_option linter.unusedVariables false
set_option maxRecDepth 100000
namespace Go.Proofs.YtmjiojflncffeaaGreat.Vc
open Go Go.Proofs
abbrev zna:Nat:=59
def zfK:Cd:=
 (.seq (.rg [⟨none,[(some 35, .bin .lss (.t 34) (.t 33))]⟩] [4,5,6,32,33,34,35])
 (.seq (.ite (.t 35)
 .skip
 (.exit 0))
 (.seq (.block 1 (.seq (.rg [⟨none,[(some 36, .idxS (.t 32) (.t 34) 1),(some 37, .ld (.t 36) 1 false),(some 8, .mv (.t 37))]⟩] [4,5,6,8,32,33,34])
 (.rga (.op ⟨none,[(some 38, .fldA (.t 6) 3 3)]⟩ (.op ⟨none,[(some 40, .mv (.t 8))]⟩ (.op ⟨none,[(some 41, .mv (.t 5))]⟩ (.op ⟨none,[(some 42, .nilc (.t 41))]⟩ (.op ⟨none,[(some 43, .fldA (.t 42) 1 2)]⟩ (.op ⟨none,[(some 45, .mv (.t 8))]⟩ (.or (.op ⟨none,[(some 39, .ld (.t 38) 1 false)]⟩ (.op ⟨none,[(some 44, .ld (.t 43) 1 false)]⟩ (.op ⟨none,[(some 46, .mlk none (.t 44) (.t 45) (.string ⟨#[]⟩) false)]⟩ (.op ⟨none,[(some 47, .bld (.c (.s (.string ⟨#[]⟩)) (.c (.s (.string ⟨#[]⟩)) .u)) [(0,(.t 40)),(1,(.t 46))])]⟩ (.op ⟨none,[(some 48, .bldS 75 2 (.c (.s (.string ⟨#[]⟩)) (.c (.s (.string ⟨#[]⟩)) .u)) [(.t 47)])]⟩ (.op ⟨none,[(some 49, .app 75 2 32 (.c (.s (.string ⟨#[]⟩)) (.c (.s (.string ⟨#[]⟩)) .u)) (.t 39) (.t 48))]⟩ (.op ⟨none,[(some 50, .fldA (.t 6) 3 3)]⟩ (.op ⟨none,[(none, .st (.t 50) (.t 49) 1)]⟩ .done)))))))) (.op ⟨none,[(some 44, .ld (.t 43) 1 false)]⟩ (.or (.op ⟨none,[(some 39, .ld (.t 38) 1 false)]⟩ (.op ⟨none,[(some 46, .mlk none (.t 44) (.t 45) (.string ⟨#[]⟩) false)]⟩ (.op ⟨none,[(some 47, .bld (.c (.s (.string ⟨#[]⟩)) (.c (.s (.string ⟨#[]⟩)) .u)) [(0,(.t 40)),(1,(.t 46))])]⟩ (.op ⟨none,[(some 48, .bldS 75 2 (.c (.s (.string ⟨#[]⟩)) (.c (.s (.string ⟨#[]⟩)) .u)) [(.t 47)])]⟩ (.op ⟨none,[(some 49, .app 75 2 32 (.c (.s (.string ⟨#[]⟩)) (.c (.s (.string ⟨#[]⟩)) .u)) (.t 39) (.t 48))]⟩ (.op ⟨none,[(some 50, .fldA (.t 6) 3 3)]⟩ (.op ⟨none,[(none, .st (.t 50) (.t 49) 1)]⟩ .done))))))) (.op ⟨none,[(some 46, .mlk none (.t 44) (.t 45) (.string ⟨#[]⟩) false)]⟩ (.op ⟨none,[(some 47, .bld (.c (.s (.string ⟨#[]⟩)) (.c (.s (.string ⟨#[]⟩)) .u)) [(0,(.t 40)),(1,(.t 46))])]⟩ (.or (.op ⟨none,[(some 39, .ld (.t 38) 1 false)]⟩ (.op ⟨none,[(some 48, .bldS 75 2 (.c (.s (.string ⟨#[]⟩)) (.c (.s (.string ⟨#[]⟩)) .u)) [(.t 47)])]⟩ (.op ⟨none,[(some 49, .app 75 2 32 (.c (.s (.string ⟨#[]⟩)) (.c (.s (.string ⟨#[]⟩)) .u)) (.t 39) (.t 48))]⟩ (.op ⟨none,[(some 50, .fldA (.t 6) 3 3)]⟩ (.op ⟨none,[(none, .st (.t 50) (.t 49) 1)]⟩ .done))))) (.op ⟨none,[(some 48, .bldS 75 2 (.c (.s (.string ⟨#[]⟩)) (.c (.s (.string ⟨#[]⟩)) .u)) [(.t 47)])]⟩ (.op ⟨none,[(some 39, .ld (.t 38) 1 false)]⟩ (.op ⟨none,[(some 49, .app 75 2 32 (.c (.s (.string ⟨#[]⟩)) (.c (.s (.string ⟨#[]⟩)) .u)) (.t 39) (.t 48))]⟩ (.op ⟨none,[(some 50, .fldA (.t 6) 3 3)]⟩ (.op ⟨none,[(none, .st (.t 50) (.t 49) 1)]⟩ .done))))))))))))))))) [4,5,6,32,33,34])))
 (.rg [⟨none,[(some 51, .bin .add (.t 34) (.c (.int .i64 1))),(some 34, .mv (.t 51))]⟩] [4,5,6,32,33,34]))))
def zdP:Cd:=
 (.seq (.seq (.gh (.rg [⟨none,[(some 27, .mv (.t 5)),(some 28, .nilc (.t 27)),(some 29, .fldA (.t 28) 1 2),(some 30, .ld (.t 29) 1 false),(some 31, .call 96 [(.t 30)]),(some 32, .call 95 [(.t 31)]),(none, .gh),(some 33, .len (.t 32)),(some 34, .mv (.c (.int .i64 0)))]⟩] [4,5,6,32,33,34]))
 (.block 0 (.loop zfK)))
 (.seq (.rg [⟨none,[(some 52, .ld (.t 6) 4 true),(none, .st (.t 4) (.t 52) 4)]⟩] [4])
 .ret))
def zhQ:Cd:=
 (.seq (.rg [⟨none,[(some 4, .new 49 (.c (.s (.int .i64 0)) (.c (.s (.int .i64 0)) (.c (.s (.string ⟨#[]⟩)) (.c (.s (.slice none 0 0)) .u)))))]⟩] [0,1,4])
 (.seq (.rg [⟨none,[(some 9, .mv (.t 0)),(some 10, .nilc (.t 9)),(some 11, .fldA (.t 10) 0 0),(some 12, .ld (.t 11) 1 false),(some 13, .mv (.t 1)),(some 14, .mlk (some .i64) (.t 12) (.t 13) (.pointer none) false),(some 5, .mv (.t 14))]⟩] [1,4,5])
 (.seq (.rga (.op ⟨none,[(some 15, .mv (.t 1))]⟩ (.op ⟨none,[(some 16, .mv (.t 5))]⟩ (.op ⟨none,[(some 17, .nilc (.t 16))]⟩ (.op ⟨none,[(some 18, .fldA (.t 17) 0 0)]⟩ (.op ⟨none,[(some 19, .fldA (.t 18) 0 0)]⟩ (.op ⟨none,[(some 21, .mv (.t 5))]⟩ (.op ⟨none,[(some 22, .nilc (.t 21))]⟩ (.op ⟨none,[(some 23, .fldA (.t 22) 0 0)]⟩ (.op ⟨none,[(some 24, .fldA (.t 23) 1 1)]⟩ (.or (.op ⟨none,[(some 20, .ld (.t 19) 1 false)]⟩ (.or (.op ⟨none,[(some 25, .ld (.t 24) 1 false)]⟩ (.op ⟨none,[(some 26, .bld (.c (.s (.int .i64 0)) (.c (.s (.int .i64 0)) (.c (.s (.string ⟨#[]⟩)) (.c (.s (.slice none 0 0)) .u)))) [(0,(.t 15)),(1,(.t 20)),(2,(.t 25))])]⟩ (.op ⟨none,[(some 6, .new 49 (.c (.s (.int .i64 0)) (.c (.s (.int .i64 0)) (.c (.s (.string ⟨#[]⟩)) (.c (.s (.slice none 0 0)) .u)))))]⟩ (.op ⟨none,[(none, .st (.t 6) (.t 26) 4)]⟩ .done)))) (.op ⟨none,[(some 6, .new 49 (.c (.s (.int .i64 0)) (.c (.s (.int .i64 0)) (.c (.s (.string ⟨#[]⟩)) (.c (.s (.slice none 0 0)) .u)))))]⟩ (.op ⟨none,[(some 25, .ld (.t 24) 1 false)]⟩ (.op ⟨none,[(some 26, .bld (.c (.s (.int .i64 0)) (.c (.s (.int .i64 0)) (.c (.s (.string ⟨#[]⟩)) (.c (.s (.slice none 0 0)) .u)))) [(0,(.t 15)),(1,(.t 20)),(2,(.t 25))])]⟩ (.op ⟨none,[(none, .st (.t 6) (.t 26) 4)]⟩ .done)))))) (.or (.op ⟨none,[(some 25, .ld (.t 24) 1 false)]⟩ (.or (.op ⟨none,[(some 20, .ld (.t 19) 1 false)]⟩ (.op ⟨none,[(some 26, .bld (.c (.s (.int .i64 0)) (.c (.s (.int .i64 0)) (.c (.s (.string ⟨#[]⟩)) (.c (.s (.slice none 0 0)) .u)))) [(0,(.t 15)),(1,(.t 20)),(2,(.t 25))])]⟩ (.op ⟨none,[(some 6, .new 49 (.c (.s (.int .i64 0)) (.c (.s (.int .i64 0)) (.c (.s (.string ⟨#[]⟩)) (.c (.s (.slice none 0 0)) .u)))))]⟩ (.op ⟨none,[(none, .st (.t 6) (.t 26) 4)]⟩ .done)))) (.op ⟨none,[(some 6, .new 49 (.c (.s (.int .i64 0)) (.c (.s (.int .i64 0)) (.c (.s (.string ⟨#[]⟩)) (.c (.s (.slice none 0 0)) .u)))))]⟩ (.op ⟨none,[(some 20, .ld (.t 19) 1 false)]⟩ (.op ⟨none,[(some 26, .bld (.c (.s (.int .i64 0)) (.c (.s (.int .i64 0)) (.c (.s (.string ⟨#[]⟩)) (.c (.s (.slice none 0 0)) .u)))) [(0,(.t 15)),(1,(.t 20)),(2,(.t 25))])]⟩ (.op ⟨none,[(none, .st (.t 6) (.t 26) 4)]⟩ .done)))))) (.op ⟨none,[(some 6, .new 49 (.c (.s (.int .i64 0)) (.c (.s (.int .i64 0)) (.c (.s (.string ⟨#[]⟩)) (.c (.s (.slice none 0 0)) .u)))))]⟩ (.or (.op ⟨none,[(some 20, .ld (.t 19) 1 false)]⟩ (.op ⟨none,[(some 25, .ld (.t 24) 1 false)]⟩ (.op ⟨none,[(some 26, .bld (.c (.s (.int .i64 0)) (.c (.s (.int .i64 0)) (.c (.s (.string ⟨#[]⟩)) (.c (.s (.slice none 0 0)) .u)))) [(0,(.t 15)),(1,(.t 20)),(2,(.t 25))])]⟩ (.op ⟨none,[(none, .st (.t 6) (.t 26) 4)]⟩ .done)))) (.op ⟨none,[(some 25, .ld (.t 24) 1 false)]⟩ (.op ⟨none,[(some 20, .ld (.t 19) 1 false)]⟩ (.op ⟨none,[(some 26, .bld (.c (.s (.int .i64 0)) (.c (.s (.int .i64 0)) (.c (.s (.string ⟨#[]⟩)) (.c (.s (.slice none 0 0)) .u)))) [(0,(.t 15)),(1,(.t 20)),(2,(.t 25))])]⟩ (.op ⟨none,[(none, .st (.t 6) (.t 26) 4)]⟩ .done))))))))))))))))) [4,5,6])
 zdP)))
theorem zmU:Ok Tryz.prog 59 zhQ 53 [(2,999999),(6,999999)] [.cell 4 4 true]:=Ok.mk' Tryz.func59 (by kernel_rfl) (by kernel_rfl) (by kernel_rfl)
abbrev zgX:Nat:=21
def zfp:Cd:=
 (.seq (.rg [⟨none,[(some 17, .bin .lss (.t 16) (.t 15))]⟩] [0,3,14,15,16,17])
 (.seq (.ite (.t 17)
 .skip
 (.exit 0))
 (.seq (.block 1 (.seq (.rg [⟨none,[(some 18, .idxS (.t 14) (.t 16) 1),(some 19, .ld (.t 18) 1 false),(some 5, .mv (.t 19))]⟩] [0,3,5,14,15,16])
 (.seq (.rg [⟨none,[(some 20, .mv (.t 0)),(some 21, .mv (.t 5)),(some 22, .call 59 [(.t 20),(.t 21)]),(some 6, .new 49 (.c (.s (.int .i64 0)) (.c (.s (.int .i64 0)) (.c (.s (.string ⟨#[]⟩)) (.c (.s (.slice none 0 0)) .u))))),(none, .st (.t 6) (.t 22) 4)]⟩] [0,3,5,6,14,15,16])
 (.seq (.rg [⟨none,[(some 23, .mv (.t 5)),(some 24, .call 60 [(.t 23)]),(some 25, .un .not (.t 24)),(some 26, .mv (.t 25))]⟩,⟨some (26,false),[(some 27, .fldA (.t 6) 3 3),(some 28, .ld (.t 27) 1 false),(some 29, .len (.t 28)),(some 30, .bin .gtr (.t 29) (.c (.int .i64 0)))]⟩,⟨none,[(some 31, .pick (.t 26) (.c (.bool true)) (.t 30))]⟩] [0,3,6,14,15,16,31])
 (.ite (.t 31)
 (.rg [⟨none,[(some 32, .mv (.t 3)),(some 33, .ld (.t 6) 4 true),(some 34, .bldS 49 4 (.c (.s (.int .i64 0)) (.c (.s (.int .i64 0)) (.c (.s (.string ⟨#[]⟩)) (.c (.s (.slice none 0 0)) .u)))) [(.t 33)]),(some 35, .app 49 4 56 (.c (.s (.int .i64 0)) (.c (.s (.int .i64 0)) (.c (.s (.string ⟨#[]⟩)) (.c (.s (.slice none 0 0)) .u)))) (.t 32) (.t 34)),(some 3, .mv (.t 35))]⟩] [0,3,14,15,16])
 .skip)))))
 (.rg [⟨none,[(some 36, .bin .add (.t 16) (.c (.int .i64 1))),(some 16, .mv (.t 36))]⟩] [0,3,14,15,16]))))
def zhd:Cd:=
 (.seq (.rg [⟨none,[(some 2, .mv (.c (.slice none 0 0)))]⟩] [0])
 (.seq (.seq (.rg [⟨none,[(some 7, .mv (.t 0)),(some 8, .call 56 [(.t 7)])]⟩] [0,8])
 (.ite (.t 8)
 (.seq (.rg [⟨none,[(some 2, .mv (.c (.slice none 0 0)))]⟩] [2])
 .ret)
 .skip))
 (.seq (.rg [⟨none,[(some 3, .mv (.c (.slice none 0 0)))]⟩] [0,3])
 (.seq (.seq (.rg [⟨none,[(none, .gh),(some 9, .mv (.t 0)),(some 10, .nilc (.t 9)),(some 11, .fldA (.t 10) 0 0),(some 12, .ld (.t 11) 1 false),(some 13, .call 58 [(.t 12)]),(some 14, .call 57 [(.t 13)]),(none, .gh),(some 15, .len (.t 14)),(some 16, .mv (.c (.int .i64 0)))]⟩] [0,3,14,15,16])
 (.block 0 (.loop zfp)))
 (.seq (.rg [⟨none,[(some 37, .mv (.t 3)),(some 2, .mv (.t 37)),(none, .gh)]⟩] [2])
 .ret)))))
theorem zlE:Ok Tryz.prog 21 zhd 38 [] [.tmp 2]:=Ok.mk' Tryz.func21 (by kernel_rfl) (by kernel_rfl) (by kernel_rfl)
end Go.Proofs.YtmjiojflncffeaaGreat.Vc

set_option linter.unusedVariables false
set_option linter.unusedSimpArgs false
set_option maxRecDepth 100000
namespace Go.Proofs.YtmjiojflncffeaaGreat.Vc
open Go Go.Proofs
def zbd (x:PN):List (List UInt8):=zjS (x.attrs.map fun p=>p.1.data.toList)
def zaR (x:PN):List Attr:=(zbd x).map fun k=>⟨mkS k,(zbv x.attrs (mkS k)).getD ⟨#[]⟩⟩
def PN.small (x:PN):Prop:=x.attrs.length*32≤140737488355328∧∀p∈x.attrs,p.1.size≤140737488355328
theorem zyw (w:World) (u:PH) (hu:u.le w) (L:Lay) (T:PT) (hT:TM u L T) (n:Int) (x:PN) (hx:T.get n=some x) (hsm:x.small):
  Spec Tryz.prog zna [ptr (L .t), .int .i64 n] PH.no w fun rs m'=>∃v,rs=[zl ⟨n,x.parent,x.name,v⟩]∧SlO m' v 75 2 ((zaR x).map zap):=by
 refine zbb zmU [.g (.s (ptr (L .t))), .g (.s (.int .i64 n))] (by simp) (by simp [AV.ok,GV.ok,Value.oneCell',ptr]) ?_
 have hk:∀{l:List PH},KN (⟨Tryz.prog,53,w,PH.no⟩:Ctx).u0 l u:=zdy hu
 obtain ⟨hs1,hs2⟩:=hsm
 have hkt:((zja x.attrs).map zlP)=x.attrs.map fun p=>p.1.data.toList:=by simp [zja,zlP,Function.comp_def]
 have tail:∀σ:SS,Ge σ ⟨[(4, .ref 4 []),(5, .g (.s (.pointer (some ⟨L (.nd n),0,none⟩)))),(6, .ref 6 [])],[(4, .box (zl zTreeNode)),(6, .box (zl ⟨n,x.parent,x.name,zTreeNode.attrs⟩))],[],PH.no⟩→
   vc ⟨Tryz.prog,53,w,PH.no⟩ zdP (znm ⟨Tryz.prog,53,w,PH.no⟩ [.cell 4 4 true] fun rs m'=>∃v,rs=[zl ⟨n,x.parent,x.name,v⟩]∧SlO m' v 75 2 ((zaR x).map zap)) σ:=by
  intro σ hσ
  unfold zdP
  rw [zi,zi]
  refine zbu hσ ?_
  simp (maxSteps:=2000000) only [zm,zh,za,zj,ev,look,zd,Nat.reduceEqDiff,↓reduceIte,Nat.zero_add]
  refine zJ _ (hT.s_node hk hx).2.2.1 rfl ?_
  simp (maxSteps:=2000000) only [za,zj,zd]
  refine zbV rfl rfl (Q:=zxY zmt (L (.ab n))) (fun w' vs hv hw _ _=> ?_) fun rs m1 _ hq=> ?_
  ·obtain ⟨vs,rfl,_,hv⟩:=zt hv
   obtain rfl:=zr hv
   exact zvR w' (L (.ab n))
  obtain ⟨bm,e,rfl,hbm⟩:=hq
  simp (maxSteps:=2000000) only [zK,za,zj,zd]
  obtain ⟨o,idsV,h1,h2⟩:=hT.at (.ab n) ⟨x,hx⟩
  refine zbV rfl rfl (Q:=fun rs m'=>∃v,rs=[.s v]∧SlO m' v 9 1 ((zbd x).map gN)) (fun w' vs hv hw hph _=> ?_) fun rs m2 _ hq=> ?_
  ·obtain ⟨vs,rfl,_,hv⟩:=zt hv
   obtain rfl:=zr hv
   have hm1:=hph m1 (by simp)
   have:=ztg w' (L (.ab n)) bm e (0,0) o (zja x.attrs) w'.ph (fun _ _ h=>h) (hm1 _ _ hbm) (hw _ _ (by rw [zbr];exact hu _ _ h1)) (h2 x hx) (fun p hp=>by
    obtain ⟨q,hq,rfl⟩:=List.mem_map.1 hp
    have:=hs2 q hq
    simp only [zlP,Array.length_toList]
    unfold maxLen
    have e:q.1.data.size=q.1.size:=rfl
    omega) (by simp [zja];omega)
   rw [hkt]at this
   exact this
  obtain ⟨v0,rfl,hv0⟩:=hq
  simp (maxSteps:=2000000) only [zK,za,zj,zd]
  refine zog 32 32 (.s (.string ⟨#[]⟩)) rfl rfl hv0.toR (KN.mem (by simp)) ?_
  simp (maxSteps:=2000000) only [List.length_map,zB,zf,zc,zb,ze,za,zj,ev,look,zd,zg,zk,Value.oneCell',cond_true,Nat.reduceEqDiff,↓reduceIte,List.length_map,List.length_map]
  have hlen:(zbd x).length=x.attrs.length:=by simp [zbd,zjS]
  have hlenA:(zaR x).length=(zbd x).length:=by simp [zaR]
  refine zaP (ι:=Nat×Value×PH) (fun q=>⟨[(4, .ref 4 []),(5, .g (.s (.pointer (some ⟨L (.nd n),0,none⟩)))),(6, .ref 6 []),(32, .row 32 0 ((zbd x).length)),(33, .g (.s (.int .i64 ((zbd x).length)))),(34, .g (.s (.int .i64 (q.1))))],[(32, .ro 1 (.s (.string ⟨#[]⟩)) ((zbd x).map gN)),(4, .box (zl zTreeNode)),(6, .box (zl ⟨n,x.parent,x.name,q.2.1⟩))],[m2,m1],q.2.2⟩)
   (fun q=>q.1≤(zbd x).length∧SlO q.2.2 q.2.1 75 2 (((zaR x).take q.1).map zap)) (fun q=>(zbd x).length - q.1) (0, .slice none 0 0,PH.no) ⟨by simp,⟨fun x hx=>by simp at hx, .inl ⟨rfl,by simp⟩⟩⟩ (zR ?_ ?_ rfl rfl rfl) ?_
  ·simp [zaf,look]
  ·simp [zam,look];rfl
  rintro ⟨i,v,mA⟩ ⟨hi,hvA⟩
  simp only at hi hvA
  generalize hQ:loopQ _ _ _ _ _=Q
  simp (maxSteps:=2000000) only [zfK,zu,zau,zi,zB,zm,zeS,zq,zf,zay,zc,zb,zh,ze,za,zbI,zeG,zj,ev,look,zd,zg,zk,zaF,zdh,zO,zP,GV.getT,Nat.reduceEqDiff,↓reduceIte,List.nil_append,Nat.zero_add,Bool.true_and,Bool.not_false,true_and,Int.toNat_natCast,decide_eq_true_eq,decide_eq_false_iff_not,zax,zn,zF,zaV,zaG,zBJ]
  refine ⟨fun hlt=>⟨⟨by omega,by omega⟩, ?_⟩,fun hge=> ?_⟩
  ·have hta:((zaR x).take (i+1)).map zap=((zaR x).take i).map zap++[zap ⟨mkS ((zbd x).getD i []),(zbv x.attrs (mkS ((zbd x).getD i []))).getD ⟨#[]⟩⟩]:=by
    rw [List.take_add_one,List.map_append]
    congr 1
    rw [zaR,List.getElem?_map,List.getD_eq_getElem?_getD,List.getElem?_eq_getElem (by omega)]
    rfl
   have hbd:(((((zaR x).take i).map zap)).length+1)*32≤140737488355328:=by
    rw [List.length_map,List.length_take]
    omega
   repeat' (first
    |(refine zJ _ (hT.s_node hk hx).2.2.1 rfl ?_;simp (maxSteps:=2000000) only [zpC,zb,zh,ze,za,zbI,zeG,zj,ev,look,zd,GV.getT,Nat.reduceEqDiff,↓reduceIte,Bool.true_and,Bool.not_false,true_and,zF,zaG])
    |(refine hT.lkA hk hx ?_;simp (maxSteps:=2000000) only [zb,zh,ze,za,zbI,zeG,zj,ev,evL,gvL,look,zZ,zd,zaF,GV.getT,GV.same,Nat.reduceEqDiff,↓reduceIte,Nat.zero_add,Bool.and_true,Bool.true_and,Bool.not_false,true_and,and_true,List.map_cons,List.map_nil,Option.map_some,zcO,List.length_cons,List.length_nil,List.drop_zero,List.take_succ_cons,List.take_zero,GV.bldT,GV.bldC,zF,zaG,zeI,zeU,zwp,zim,zxm])
    |(refine znH rfl rfl mA PH.no (((zaR x).take i).map zap) hvA (zaz _).symm (zdW _) hbd fun v' u' hv' hs' _=> ?_;simp (maxSteps:=2000000) only [zaz,zm,zf,zT,zc,zb,zh,ze,za,zdn,zbI,zj,ev,look,zZ,zd,zS,zg,zk,zO,zP,GV.getT,GV.sz,GV.same,Value.oneCell',cond_true,Nat.reduceEqDiff,↓reduceIte,List.nil_append,Bool.and_true,Bool.true_and,true_and,and_true,zn,zaV,zaG,zgp])
    |rfl
    |refine And.intro ?_ ?_)
   all_goals
    subst hQ;simp only [zaB];refine ⟨(i+1,v',u'), ?_, ?_,zR ?_ ?_ rfl rfl rfl⟩
    ·exact ⟨by simp only;omega,by simp only;rw [hta];exact hs'⟩
    ·simp only;omega
    ·simp only [zaf,look,Nat.reduceEqDiff,↓reduceIte,Bool.and_true,Bool.true_and,true_and,and_true]
     rw [zaN (by omega)]
     try simp
    ·simp [zam,look]
  ·subst hQ
   simp (maxSteps:=2000000) only [zx,zi,zm,zf,zat,zc,zaQ,zab,zb,zh,ze,za,zj,ev,look,zZ,zd,zS,zg,zk,Nat.reduceEqDiff,↓reduceIte,Bool.and_true,Bool.true_and,true_and,and_true,zn,zY,zai,zaY,zbR]
   have hfull:(zaR x).take i=zaR x:=List.take_of_length_le (by omega)
   rw [hfull]at hvA
   exact zbq (rs:=[zl ⟨n,x.parent,x.name,v⟩]) _ rfl (fun _ _ h=>h) ⟨v,rfl,hvA⟩
 simp (maxSteps:=2000000) only [zhQ,zi,zm,zf,zc,zb,zh,ze,za,zj,ev,look,zZ,zd,zg,zk,Nat.reduceEqDiff,↓reduceIte,reduceCtorEq,Nat.zero_add,Nat.add_zero,Bool.true_and,true_and,zak,zaK,zbG,ptr]
 refine zJ _ (hT.s_map hk) rfl ?_
 simp (maxSteps:=2000000) only [za,zj,ev,look,zd,Nat.reduceEqDiff,↓reduceIte,reduceCtorEq]
 refine hT.lk hk n ?_
 rw [hx]
 simp (maxSteps:=2000000) only [zi,zeS,zf,zc,zb,zh,ze,za,zbI,zeG,zj,ev,look,zZ,zd,zg,zk,Nat.reduceEqDiff,↓reduceIte,reduceCtorEq,Nat.zero_add,Nat.add_zero,Bool.true_and,true_and,zcf]
 repeat' (first
  |(refine zJ _ (hT.s_node hk hx).1 rfl ?_;simp (maxSteps:=2000000) only [zf,zc,zb,zh,ze,za,zdn,zbI,zeG,zj,ev,evL,gvL,look,zZ,zd,zS,zg,zk,GV.getT,GV.same,Nat.reduceEqDiff,↓reduceIte,Bool.and_true,Bool.true_and,true_and,and_true,List.map_cons,List.map_nil,Option.map_some,GV.bldT,GV.bldC,zcT,zn,zY,zai,zbR,zaZ,zet,zbC,zgN,zaX,zgA])
  |(refine zJ _ (hT.s_node hk hx).2.1 rfl ?_;simp (maxSteps:=2000000) only [zf,zc,zb,zh,ze,za,zdn,zbI,zeG,zj,ev,evL,gvL,look,zZ,zd,zS,zg,zk,GV.getT,GV.same,Nat.reduceEqDiff,↓reduceIte,Bool.and_true,Bool.true_and,true_and,and_true,List.map_cons,List.map_nil,Option.map_some,GV.bldT,GV.bldC,zcT,zn,zY,zai,zbR,zaZ,zet,zbC,zgN,zaX,zgA])
  |rfl
  |(refine tail _ (zR ?_ ?_ rfl rfl rfl)<;>simp [zaf,zam,look])
  |refine And.intro ?_ ?_)
end Go.Proofs.YtmjiojflncffeaaGreat.Vc

set_option linter.unusedVariables false
set_option linter.unusedSimpArgs false
set_option maxRecDepth 100000
namespace Go.Proofs.YtmjiojflncffeaaGreat.Vc
open Go Go.Proofs
structure TN where
 node:Int
 parent:Int
 name:ByteArray
 attrs:List Attr
def zbw (n:Int) (x:PN):TN:=⟨n,x.parent,x.name,zaR x⟩
def zbz (T:PT):List Int:=zqr (T.nodes.map (·.1))
def TN.shown (t:TN):Bool:= !zbc t.node||decide (t.attrs.length>0)
def zhP (T:PT) (l:List Int):List TN:=(l.filterMap fun n=>(T.get n).map fun x=>zbw n x).filter TN.shown
def zae (T:PT):List TN:=zhP T (zbz T)
def TsOk (m:PH):List TreeNode→List TN→Prop
 |[],[]=>True
 |t::ts,a::r=>(t.node=a.node∧t.parent=a.parent∧t.name=a.name∧SlR m t.attrs 2 (a.attrs.map zap))∧TsOk m ts r
 |_,_=>False
theorem TsOk.len {m:PH}:∀{ts:List TreeNode} {l:List TN},TsOk m ts l→ts.length=l.length
 |[],[],_=>rfl
 |_::_,_::_,h=>by simp [h.2.len]
 |[],_::_,h=>h.elim
 |_::_,[],h=>h.elim
theorem TsOk.up {m m':PH} (hs:PH.sub m m'):∀{ts:List TreeNode} {l:List TN},TsOk m ts l→TsOk m' ts l
 |[],[],_=>trivial
 |_::_,_::_,h=>⟨⟨h.1.1,h.1.2.1,h.1.2.2.1,h.1.2.2.2.up hs⟩,h.2.up hs⟩
 |[],_::_,h=>h.elim
 |_::_,[],h=>h.elim
theorem TsOk.snoc {m:PH} {t:TreeNode} {a:TN} (ht:t.node=a.node∧t.parent=a.parent∧t.name=a.name∧SlR m t.attrs 2 (a.attrs.map zap)):∀{ts:List TreeNode} {l:List TN},TsOk m ts l→TsOk m (ts++[t]) (l++[a])
 |[],[],_=>⟨ht,trivial⟩
 |_::_,_::_,h=>⟨h.1,h.2.snoc ht⟩
 |[],_::_,h=>h.elim
 |_::_,[],h=>h.elim
structure PT.tells (T:PT):Prop where
 few:T.nodes.length*56≤140737488355328
 keys:∀n x,T.get n=some x→(Lit.int .i64 n).wf=true
 small:∀n x,T.get n=some x→x.small
theorem zvJ {T:PT} {n:Int} (h:n∈zbz T):∃x,T.get n=some x:=by
 have h1:n∈T.nodes.map (·.1):=(List.mergeSort_perm _ _).mem_iff.1 h
 cases hg:T.get n with
 |none=>exact absurd h1 (zct.1 hg)
 |some x=>exact ⟨x,rfl⟩
theorem zww (w:World) (u:PH) (hu:u.le w) (L:Lay) (T:PT) (hT:TM u L T) (hok:T.tells):
  Spec Tryz.prog zgX [ptr (L .t)] PH.no w fun rs m'=>∃v ts,rs=[.s v]∧SlR m' v 4 (ts.map zl)∧TsOk m' ts (zae T):=by
 refine zbb zlE [.g (.s (ptr (L .t)))] (by simp) (by simp [AV.ok,GV.ok,Value.oneCell',ptr]) ?_
 have hk:∀{l:List PH},KN (⟨Tryz.prog,38,w,PH.no⟩:Ctx).u0 l u:=zdy hu
 have hkl:(zbz T).length=T.nodes.length:=by simp [zbz,zqr]
 have hfew:=hok.few
 simp (maxSteps:=2000000) only [zhd,zi,zm,zf,zc,zb,zh,ze,za,zj,ev,look,zd,zg,zk,Value.oneCell',cond_true,↓reduceIte,reduceCtorEq,zak,zaK,ptr]
 refine zdc _ [.s (.bool false)] rfl rfl (fun w' vs hv hw=> ?_) ?_
 ·obtain ⟨vs,rfl,_,hv⟩:=zt hv
  obtain rfl:=zr hv
  intro _
  exact zka (fun b o h=>hw b o (by rw [zbr];exact hu b o h)) hT
 simp (maxSteps:=2000000) only [zK,zu,zi,zm,zq,zf,zc,zb,zh,ze,za,zj,ev,look,zd,zg,zk,Value.oneCell',cond_true,↓reduceIte,reduceCtorEq,↓zN]
 refine ztb 3 3 49 4 (zl zTreeNode) rfl rfl ?_
 simp (maxSteps:=2000000) only [za,zj,ev,look,zd,↓reduceIte,reduceCtorEq,Nat.add_zero]
 refine zJ _ (hT.s_map hk) rfl ?_
 simp (maxSteps:=2000000) only [za,zj,zd]
 refine zbV rfl rfl (Q:=zxY zmj (L .nb)) (fun w' vs hv hw _ _=> ?_) fun rs m1 _ hq=> ?_
 ·obtain ⟨vs,rfl,_,hv⟩:=zt hv
  obtain rfl:=zr hv
  exact zwT w' (L .nb)
 obtain ⟨bm,e,rfl,hbm⟩:=hq
 simp (maxSteps:=2000000) only [zK,za,zj,zd]
 obtain ⟨o,idsV,h1,h2⟩:=hT.at .nb trivial
 have hkeys:(zcQ L T.nodes).map znz=T.nodes.map (·.1):=by simp [zcQ,znz,Function.comp_def]
 refine zbV rfl rfl (Q:=fun rs m'=>∃v,rs=[.s v]∧SlO m' v 2 1 ((zbz T).map gi)) (fun w' vs hv hw hph _=> ?_) fun rs m2 _ hq=> ?_
 ·obtain ⟨vs,rfl,_,hv⟩:=zt hv
  obtain rfl:=zr hv
  have hm1:=hph m1 (by simp)
  have:=zty w' (L .nb) bm e (0,0) o (zcQ L T.nodes) w'.ph (fun _ _ h=>h) (hm1 _ _ hbm) (hw _ _ (by rw [zbr];exact hu _ _ h1)) h2 (fun p hp=>by
   obtain ⟨q,hq,rfl⟩:=List.mem_map.1 hp
   exact hok.keys q.1 q.2 (zol hT.nod hq)) (by simp [zcQ];omega)
  rw [hkeys]at this
  exact this
 obtain ⟨v0,rfl,hv0⟩:=hq
 simp (maxSteps:=2000000) only [zK,za,zj,zd]
 refine zog 14 14 (gi 0) rfl rfl hv0.toR (KN.mem (by simp)) ?_
 simp (maxSteps:=2000000) only [List.length_map,zB,zf,zc,zb,ze,za,zj,ev,look,zd,zg,zk,Value.oneCell',cond_true,Nat.reduceEqDiff,↓reduceIte,reduceCtorEq,List.length_map,List.length_map]
 refine zaP (ι:=Nat×List TreeNode×PH) (fun q=>⟨[(0, .g (.s (.pointer (some ⟨L .t,0,none⟩)))),(14, .row 14 0 ((zbz T).length)),(15, .g (.s (.int .i64 ((zbz T).length)))),(16, .g (.s (.int .i64 (q.1)))),(3, .row 3 0 (q.2.1.length))],[(14, .ro 1 (gi 0) ((zbz T).map gi)),(3, .row 49 4 (zl zTreeNode) (q.2.1.map zl))],[m2,m1],q.2.2⟩)
  (fun q=>q.1≤(zbz T).length∧q.2.1.length≤q.1∧TsOk q.2.2 q.2.1 (zhP T ((zbz T).take q.1))) (fun q=>(zbz T).length - q.1) (0,[],PH.no) ⟨by simp,by simp,trivial⟩ (zR ?_ ?_ rfl rfl rfl) ?_
 ·simp [zaf,look]
 ·simp [zam,look]
 rintro ⟨i,ts,mA⟩ ⟨hi,htl,hts⟩
 simp only at hi htl hts
 generalize hQ:loopQ _ _ _ _ _=Q
 simp (maxSteps:=2000000) only [zfp,zxD,zu,zau,zi,zB,zm,zq,zf,zay,zc,zb,zh,ze,za,zj,ev,look,zd,zg,zk,zaF,zdh,zO,zP,Nat.reduceEqDiff,↓reduceIte,reduceCtorEq,Nat.zero_add,Bool.true_and,Bool.not_false,true_and,Int.toNat_natCast,decide_eq_true_eq,decide_eq_false_iff_not,zax,zn,zxD,zF,zbG]
 refine ⟨fun hlt=>⟨⟨by omega,by omega⟩, ?_⟩,fun hge=> ?_⟩
 ·obtain ⟨n,hn⟩:∃n,(zbz T).getD i 0=n:=⟨_,rfl⟩
  have hmem:n∈zbz T:=by rw [←hn,List.getD_eq_getElem?_getD,List.getElem?_eq_getElem (by omega)];exact List.getElem_mem _
  obtain ⟨x,hx⟩:=zvJ hmem
  rw [hn]
  have hstep:zhP T ((zbz T).take (i+1))=zhP T ((zbz T).take i)++if (zbw n x).shown=true then [zbw n x]else []:=by
   rw [List.take_add_one]
   have e:(zbz T)[i]?.toList=[n]:=by
    rw [←hn,List.getD_eq_getElem?_getD,List.getElem?_eq_getElem (by omega)];rfl
   rw [e]
   unfold zhP
   rw [List.filterMap_append,List.filter_append]
   congr 1
   simp only [List.filterMap_cons,hx,Option.map_some,List.filterMap_nil,List.filter_cons,List.filter_nil]
  refine zaJ rfl rfl (Q:=fun rs m'=>∃v,rs=[zl ⟨n,x.parent,x.name,v⟩]∧SlO m' v 75 2 ((zaR x).map zap)) (fun w' vs hv hw _ _=> ?_) fun rs m3 _ hq hd3=> ?_
  ·obtain ⟨vs,rfl,_,hv⟩:=zt hv
   obtain ⟨vs,rfl,_,hv⟩:=zt hv
   obtain rfl:=zr hv
   exact zyw w' u (fun b o h=>hw b o (by rw [zbr];exact hu b o h)) L T hT n x hx (hok.small n x hx)
  obtain ⟨v,rfl,hv⟩:=hq
  obtain ⟨a,c,rfl⟩:∃a c,v= .slice a (zaR x).length c:=by
   rcases hv.2 with ⟨rfl,h3⟩|⟨ad,c,rfl,_⟩
   ·have:zaR x=[]:=by simpa using h3
    exact ⟨none,0,by rw [this];rfl⟩
   ·exact ⟨some ad,c,by rw [List.length_map]⟩
  simp (maxSteps:=2000000) only [zK,zi,zm,zf,zc,zb,zh,ze,za,zj,ev,look,zZ,zd,zS,zg,zk,Nat.reduceEqDiff,↓reduceIte,reduceCtorEq,Bool.and_true,Bool.true_and,true_and,and_true,zn,zY,zai,zbR]
  refine zac (zmW n) rfl rfl rfl fun _=> ?_
  simp (maxSteps:=2000000) only [zK,zu,zm,zq,zf,zT,zc,zb,zh,zH,ze,za,zj,RO.isGh,zI,zar,ev,evL,gvL,look,zZ,zd,zg,zk,zaF,zO,zP,unV,GV.getT,Value.oneCell',cond_true,cond_false,Nat.reduceEqDiff,Nat.reduceBEq,↓reduceIte,reduceCtorEq,List.nil_append,Nat.zero_add,Bool.and_true,Bool.true_and,Bool.not_false,BEq.rfl,true_and,and_true,Option.map_some,zcO,List.length_cons,List.length_nil,decide_eq_true_eq,decide_eq_false_iff_not,zbA,SV.mentions,ne_eq,not_false_eq_true,List.drop_zero,List.take_succ_cons,List.take_zero,↓zL,↓zN,zax,zdE,zn,List.length_map,zF,zai,zaY,zaV,zaG,List.length_map]
  have hup:TsOk (uni m3 mA) ts (zhP T ((zbz T).take i)):=hts.up (zao hd3)
  have hnew:TsOk (uni m3 mA) (ts++[⟨n,x.parent,x.name, .slice a (zaR x).length c⟩]) (zhP T ((zbz T).take i)++[zbw n x]):=hup.snoc ⟨rfl,rfl,rfl,hv.toR.up (zV m3 mA)⟩
  have goS:(zbw n x).shown=true→∀(fr:List (Nat×SV)) (pv:List (Nat×PV)),zaf fr [(0, .g (.s (.pointer (some ⟨L .t,0,none⟩)))),(14, .row 14 0 ((zbz T).length)),(15, .g (.s (.int .i64 ((zbz T).length)))),(16, .g (.s (.int .i64 ((i+1:Nat))))),(3, .row 3 0 (ts.length+1))]→
    zam pv [(14, .ro 1 (gi 0) ((zbz T).map gi)),(3, .row 49 4 (zl zTreeNode) (ts.map zl++[zl ⟨n,x.parent,x.name, .slice a (zaR x).length c⟩]))]→Q .normal ⟨fr,pv,[m2,m1],uni m3 mA⟩:=by
   intro hs fr pv hfr hpv
   subst hQ;simp only [zaB]
   refine ⟨(i+1,ts++[⟨n,x.parent,x.name, .slice a (zaR x).length c⟩],uni m3 mA),⟨by simp only;omega,by simp;omega, ?_⟩, ?_,zR ?_ ?_ rfl rfl rfl⟩
   ·simp only;rw [hstep,if_pos hs];exact hnew
   ·simp only;omega
   ·simpa using hfr
   ·simpa using hpv
  have goN:(zbw n x).shown=false→∀(fr:List (Nat×SV)) (pv:List (Nat×PV)),zaf fr [(0, .g (.s (.pointer (some ⟨L .t,0,none⟩)))),(14, .row 14 0 ((zbz T).length)),(15, .g (.s (.int .i64 ((zbz T).length)))),(16, .g (.s (.int .i64 ((i+1:Nat))))),(3, .row 3 0 (ts.length))]→
    zam pv [(14, .ro 1 (gi 0) ((zbz T).map gi)),(3, .row 49 4 (zl zTreeNode) (ts.map zl))]→Q .normal ⟨fr,pv,[m2,m1],uni m3 mA⟩:=by
   intro hs fr pv hfr hpv
   subst hQ;simp only [zaB]
   refine ⟨(i+1,ts,uni m3 mA),⟨by simp only;omega,by simp only;omega, ?_⟩, ?_,zR hfr hpv rfl rfl rfl⟩
   ·simp only;rw [hstep,hs];simpa using hup
   ·simp only;omega
  have hlA:(zaR x).length=(zbw n x).attrs.length:=rfl
  have hnn:n=(zbw n x).node:=rfl
  refine ⟨fun ht=>⟨fun hl=>⟨by omega,goS ?_ _ _ ?_ ?_⟩,fun hl=>goN ?_ _ _ ?_ ?_⟩,fun ht=>⟨by omega,goS ?_ _ _ ?_ ?_⟩⟩
  ·rw [TN.shown,zbc,←hnn,←hlA,decide_eq_true (by omega)];simp
  ·simp only [zaf,look,Nat.reduceEqDiff,↓reduceIte,reduceCtorEq,Bool.and_true,Bool.true_and,true_and,and_true]
   rw [zaN (by omega)]
   try simp
  ·simp [zam,look]
  ·rw [TN.shown,zbc,←hnn,←hlA,ht,decide_eq_false (by omega)];rfl
  ·simp only [zaf,look,Nat.reduceEqDiff,↓reduceIte,reduceCtorEq,Bool.and_true,Bool.true_and,true_and,and_true]
   rw [zaN (by omega)]
   try simp
  ·simp [zam,look]
  ·rw [TN.shown,zbc,←hnn,ht];rfl
  ·simp only [zaf,look,Nat.reduceEqDiff,↓reduceIte,reduceCtorEq,Bool.and_true,Bool.true_and,true_and,and_true]
   rw [zaN (by omega)]
   try simp
  ·simp [zam,look]
 ·subst hQ
  simp (maxSteps:=2000000) only [zi,zm,zf,zat,zaQ,zh,za,zj,ev,look,zd,↓reduceIte,reduceCtorEq]
  refine zfB 2 3 ts.length rfl rfl (by simp) fun v m5 hv5 ho5 hd5=> ?_
  simp (maxSteps:=2000000) only [zx,zf,zc,zab,zb,ze,look,zg,zk,cond_true,cond_false,Nat.reduceBEq,↓reduceIte,BEq.rfl,zbA,SV.mentions]
  have hfull:(zbz T).take i=zbz T:=List.take_of_length_le (by omega)
  rw [hfull]at hts
  exact zbq (rs:=[.s v]) _ rfl (fun _ _ h=>h) ⟨v,ts,rfl,ho5.toR.up (zV _ _),hts.up (zao hd5)⟩
end Go.Proofs.YtmjiojflncffeaaGreat.Vc

set_option linter.unusedVariables false
set_option linter.unusedSimpArgs false
set_option maxRecDepth 100000
namespace Go.Proofs.YtmjiojflncffeaaGreat.Vc
open Go Go.Proofs
deriving instance DecidableEq for Attr,TN
theorem zsn (a:Attr):kin (zap a) (zap zcU):=⟨trivial,trivial,trivial⟩
theorem zyZ (a b:Attr):ziC (zap a) (zap b)=decide (a=b):=by
 obtain ⟨k1,v1⟩:=a
 obtain ⟨k2,v2⟩:=b
 simp only [ziC,zap,ztN,Bool.and_true]
 by_cases h1:k1=k2
 ·by_cases h2:v1=v2
  ·simp [h1,h2]
  ·simp [h1,h2]
 ·simp [h1]
theorem zzp (a b:Attr):EqG Tryz.prog 75 (zap a) (zap b) (decide (a=b)):=by
 rw [←zyZ]
 exact zwf (z:=zap zcU) (by kernel_rfl) (by kernel_rfl) rfl (zsn a) (zsn b) (zuB a) (zuB b)
def zTN:TN:=⟨0,0,⟨#[]⟩,[]⟩
theorem TsOk.at {m:PH}:∀{ts:List TreeNode} {l:List TN} (i:Nat),TsOk m ts l→i<ts.length→(ts.getD i zTreeNode).node=(l.getD i zTN).node∧(ts.getD i zTreeNode).parent=(l.getD i zTN).parent∧(ts.getD i zTreeNode).name=(l.getD i zTN).name∧SlR m (ts.getD i zTreeNode).attrs 2 ((l.getD i zTN).attrs.map zap)
 |_::_,_::_,0,h,_=>h.1
 |_::ts,_::l,i+1,h,hi=>by simpa using TsOk.at (ts:=ts) (l:=l) i h.2 (by simpa using hi)
 |[],[],i,_,hi=>by simp at hi
 |[],_::_,_,h,_=>h.elim
 |_::_,[],_,h,_=>h.elim
end Go.Proofs.YtmjiojflncffeaaGreat.Vc

