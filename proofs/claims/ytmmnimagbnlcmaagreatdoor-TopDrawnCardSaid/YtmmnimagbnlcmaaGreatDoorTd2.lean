/- Texts of this claim, merged: SxA. -/
import Derived.Test.YtmmnimagbnlcmaaGreatDoorTd1
import Derived.WalkKit
import Derived.WalkSpells
import Derived.WalkLawsBesides
import Derived.Handy
import Derived.Lib.Hide
import Derived.Laws.BitsAllLaws
import Derived.Deep.MidRow
import Derived.Deep.WholeRow
import Derived.BigQuiet
import Derived.Laws.CopyOwn
import Derived.Deep.QuietTactic
import Derived.Laws.AppendOwnNone
section
namespace Go.Sx
open Go Go.RowKit Go.Fw
/-- A piece of the semantics that looks at no memory, run. -/
def still {α:Type} (P:Program):Sem α→Option α
  | .pure a=>some a
  | .program k=>still P (k P)
  | .mark _ k=>still P k
  | _=>none
theorem AI9 {P:Program} {α:Type} (s:Sem α) (v:α) (h:still P s=some v) (w:World):s.run P w= .ok v w:=by
  induction s with
  | pure a=>simp only[still,Option.some.injEq] at h;subst h;rfl
  | program k ih=>exact ih P h
  | mark m k ih=>exact ih h
  | _=>simp [still] at h
/-- What is known of the slots. -/
abbrev Fm:=List (Nat×Value)
def look:Fm→Nat→Option Value
  | [],_=>none
  | (j,v)::r,i=>bif Nat.beq i j then some v else look r i
def ev (s:Fm):Operand→Option Value
  | .tmp t=>look s t
  | .const v=>some v
  | .global g=>some (.pointer (some ⟨g,0,none⟩))
  | .func f=>some (.func (.func f) #[] #[])
def upd (s:Fm):Option Nat→Value→Fm
  | some d,v=>(d,v)::s
  | none,_=>s
/-- How many slots a frame has, and which deferred calls stand on it. -/
structure Sz where
  n:Nat
  ds:List Deferred:=[]
instance :Coe Nat Sz:=⟨fun n=>⟨n,[]⟩⟩
def okDst (n:Sz):Option Nat→Bool
  | some d=>Nat.blt d n.n
  | none=>true
structure Fr (n:Sz) (s:Fm) (a:Act):Prop where
  defers:a.defers=n.ds
  size:a.tmps.size=n.n
  has:∀i v,look s i=some v→a.tmps.getD i undef=v
theorem Fr.ev {n:Sz} {s:Fm} {a:Act} (h:Fr n s a) {x:Operand} {v:Value} (hx:ev s x=some v):a.eval x=v:=by
  cases x with
  | tmp t=>exact h.has t v hx
  | const u=>simp only[Sx.ev,Option.some.injEq] at hx;subst hx;rfl
  | global g=>simp only[Sx.ev,Option.some.injEq] at hx;subst hx;rfl
  | func f=>simp only[Sx.ev,Option.some.injEq] at hx;subst hx;rfl
theorem Fr.put {n:Sz} {s:Fm} {a:Act} (h:Fr n s a) (d:Option Nat) (v:Value) (hd:okDst n d=true):Fr n (upd s d v) (a.put d v):=by
  cases d with
  | none=>exact h
  | some d=>
    have hd':d<n.n:=by simpa [okDst,Nat.blt_eq] using hd
    refine⟨h.defers,by simpa [Act.put] using h.size,fun i u hi=>?_⟩
    simp only[upd,look] at hi
    by_cases e:i=d
    · subst e
      have e1:Nat.beq i i=true:=Nat.beq_eq▸rfl
      rw[e1,cond_true,Option.some.injEq] at hi
      subst hi
      simp only[Act.put,Array.getD_eq_getD_getElem?,Array.getElem?_setIfInBounds]
      simp only[if_true]
      rw[if_pos (by rw[h.size];exact hd')]
      rfl
    · have e2:Nat.beq i d=false:=by
        cases hb:Nat.beq i d with
        | false=>rfl
        | true=>exact absurd (Nat.eq_of_beq_eq_true hb) e
      rw[e2,cond_false] at hi
      have:=h.has i u hi
      simp only[Act.put,Array.getD_eq_getD_getElem?,Array.getElem?_setIfInBounds] at this ⊢
      rw[if_neg (fun x=>e x.symm)]
      exact this
/-- Less is known. -/
def Le (s s':Fm):Prop:=∀i v,look s i=some v→look s' i=some v
theorem Le.nil (s:Fm):Le [] s:=fun _ _ h=>by simp [look] at h
theorem Le.cons {s s':Fm} {j:Nat} {v:Value} (hj:look s' j=some v) (h:Le s s'):Le ((j,v)::s) s':=by
  intro i u hi
  simp only[look] at hi
  cases hb:Nat.beq i j with
  | true=>rw[hb,cond_true,Option.some.injEq] at hi;subst hi;rw[Nat.eq_of_beq_eq_true hb];exact hj
  | false=>rw[hb,cond_false] at hi;exact h i u hi
theorem Fr.le {n:Sz} {s s':Fm} {a:Act} (h:Fr n s' a) (hl:Le s s'):Fr n s a:=⟨h.defers,h.size,fun i v hi=>h.has i v (hl i v hi)⟩
/-- A block that the call holds: known whole, or a row that it may append to. -/
inductive Ent where
  | blk (b:Nat) (t:TypeId) (cs:List Value)
  | own (e:TypeId) (size:Nat) (a:Option Addr) (n c:Nat) (xs:List Value)
  | obj (b:Nat) (o:Obj)
def Ent.key:Ent→Option Nat
  | .blk b _ _=>some b
  | .own _ _ a n c _=>(Value.slice a n c).ownBlock
  | .obj b _=>some b
structure Ctx where
  B:Nat
  w0:World
def Ent.ok (G:Ctx) (w:World):Ent→Prop
  | .blk b t cs=>G.B≤b∧w.heap[b]? =some (.cells cs.toArray t (0,0))
  | .own e size a n c xs=>w.ownsRow G.B e size (.slice a n c) n xs
  | .obj b o=>G.B≤b∧w.heap[b]? =some o
def Ent.apart (x y:Ent):Prop:=∀k,x.key=some k→y.key≠some k
theorem Ent.apart_symm {x y:Ent} (h:x.apart y):y.apart x:=fun k hk hx=>h k hx hk
structure Holds (G:Ctx) (H:List Ent) (w:World):Prop where
  below:Below G.B G.w0 w
  base:G.B≤w.heap.size
  ok:∀x∈H,x.ok G w
  apart:H.Pairwise Ent.apart
theorem Ent.ok_lt {G:Ctx} {w:World} {x:Ent} (h:x.ok G w) {k:Nat} (hk:x.key=some k):G.B≤k∧k<w.heap.size:=by
  cases x with
  | blk b t cs=>
    simp only[Ent.key,Option.some.injEq] at hk
    subst hk
    exact⟨h.1,Ae2 h.2⟩
  | own e size a n c xs=>exact World.ownsRow.lt h k hk
  | obj b o=>
    simp only[Ent.key,Option.some.injEq] at hk
    subst hk
    exact⟨h.1,Ae2 h.2⟩
theorem Ba4 {w w':World} {B:Nat} {e:TypeId} {size:Nat} {v:Value} {n:Nat} {xs:List Value} (h:w.ownsRow B e size v n xs) (hb:∀k,v.ownBlock=some k→w'.heap[k]? =w.heap[k]?):w'.ownsRow B e size v n xs:=by
  refine⟨h.1,?_⟩
  rcases h.2 with hn|⟨g,cap,cur,rfl,hg,hh,rest⟩
  · exact .inl hn
  · exact .inr ⟨g,cap,cur,rfl,hg,(hb g rfl).trans hh,rest⟩
theorem Ent.ok_of {G:Ctx} {w w':World} {x:Ent} (h:x.ok G w) (hb:∀k,x.key=some k→w'.heap[k]? =w.heap[k]?):x.ok G w':=by
  cases x with
  | blk b t cs=>exact⟨h.1,(hb b rfl).trans h.2⟩
  | own e size a n c xs=>exact Ba4 h hb
  | obj b o=>exact⟨h.1,(hb b rfl).trans h.2⟩
theorem Holds.drop {G:Ctx} {x:Ent} {H:List Ent} {w:World} (h:Holds G (x::H) w):Holds G H w:=
  ⟨h.below,h.base,fun y hy=>h.ok y (List.mem_cons_of_mem _ hy),(List.pairwise_cons.1 h.apart).2⟩
theorem Holds.sub {G:Ctx} {H H':List Ent} {w:World} (h:Holds G H w) (hs:H'.Sublist H):Holds G H' w:=
  ⟨h.below,h.base,fun y hy=>h.ok y (hs.subset hy),h.apart.sublist hs⟩
theorem Holds.perm {G:Ctx} {H H':List Ent} {w:World} (h:Holds G H w) (hp:H.Perm H'):Holds G H' w:=
  ⟨h.below,h.base,fun y hy=>h.ok y (hp.mem_iff.2 hy),(hp.pairwise_iff (fun {_ _} h=>Ent.apart_symm h)).1 h.apart⟩
/-- One entry is picked out of what is held. -/
inductive Pick (x:Ent):List Ent→List Ent→Prop where
  | here (H:List Ent):Pick x (x::H) H
  | there {y:Ent} {H H':List Ent} (h:Pick x H H'):Pick x (y::H) (y::H')
theorem Pick.perm {x:Ent} {H H':List Ent} (h:Pick x H H'):H.Perm (x::H'):=by
  induction h with
  | here H=>exact List.Perm.refl _
  | there h ih=>exact(List.Perm.cons _ ih).trans (List.Perm.swap _ _ _)
theorem Holds.pick {G:Ctx} {x:Ent} {H H':List Ent} {w:World} (h:Holds G H w) (hp:Pick x H H'):Holds G (x::H') w:=h.perm hp.perm
/-- The world behind a step that touched one block at most, and made some. -/
theorem Holds.stepped {G:Ctx} {H:List Ent} {w w':World} (h:Holds G H w) (r:Option Nat) (hg:w.grownBy w' r) (hr:∀k,r=some k→G.B≤k) (hH:∀x∈H,∀k,x.key=some k→r≠some k):Holds G H w':=
  ⟨h.below.grown hg h.base hr,Nat.le_trans h.base hg.size,
    fun x hx=>Ent.ok_of (h.ok x hx) fun k hk=>hg.block k (Ent.ok_lt (h.ok x hx) hk).2 (fun e=>hH x hx k hk e.symm),h.apart⟩
theorem Holds.alloc {G:Ctx} {H:List Ent} {w:World} (h:Holds G H w) (t:TypeId) (cs:List Value):Holds G (.blk w.heap.size t cs::H) (w.alloc (.cells cs.toArray t)):=by
  have hb:∀k,k<w.heap.size→(w.alloc (.cells cs.toArray t)).heap[k]? =w.heap[k]? :=fun k hk=>Below.heap_alloc w _ k hk
  refine⟨h.below.alloc h.base _,Nat.le_trans h.base (by simp),fun x hx=>?_,List.pairwise_cons.2 ⟨fun y hy k hk=>?_,h.apart⟩⟩
  · rcases List.mem_cons.1 hx with rfl|hx
    · exact⟨h.base,heap_alloc_new _ _⟩
    · exact Ent.ok_of (h.ok x hx) fun k hk=>hb k (Ent.ok_lt (h.ok x hx) hk).2
  · simp only[Ent.key,Option.some.injEq] at hk
    subst hk
    intro e
    exact absurd (Ent.ok_lt (h.ok y hy) e).2 (Nat.lt_irrefl _)
theorem Holds.drew {G:Ctx} {H:List Ent} {w:World} (h:Holds G H w):Holds G H {w with drawn:=w.drawn+1}:=
  ⟨⟨h.below.os,h.below.tape,h.below.output,h.below.size,h.below.block⟩,h.base,fun x hx=>Ent.ok_of (h.ok x hx) fun _ _=>rfl,h.apart⟩
theorem Holds.set {G:Ctx} {H:List Ent} {w w':World} {b:Nat} {t:TypeId} {cs cs':List Value} (h:Holds G (.blk b t cs::H) w) (hw:w'.heap[b]? =some (.cells cs'.toArray t (0,0))) (ho:∀k,k≠b→w'.heap[k]? =w.heap[k]?)
    (hs:w'.heap.size=w.heap.size) (e1:w'.os=w.os) (e2:w'.tape=w.tape) (e3:w'.output=w.output):Holds G (.blk b t cs'::H) w':=by
  have hB:G.B≤b:=(h.ok _ List.mem_cons_self).1
  obtain⟨hap,hapH⟩:=List.pairwise_cons.1 h.apart
  refine⟨h.below.trans ⟨e1,e2,e3,Nat.le_of_eq hs.symm,fun k hk=>ho k (by omega)⟩,by rw[hs];exact h.base,fun x hx=>?_,List.pairwise_cons.2 ⟨fun y hy k hk=>hap y hy k hk,hapH⟩⟩
  rcases List.mem_cons.1 hx with rfl|hx
  · exact⟨hB,hw⟩
  · exact Ent.ok_of (h.ok x (List.mem_cons_of_mem _ hx)) fun k hk=>ho k (fun e=>hap x hx b rfl (e▸hk))
/-- Whoever holds this reads these cells there. -/
def Rd (G:Ctx) (H:List Ent) (a:Option Addr) (xs:List Value):Prop:=∀w,Holds G H w→At w a xs
theorem Rd.cons {G:Ctx} {H:List Ent} {a:Option Addr} {xs:List Value} {x:Ent} (h:Rd G H a xs):Rd G (x::H) a xs:=fun w hw=>h w hw.drop
theorem Rd.mem {G:Ctx} {H:List Ent} {e:TypeId} {size n c:Nat} {a:Option Addr} {xs:List Value} (h:Ent.own e size a n c xs∈H):Rd G H a xs:=fun w hw=>by
  have ho:w.ownsRow G.B e size (.slice a n c) n xs:=hw.ok _ h
  obtain⟨hl,⟨hv,h0⟩|⟨g,cap,cur,hv,hg,hh,hn,hm,hs,ht⟩⟩:=ho
  · left;subst h0;exact List.eq_nil_of_length_eq_zero (by simpa using hl)
  · have e1:a=some ⟨g,0,none⟩:=by injection hv
    subst e1
    right
    refine⟨g,0,rfl,Ae2 hh,fun i hi=>?_⟩
    rw[Nat.zero_add]
    show (match w.heap[g]? with|some (.cells c _ _)=>if (none:Option Nat).isSome then none else c[i]? |_=>none)=_
    rw[hh,←ht,List.getElem?_take]
    rw[←ht,List.length_take] at hi
    rw[if_pos (by omega),Array.getElem?_toList]
    rfl
theorem Rd.blk {G:Ctx} {H:List Ent} {b:Nat} {t:TypeId} {cs:List Value} (h:Ent.blk b t cs∈H):Rd G H (some ⟨b,0,none⟩) cs:=fun _ hw=>A67 (hw.ok _ h).2
theorem Rd.top {B:Nat} {w0:World} {H:List Ent} {a:Option Addr} {xs:List Value} (h:At w0 a xs) (hB:B=w0.heap.size):Rd ⟨B,w0⟩ H a xs:=fun _ hw=>h.mono (hB▸hw.below)
theorem Rd.mono {G:Ctx} {H H':List Ent} {a:Option Addr} {xs:List Value} (h:Rd G H a xs) (hs:∀w,Holds G H' w→Holds G H w):Rd G H' a xs:=fun w hw=>h w (hs w hw)
abbrev Post:=Exit→Fm→List Ent→Prop
def lift (G:Ctx) (n:Sz) (Q:Post):Exit→Act→World→Prop:=fun e a w=>∃s H,Fr n s a∧Holds G H w∧Q e s H
def SW (P:Program) (G:Ctx) (n:Sz) (c:Code) (Q:Post) (s:Fm) (H:List Ent):Prop:=∀a w,Fr n s a→Holds G H w→c.wp P (lift G n Q) a w
def SL (P:Program) (G:Ctx) (n:Sz) (ops:Array Oper) (Q:Post) (l:List Oper) (s:Fm) (H:List Ent):Prop:=∀a w,Fr n s a→Holds G H w→wpList P ops (lift G n Q) l a w
def thn (next:Fm→List Ent→Prop) (Q:Post):Post
  | .normal,s,H=>next s H
  | e,s,H=>Q e s H
def inb (id:Nat) (Q:Post):Post
  | .exit id',s,H=>if id'=id then Q .normal s H else Q (.exit id') s H
  | e,s,H=>Q e s H
/-- A way's end: what is asked there. -/
def AtQ (Q:Post) (e:Exit) (s:Fm) (H:List Ent):Prop:=Q e s H
section
variable {P:Program} {G:Ctx} {n:Sz} {ops:Array Oper} {Q:Post} {s:Fm} {H:List Ent}
theorem Aw5 {c:Code} {s':Fm} {H':List Ent} (hs:Le s' s) (hH:∀w,Holds G H w→Holds G H' w) (h:SW P G n c Q s' H'):SW P G n c Q s H:=fun a w ha hw=>h a w (ha.le hs) (hH w hw)
theorem G9 (h:AtQ Q .normal s H):SW P G n .skip Q s H:=fun _ _ ha hw=>wp_skip ⟨s,H,ha,hw,h⟩
theorem H7 (h:AtQ Q .ret s H):SW P G n .ret Q s H:=fun _ _ ha hw=>wp_ret ⟨s,H,ha,hw,h⟩
theorem N8 {id:Nat} (h:AtQ Q (.exit id) s H):SW P G n (.exit id) Q s H:=fun _ _ ha hw=>wp_exit ⟨s,H,ha,hw,h⟩
theorem D7 {x y:Code} (h:SW P G n x (thn (SW P G n y Q) Q) s H):SW P G n (.seq x y) Q s H:=fun a w ha hw=>
  wp_seq (wp_mono (h a w ha hw) fun e a' w' ⟨s',H',ha',hw',hq⟩=>by
    cases e with
    | normal=>exact hq a' w' ha' hw'
    | _=>exact⟨s',H',ha',hw',hq⟩)
theorem F6 {id:Nat} {c:Code} (h:SW P G n c (inb id Q) s H):SW P G n (.block id c) Q s H:=fun a w ha hw=>
  wp_block (wp_mono (h a w ha hw) fun e a' w' ⟨s',H',ha',hw',hq⟩=>by
    cases e with
    | exit id'=>
      simp only[Exit.inBlock]
      simp only[inb] at hq
      split
      · rename_i e;rw[if_pos e] at hq;exact⟨s',H',ha',hw',hq⟩
      · rename_i e;rw[if_neg e] at hq;exact⟨s',H',ha',hw',hq⟩
    | _=>exact⟨s',H',ha',hw',hq⟩)
theorem Bz1 {c:Operand} {x y:Code} {t:Bool} (hc:ev s c=some (.bool t)) (ht:t=true→SW P G n x Q s H) (hf:t=false→SW P G n y Q s H):SW P G n (.cond c x y) Q s H:=fun a w ha hw=>
  wp_cond_split (ha.ev hc) (fun e=>ht e a w ha hw) (fun e=>hf e a w ha hw)
theorem B15 {c:Code} {α:Type} (S:α→Fm) (E:α→List Ent) (I:α→Prop) (μ:α→Nat) (x0:α) (hI:I x0) (hs:Le (S x0) s) (hH:∀w,Holds G H w→Holds G (E x0) w)
    (round:∀x,I x→SW P G n c (thn (fun s' H'=>∃y,I y∧μ y<μ x∧Le (S y) s'∧∀w,Holds G H' w→Holds G (E y) w) Q) (S x) (E x)):SW P G n (.loop c) Q s H:=fun a w ha hw=>by
  intro b k cs
  have key:∀m x a w,μ x=m→I x→Fr n (S x) a→Holds G (E x) w→∃e a' w',lift G n Q e a' w'∧Arrives P (lone (b.at a (.code c:: .inLoop c::k)) cs w) b k cs e a' w':=by
    intro m
    induction m using Nat.strongRecOn with
    | _ m ih=>
      intro x a w hm hx ha hw
      obtain⟨e,a₁,w₁,⟨s',H',ha',hw',hq⟩,harr⟩:=round x hx a w ha hw b (.inLoop c::k) cs
      cases e with
      | normal=>
        obtain⟨y,hy,hlt,hle,hh⟩:=hq
        obtain⟨e₂,a₂,w₂,hq₂,harr₂⟩:=ih (μ y) (hm▸hlt) y a₁ w₁ rfl hy (ha'.le hle) (hh _ hw')
        exact⟨e₂,a₂,w₂,hq₂,.of_steps (Steps.trans harr (.one step_inLoop)) harr₂⟩
      | exit id=>exact⟨_,a₁,w₁,⟨s',H',ha',hw',hq⟩,.pass (x:= .inLoop c) rfl (fun _ _=> .inl (by simp)) harr⟩
      | goto l=>exact⟨_,a₁,w₁,⟨s',H',ha',hw',hq⟩,.pass (x:= .inLoop c) rfl (fun _ _=> .inl (by simp)) harr⟩
      | ret=>exact⟨_,a₁,w₁,⟨s',H',ha',hw',hq⟩,.pass (x:= .inLoop c) rfl (fun _ _=> .inl (by simp)) harr⟩
      | panic ch=>exact⟨_,a₁,w₁,⟨s',H',ha',hw',hq⟩,.pass (x:= .inLoop c) rfl (fun _ _=> .inl (by simp)) harr⟩
      | outgrown=>exact⟨_,a₁,w₁,⟨s',H',ha',hw',hq⟩,.pass (x:= .inLoop c) rfl (fun _ _=> .inl (by simp)) harr⟩
  obtain⟨e,a',w',hq,harr⟩:=key _ x0 a w rfl hI (ha.le hs) (hH w hw)
  exact⟨e,a',w',hq,.of_steps (.one step_loop) harr⟩
end
end Go.Sx
namespace Go.Sx
open Go Go.RowKit Go.Fw
/-- The operation is carried out: it bears no guard, or its guard stands. -/
def Want (ops:Array Oper) (o:Oper) (s:Fm):Prop:=o.guard=none∨∃i b o' d,o.guard=some (i,b)∧ops[i]? =some o'∧o'.dst=some d∧look s d=some (.bool b)
def Skips (ops:Array Oper) (o:Oper) (s:Fm):Prop:=∃i b o' d,o.guard=some (i,!b)∧ops[i]? =some o'∧o'.dst=some d∧look s d=some (.bool b)
theorem Ah2 {a:Act} {d:Nat} {v:Value} (h:a.tmps.getD d undef=v) (hv:v≠undef):a.tmps[d]? =some v:=by
  rw[Array.getD_eq_getD_getElem?] at h
  cases hd:a.tmps[d]? with
  | none=>rw[hd] at h;exact absurd h.symm hv
  | some u=>rw[hd] at h;exact congrArg some h
theorem Aa9 (b:Bool):Value.bool b≠undef:=by intro h;cases h
theorem Want.wanted {ops:Array Oper} {o:Oper} {s:Fm} {n:Sz} {a:Act} (h:Want ops o s) (ha:Fr n s a):Region.wanted o (yielded ops a.tmps)=true:=by
  rcases h with h|⟨i,b,o',d,hg,ho,hd,hl⟩
  · simp [Region.wanted,h]
  · have:=Ah2 (ha.has d _ hl) (Aa9 b)
    simp [Region.wanted,hg,yielded,ho,hd,this]
theorem Skips.wanted {ops:Array Oper} {o:Oper} {s:Fm} {n:Sz} {a:Act} (h:Skips ops o s) (ha:Fr n s a):Region.wanted o (yielded ops a.tmps)=false:=by
  obtain⟨i,b,o',d,hg,ho,hd,hl⟩:=h
  have:=Ah2 (ha.has d _ hl) (Aa9 b)
  cases b<;>simp [Region.wanted,hg,yielded,ho,hd,this]
section
variable {P:Program} {G:Ctx} {n:Sz} {ops:Array Oper} {Q:Post} {s:Fm} {H:List Ent} {o:Oper} {rest:List Oper}
theorem A8 (h:AtQ Q .normal s H):SL P G n ops Q [] s H:=fun _ _ ha hw=>⟨s,H,ha,hw,h⟩
theorem A7 {id:Nat} {l:List Oper} (h:SL P G n l.toArray Q l s H):SW P G n (.region id l.toArray false) Q s H:=fun a w ha hw=>wp_region_lit (h a w ha hw)
theorem AC4 (hg:Want ops o s) (h:∀a w,Fr n s a→Holds G H w→∀K:Act→World→Prop,(∀a' w',wpList P ops (lift G n Q) rest a' w'→K a' w')→o.wp P a w K (lift G n Q)):SL P G n ops Q (o::rest) s H:=fun a w ha hw=>
  wpList_step fun K hK=>by rw[if_pos (hg.wanted ha)];exact h a w ha hw K hK
theorem BG2 {d:Nat} (hg:∀a,Fr n s a→Region.wanted o (yielded ops a.tmps)=false) (h1:o.dst=some d) (h2:Nat.blt d n.n=true) (h:SL P G n ops Q rest ((d,undef)::s) H):SL P G n ops Q (o::rest) s H:=fun a w ha hw=>
  wpList_step fun K hK=>by
    rw[if_neg (by rw[hg a ha];decide)]
    have h3:okDst n o.dst=true:=by rw[h1];exact h2
    have h4:upd s o.dst undef=(d,undef)::s:=by rw[h1];rfl
    rw[←h4] at h
    exact hK _ _ (h _ w (ha.put _ _ h3) hw)
theorem Skips.undef {ops:Array Oper} {o o':Oper} {s:Fm} {n:Sz} {i j:Nat} {b:Bool} {a:Act} (hg:o.guard=some (i,b)) (ho:ops[i]? =some o') (hd:o'.dst=some j) (hl:look s j=some undef) (ha:Fr n s a):Region.wanted o (yielded ops a.tmps)=false:=by
  have h:=ha.has j _ hl
  have hy:yielded ops a.tmps i=none:=by
    unfold yielded
    simp only[ho,Option.bind_some,hd]
    rw[Array.getD_eq_getD_getElem?] at h
    cases hq:a.tmps[j]? with
    | none=>rfl
    | some u=>rw[hq] at h;simp only[Option.getD_some] at h;subst h;rfl
  simp [Region.wanted,hg,hy]
/-- The operation yields this value and leaves the world as it is. -/
def Yields (P:Program) (G:Ctx) (n:Sz) (s:Fm) (H:List Ent) (o:Oper) (v:Value):Prop:=∀a w,Fr n s a→Holds G H w→(execOp a.eval o).run P w= .ok (.value v) w
theorem okd {d:Nat} (h1:o.dst=some d) (h2:Nat.blt d n.n=true):okDst n o.dst=true:=by rw[h1];exact h2
theorem updd {d:Nat} (h1:o.dst=some d) (v:Value):upd s o.dst v=(d,v)::s:=by rw[h1];rfl
theorem BK5 {i d:Nat} {b:Bool} {o':Oper} (hg:o.guard=some (i,b)) (ho:ops[i]? =some o') (hd:o'.dst=some d) (hl:look s d=some (.bool b)) (h:SL P G n ops Q ({o with guard:=none}::rest) s H):SL P G n ops Q (o::rest) s H:=fun a w ha hw=>by
  have hwant:Region.wanted o (yielded ops a.tmps)=true:=Want.wanted (.inr ⟨i,b,o',d,hg,ho,hd,hl⟩) ha
  have h':=h a w ha hw
  unfold wpList at h' ⊢
  rw[if_pos hwant]
  rw[if_pos (by simp [Region.wanted])] at h'
  exact h'
theorem AB1 {v:Value} {d:Nat} (hg:o.guard=none) (hy:Yields P G n s H o v) (h1:o.dst=some d) (h2:Nat.blt d n.n=true) (h:SL P G n ops Q rest ((d,v)::s) H):SL P G n ops Q (o::rest) s H:=by
  have hd:=okd (n:=n) h1 h2
  rw[←updd h1] at h
  replace hg:Want ops o s:= .inl hg
  exact
  AC4 hg fun a w ha hw K hK=>by
    unfold Oper.wp
    rw[hy a w ha hw]
    exact hK _ _ (h _ _ (ha.put _ _ hd) hw)
theorem Y1 {s:Sem Value} {v:Value} {w:World} (h:s.run P w= .ok v w):(do pure (Next.value (←s)):Sem Next).run P w= .ok (.value v) w:=by
  simp only[Sem.run_bind,h,Result.andThen_ok,Sem.run_pure]
theorem V4 {x:Operand} {v:Value} (ho:o.op= .move x) (hx:ev s x=some v):Yields P G n s H o v:=fun a w ha _=>by unfold execOp;rw[ho];simp only[ha.ev hx,Sem.run_pure]
theorem X7 {x:Operand} {v:Value} (ho:o.op= .assign x) (hx:ev s x=some v):Yields P G n s H o v:=fun a w ha _=>by unfold execOp;rw[ho];simp only[ha.ev hx,Sem.run_pure]
theorem Z7 {op:UnOp} {t:TypeId} {x:Operand} {vx v:Value} (ho:o.op= .unOp op t x) (hx:ev s x=some vx) (hs:still P (Op.unary op vx)=some v):Yields P G n s H o v:=fun a w ha _=>by
  unfold execOp;rw[ho];simp only[ha.ev hx];exact Y1 (AI9 _ _ hs w)
theorem K7 {i:Nat} {x:Operand} {vx v:Value} (ho:o.op= .extract x i) (hx:ev s x=some vx) (hs:still P (Instr.extract vx i)=some v):Yields P G n s H o v:=fun a w ha _=>by
  unfold execOp;rw[ho];simp only[ha.ev hx];exact Y1 (AI9 _ _ hs w)
theorem H8 {x:Operand} {p:Addr} (ho:o.op= .nilCheck x) (hx:ev s x=some (.pointer (some p))):Yields P G n s H o (.pointer (some p)):=fun a w ha _=>by
  unfold execOp;rw[ho];simp only[ha.ev hx,Sem.run_pure]
theorem B18 {t:TypeId} {x:Operand} {i:Nat} {vx v:Value} (ho:o.op= .field t x i) (hx:ev s x=some vx) (hs:still P (Instr.field t vx i)=some v):Yields P G n s H o v:=fun a w ha _=>by
  unfold execOp;rw[ho];simp only[ha.ev hx];exact Y1 (AI9 _ _ hs w)
/-- The numbers of a kind. -/
def Fits:IntKind→Int→Prop
  | .i64,r=> -9223372036854775808≤r∧r≤9223372036854775807
  | .u64,r=>0≤r∧r≤18446744073709551615
  | .u8,r=>0≤r∧r≤255
  | .i32,r=> -2147483648≤r∧r≤2147483647
  | _,_=>False
theorem Fits.wrap {k:IntKind} {r:Int} (h:Fits k r):k.wrap r=r:=by
  cases k<;>simp only[Fits] at h
  case i64=>exact IntWalk.i64_in _ (by omega)
  case u64=>exact IntWalk.u64_in _ (by omega)
  case u8=>exact IntWalk.u8_in _ (by omega)
  case i32=>exact IntWalk.i32_in _ (by omega)
/-- A list, spelled out. -/
inductive NF:List Value→List Value→Prop where
  | nil {l:List Value} (h:l=[]):NF l []
  | cons {l r r':List Value} {v:Value} (h:l=v::r) (hr:NF r r'):NF l (v::r')
  | keep (l:List Value):NF l l
theorem NF.eq {l l':List Value} (h:NF l l'):l=l':=by
  induction h with
  | nil h=>exact h
  | cons h _ ih=>rw[h,ih]
  | keep l=>rfl
/-- The cells of a value. -/
inductive Cs:Value→List Value→Prop where
  | agg (l:List Value):Cs (.agg l.toArray) l
  | one {v:Value} (h:v.oneCell'=true):Cs v [v]
theorem Cs.cells {v:Value} {l:List Value} (h:Cs v l):v.cells=l.toArray:=by
  cases h with
  | agg l=>rfl
  | one h=>cases v<;>(first|rfl|cases h)
/-- The values of operands. -/
inductive Evs (s:Fm):List Operand→List Value→Prop where
  | nil:Evs s [] []
  | cons {x:Operand} {v:Value} {l:List Operand} {r:List Value} (h:ev s x=some v) (hr:Evs s l r):Evs s (x::l) (v::r)
theorem Evs.map {s:Fm} {l:List Operand} {r:List Value} (h:Evs s l r) {n:Sz} {a:Act} (ha:Fr n s a):l.map a.eval=r:=by
  induction h with
  | nil=>rfl
  | cons h _ ih=>rw[List.map_cons,ha.ev h,ih]
/-- A new variable. -/
theorem B61 {elem:TypeId} {x:Operand} {v:Value} {cs:List Value} {d:Nat} (hg:o.guard=none) (ho:o.op= .box elem x) (hx:ev s x=some v) (hc:Cs v cs) (h1:o.dst=some d) (h2:Nat.blt d n.n=true)
    (h:∀b,SL P G n ops Q rest ((d,.pointer (some ⟨b,0,none⟩))::s) (.blk b elem cs::H)):SL P G n ops Q (o::rest) s H:=by
  have hd:=okd (n:=n) h1 h2
  simp only[←updd h1] at h
  replace hg:Want ops o s:= .inl hg
  exact
  AC4 hg fun a w ha hw K hK=>by
    unfold Oper.wp execOp
    simp only[ho,ha.ev hx,Instr.box,newVar,newRow,newObj,hc.cells]
    exact hK _ _ (h _ _ _ (ha.put _ _ hd) (hw.alloc elem cs))
theorem Bf8 {elem:TypeId} {z:Value} {cs:List Value} {d:Nat} (hg:o.guard=none) (ho:o.op= .alloc elem) (hz:still P (zeroValue elem)=some z) (hc:Cs z cs) (h1:o.dst=some d) (h2:Nat.blt d n.n=true)
    (h:∀b,SL P G n ops Q rest ((d,.pointer (some ⟨b,0,none⟩))::s) (.blk b elem cs::H)):SL P G n ops Q (o::rest) s H:=by
  have hd:=okd (n:=n) h1 h2
  simp only[←updd h1] at h
  replace hg:Want ops o s:= .inl hg
  exact
  AC4 hg fun a w ha hw K hK=>by
    unfold Oper.wp execOp
    simp only[ho,Instr.alloc,newVar,newRow,newObj,Sem.run_bind,AI9 _ _ hz w,Result.andThen_ok,hc.cells]
    exact hK _ _ (h _ _ _ (ha.put _ _ hd) (hw.alloc elem cs))
def rowB:TypeDesc→Bool
  | .struct _| .array _ _=>true
  | _=>false
theorem AQ2 {w:World} {t:TypeId} {d:TypeDesc} (hu:P.underlying t=some d):(isAgg t).run P w= .ok (rowB d) w:=by
  unfold isAgg
  simp only[Sem.run_bind,run_underlying hu,Result.andThen_ok]
  cases d<;>rfl
theorem AQ9 {w:World} {t:TypeId} {d:TypeDesc} {p:Addr} {v:Value} (hu:P.underlying t=some d) (hr:rowB d=false) (hc:w.cell? p=some v):(Instr.loadAt t (.pointer (some p))).run P w= .ok v w:=by
  simp only[Instr.loadAt,Instr.sureAddr,loadVar,Sem.run_bind,Sem.run_pure,Result.andThen_ok,AQ2 hu,hr]
  show (load p).run P w=_
  unfold load Sem.run
  simp only[hc,Sem.run]
theorem AK3 {w:World} {t:TypeId} {d:TypeDesc} {b o:Nat} {cs:List Value} (hu:P.underlying t=some d) (hr:rowB d=true) (hi:(P.info? t).map (·.size)=some cs.length) (hc:∀j v,cs[j]? =some v→w.cell? ⟨b,o+j,none⟩=some v):
    (Instr.loadAt t (.pointer (some ⟨b,o,none⟩))).run P w= .ok (.agg cs.toArray) w:=by
  simp only[Instr.loadAt,Instr.sureAddr,Sem.run_bind,Sem.run_pure,Result.andThen_ok]
  exact run_loadVar_mid w b o t cs d hc hu (by cases d<;>simp_all [rowB,TypeDesc.isRow]) hi
/-- The place of element k. -/
def x8 (a:Option Addr) (k:Nat):Value:= .pointer (a.map (·.add k))
theorem At.someAt {w:World} {a:Option Addr} {xs:List Value} (h:At w a xs) (hx:0<xs.length):∃b o,a=some ⟨b,o,none⟩∧∀i,i<xs.length→w.cell? ⟨b,o+i,none⟩=xs[i]? :=by
  rcases h with h|⟨b,o,ha,_,hc⟩
  · subst h;exact absurd hx (by simp)
  · exact⟨b,o,ha,hc⟩
theorem BA8 {t e:TypeId} {x y:Operand} {a:Option Addr} {len c sz:Nat} {k:IntKind} {i:Int} {xs:List Value} (ho:o.op= .indexAddr t x y) (hx:ev s x=some (.slice a len c)) (hy:ev s y=some (.int k i)) (hu:P.underlying t=some (.slice e)) (hi:(P.info? e).map (·.size)=some sz)
    (hr:Rd G H a xs) (hl:len≤xs.length) (h0:0≤i) (h1:i<len):Yields P G n s H o (x8 a (i.toNat * sz)):=fun act w ha hw=>by
  unfold execOp;rw[ho];simp only[ha.ev hx,ha.ev hy]
  obtain⟨b,off,rfl,-⟩:=At.someAt (hr w hw) (by omega)
  refine Y1 ?_
  cases hq:P.info? e with
  | none=>simp [hq] at hi
  | some inf=>
    have hs:inf.size=sz:=by simpa [hq] using hi
    simp only[Instr.indexAt,asIntOf,Sem.run_bind,Sem.run_pure,Result.andThen_ok,run_underlying hu]
    rw[if_pos ⟨h0,h1⟩]
    simp only[sizeOf,typeInfo,Sem.run_bind,Sem.run_pure,Result.andThen_ok]
    simp [hq,hs,x8,program,Sem.run]
/-- A field's place. -/
theorem Ag9 {t:TypeId} {x:Operand} {b off fo i sz:Nat} {fs:Array Field} {f:Field} {p:Addr} (ho:o.op= .fieldAddr t x i) (hx:ev s x=some (.pointer (some ⟨b,off,none⟩))) (hu:P.underlying t=some (.struct fs)) (hf:fs[i]? =some f) (hfo:some f.offset=some fo) (hi:(P.info? f.type).map (·.size)=some (sz+1)) (hp:p=⟨b,off+fo,none⟩):
    Yields P G n s H o (.pointer (some p)):=fun act w ha _=>by
  subst hp
  simp only[Option.some.injEq] at hfo
  subst hfo
  unfold execOp;rw[ho];simp only[ha.ev hx]
  refine Y1 ?_
  cases hq:P.info? f.type with
  | none=>simp [hq] at hi
  | some inf=>
    have hs:inf.size=sz+1:=by simpa [hq] using hi
    simp [Instr.fieldAt,run_underlying hu,hf,Instr.sureAddr,fieldPlace,sizeOf,typeInfo,program,Sem.run,hq,hs,Addr.add_mid]
/-- A store into a block that the call holds. -/
theorem Ax2 {t t':TypeId} {x y:Operand} {b off:Nat} {cs cs':List Value} {v:Value} {H':List Ent} (hg:o.guard=none) (ho:o.op= .store t x y) (hx:ev s x=some (.pointer (some ⟨b,off,none⟩))) (hy:ev s y=some v) (hp:Pick (.blk b t' cs) H H') (h1:v.oneCell'=true)
    (hi:(P.info? t).map (·.size)=some 1) (hl:off<cs.length) (hn:NF (cs.set off v) cs') (hd:o.dst=none) (h:SL P G n ops Q rest s (.blk b t' cs'::H')):SL P G n ops Q (o::rest) s H:=
  AC4 (.inl hg) fun a w ha hw K hK=>by
    have hw:=hw.pick hp
    have hrow:=(hw.ok _ List.mem_cons_self).2
    unfold Oper.wp execOp
    simp only[ho,ha.ev hx,ha.ev hy]
    cases hq:P.info? t with
    | none=>simp [hq] at hi
    | some inf=>
      have hs:inf.size=1:=by simpa [hq] using hi
      have hcell:w.cell? ⟨b,off,none⟩=some cs[off]:=(AL7 hrow).trans (List.getElem?_eq_getElem hl)
      have hfz:w.frozen? ⟨b,off,none⟩=false:=Bi2 hrow
      have hcs:v.cells=#[v]:=by cases v<;>(first|rfl|cases h1)
      have hrun:(Instr.storeAt t (.pointer (some ⟨b,off,none⟩)) v).run P w= .ok () (w.setCell ⟨b,off,none⟩ v):=by
        simp only[Instr.storeAt,Instr.sureAddr,storeVar,hcs,Sem.run_bind,Sem.run_pure,Result.andThen_ok,sizeOf,typeInfo,program]
        simp only[Sem.run,hq,hs,Result.andThen_ok,Sem.run_pure]
        simp only[List.size_toArray,List.length_cons,List.length_nil,Nat.zero_add,ne_eq,not_true_eq_false,if_false,storeCells,store,Addr.add_mid,Nat.add_zero]
        cases v<;>(first|(cases h1;done)|simp [Sem.run,hcell,hfz,Sem.bind,bind,pure])
      simp only[Sem.run_bind,hrun,Result.andThen_ok]
      have hw':Holds G (.blk b t' cs'::H') (w.setCell ⟨b,off,none⟩ v):=by
        rw[←hn.eq]
        exact hw.set (Bz7 v hrow) (fun k hk=>Below.heap_setCell w _ v k hk) (by simp [World.setCell]) rfl rfl rfl
      exact hK _ _ (h _ _ (by rw[hd];exact ha) hw')
theorem AX8 {t t':TypeId} {x y:Operand} {b:Nat} {cs cs':List Value} {H':List Ent} (hg:o.guard=none) (ho:o.op= .store t x y) (hx:ev s x=some (.pointer (some ⟨b,0,none⟩))) (hy:ev s y=some (.agg cs'.toArray)) (hp:Pick (.blk b t' cs) H H') (h1:cs'.all (·.oneCell')=true)
    (hi:(P.info? t).map (·.size)=some cs'.length) (hl:cs.length=cs'.length) (hd:o.dst=none) (h:SL P G n ops Q rest s (.blk b t' cs'::H')):SL P G n ops Q (o::rest) s H:=
  AC4 (.inl hg) fun a w ha hw K hK=>by
    have hw:=hw.pick hp
    have hrow:=(hw.ok _ List.mem_cons_self).2
    unfold Oper.wp execOp
    simp only[ho,ha.ev hx,ha.ev hy,Instr.storeAt,Instr.sureAddr,Sem.run_bind,Sem.run_pure,Result.andThen_ok,run_storeVar_row w b t' t cs.toArray cs'.toArray hrow (by simpa using hi) (by simpa using hl) (all_oneCell_toArray (by simpa using h1))]
    have hw':Holds G (.blk b t' cs'::H') (w.setRow b cs'.toArray):=hw.set (setRow_heap w b _ _ t' (0,0) hrow) (fun k hk=>setRow_other w b k _ hk) (by simp [World.setRow]) rfl rfl rfl
    exact hK _ _ (h _ _ (by rw[hd];exact ha) hw')
end
end Go.Sx
namespace Go.Sx
open Go Go.RowKit Go.Fw
/-- Function f has a body and is entered. -/
def Callee (P:Program) (f:FuncId):Prop:=∀args w,(callFunc f args).run P w= .ok (.enter f args) w
theorem j6 {P:Program} {f:FuncId} {fn:Func} (hf:P.funcs[f]? =some fn) (hn:(fn.name== "runtime.NumGoroutine")=false) (hb:fn.body.isNone=false):Callee P f:=fun args w=>by
  simp only[callFunc,program,Sem.run_bind,Sem.run,Result.andThen_ok,hf,hn,hb]
  simp [Sem.run]
/-- A contract: with these arguments and this much held, the call returns. -/
def SC (P:Program) (G:Ctx) (f:FuncId) (args:List Value) (H:List Ent) (R:Value→List Ent→Prop):Prop:=
  Callee P f∧∀w,Holds G H w→Calls P f args.toArray w fun e w'=>∃v H',e= .returned v∧Holds G H' w'∧R v H'
theorem SC.mono {P:Program} {G:Ctx} {f:FuncId} {args:List Value} {H:List Ent} {R R':Value→List Ent→Prop} (h:SC P G f args H R) (hr:∀v H',R v H'→R' v H'):SC P G f args H R':=
  ⟨h.1,fun w hw=>(h.2 w hw).mono fun _ _ ⟨v,H',he,hw',q⟩=>⟨v,H',he,hw',hr _ _ q⟩⟩
section
variable {P:Program} {G:Ctx} {n:Sz} {ops:Array Oper} {Q:Post} {s:Fm} {H:List Ent} {o:Oper} {rest:List Oper}
theorem A82 {f:FuncId} {xs:Array Operand} {ats:Array TypeId} {vs:List Value} {a:Act} {w:World} (ho:o.op= .call {callee:= .value (.func f),args:=xs,argTypes:=ats}) (he:Evs s xs.toList vs) (hc:Callee P f) (ha:Fr n s a):(execOp a.eval o).run P w= .ok (.enter f vs.toArray) w:=by
  have e1:xs.map a.eval=vs.toArray:=by
    rw[←he.map ha,←List.map_toArray,Array.toArray_toList]
  have e2:execOp a.eval o=callFunc f (#[]++xs.map a.eval++#[]):=by
    cases o;simp only at ho;subst ho;rfl
  rw[e2,e1]
  simpa using hc vs.toArray w
theorem BF0 {f:FuncId} {xs:Array Operand} {ats:Array TypeId} {vs:List Value} {R:Value→List Ent→Prop} {d:Nat} (hg:o.guard=none) (ho:o.op= .call {callee:= .value (.func f),args:=xs,argTypes:=ats}) (he:Evs s xs.toList vs) (hc:SC P G f vs H R) (h1d:o.dst=some d) (h2d:Nat.blt d n.n=true)
    (h:∀v H',R v H'→SL P G n ops Q rest ((d,v)::s) H'):SL P G n ops Q (o::rest) s H:=by
  have hd:=okd (n:=n) h1d h2d
  simp only[←updd h1d] at h
  replace hg:Want ops o s:= .inl hg
  exact
  AC4 hg fun a w ha hw K hK=>by
    unfold Oper.wp
    rw[A82 ho he hc.1 ha]
    exact(hc.2 w hw).mono fun e w' ⟨v,H',he,hw',q⟩=>by subst he;exact hK _ _ (h v H' q _ _ (ha.put _ _ hd) hw')
/-- A call that yields one value and leaves what is held. -/
def SV (P:Program) (G:Ctx) (f:FuncId) (args:List Value) (H:List Ent) (v:Value):Prop:=SC P G f args H fun u H'=>u=v∧H'=H
theorem Bh4 {f:FuncId} {xs:Array Operand} {ats:Array TypeId} {vs:List Value} {v:Value} {d:Nat} (hg:o.guard=none) (ho:o.op= .call {callee:= .value (.func f),args:=xs,argTypes:=ats}) (he:Evs s xs.toList vs) (hc:SV P G f vs H v) (h1d:o.dst=some d) (h2d:Nat.blt d n.n=true)
    (h:SL P G n ops Q rest ((d,v)::s) H):SL P G n ops Q (o::rest) s H:=BF0 hg ho he hc h1d h2d fun _ _ ⟨e1,e2⟩=>by subst e1;subst e2;exact h
/-- A slice literal. -/
theorem Aw0 {t e:TypeId} {len sz:Nat} {parts:Array (Nat×Operand)} {vs cs:List Value} {d:Nat} (hg:o.guard=none) (ho:o.op= .buildSlice t len parts) (he:Evs s (parts.toList.map (·.2)) vs) (hu:P.underlying t=some (.slice e)) (hi:(P.info? e).map (·.size)=some sz)
    (hb:builtSlice P e len ((parts.toList.map (·.1)).zip vs)=some cs.toArray) (hl:cs.length=len * sz) (hm:len≤1000) (h1d:o.dst=some d) (h2d:Nat.blt d n.n=true)
    (h:∀b,SL P G n ops Q rest ((d,.slice (some ⟨b,0,none⟩) len len)::s) (.own e sz (some ⟨b,0,none⟩) len len cs::H)):SL P G n ops Q (o::rest) s H:=by
  have hd:=okd (n:=n) h1d h2d
  simp only[←updd h1d] at h
  replace hg:Want ops o s:= .inl hg
  exact
  AC4 hg fun a w ha hw K hK=>by
    have hp:((parts.map fun (i,x)=>(i,a.eval x)).toList)=(parts.toList.map (·.1)).zip vs:=by
      rw[Array.toList_map,←he.map ha]
      generalize parts.toList=l
      induction l with
      | nil=>rfl
      | cons x l ih=>obtain⟨i,x⟩:=x;simp only[List.map_cons,List.zip_cons_cons,ih]
    unfold Oper.wp execOp
    simp only[ho,Sem.run_bind,run_buildSlice w t e len _ cs.toArray hu (by rw[hp];exact hb),Result.andThen_ok]
    have hw2:=hw.alloc e cs
    have hw3:Holds G (.own e sz (some ⟨w.heap.size,0,none⟩) len len cs::H) (w.alloc (.cells cs.toArray e)):=by
      refine⟨hw2.below,hw2.base,fun x hx=>?_,List.pairwise_cons.2 ⟨fun y hy k hk=>(List.pairwise_cons.1 hw2.apart).1 y hy k hk,(List.pairwise_cons.1 hw2.apart).2⟩⟩
      rcases List.mem_cons.1 hx with rfl|hx
      · have:=hw2.ok _ List.mem_cons_self
        exact⟨hl,.inr ⟨w.heap.size,len,cs.toArray,rfl,this.1,this.2,Nat.le_refl _,by unfold maxLen;omega,by simpa using hl,by rw[←hl];simp⟩⟩
      · exact hw2.ok x (List.mem_cons_of_mem _ hx)
    exact hK _ _ (h _ _ _ (ha.put _ _ hd) hw3)
theorem Holds.nilrow {w:World} (h:Holds G H w) (e:TypeId) (sz:Nat):Holds G (.own e sz none 0 0 []::H) w:=by
  refine⟨h.below,h.base,fun x hx=>?_,List.pairwise_cons.2 ⟨fun y hy k hk=>(by cases hk),h.apart⟩⟩
  rcases List.mem_cons.1 hx with rfl|hx
  · exact World.ownsRow_nil _ _ _ _
  · exact h.ok x hx
theorem Am7 {w:World} {B:Nat} {t ty e:TypeId} {i:TypeInfo} {sz len c c2:Nat} {a a2:Option Addr} {xs:List Value} (ht:P.underlying t=some (.slice e)) (hi:P.info? e=some i) (hown:w.ownsRow B e sz (.slice a len c) len xs):
    (Builtin.append_ #[t,t] ty #[.slice a len c,.slice a2 0 c2]).run P w= .ok (.slice a len c) w:=by
  rcases hown.2 with ⟨hv,rfl⟩|⟨g,cap,cur,hv,_,_,hnc,_⟩
  · simp only[Value.slice.injEq,true_and] at hv
    obtain⟨rfl,rfl⟩:=hv
    cases a2<;>simp [Builtin.append_,run_underlying ht,sizeOf,typeInfo,hi,Builtin.lenOf,Builtin.firstCells,loadCells,loadCellsFrom]
  · obtain⟨rfl,rfl⟩:a=some ⟨g,0,none⟩∧c=cap:=by simpa [Value.slice.injEq] using hv
    cases a2<;>simp [Builtin.append_,run_underlying ht,sizeOf,typeInfo,hi,Builtin.lenOf,Builtin.firstCells,loadCells,loadCellsFrom,hnc,storeCells]
theorem Ao2 {w:World} {B:Nat} {t ty e:TypeId} {i:TypeInfo} {z:Value} {len c m c2:Nat} {a:Option Addr} {ad:Addr} {xs news:List Value} (ht:P.underlying t=some (.slice e)) (hi:P.info? e=some i) (hz:i.zero=some z) (hzs:z.cells.size=i.size) (hsz:0<i.size)
    (hown:w.ownsRow B e i.size (.slice a len c) len xs) (hl:news.length=m * i.size) (hnews:∀j u,news[j]? =some u→w.cell? (ad.add j)=some u) (h1:∀u∈news,u.oneCell'=true) (h63:len+m≤maxLen) (hb:(len+m) * i.bytes≤140737488355328) (hbase:B≤w.heap.size) (hm:0<m):
    ∃a' c' w',(Builtin.append_ #[t,t] ty #[.slice a len c,.slice (some ad) m c2]).run P w= .ok (.slice a' (len+m) c') w'∧w'.ownsRow B e i.size (.slice a' (len+m) c') (len+m) (xs++news)∧w.grownBy w' (Value.slice a len c).ownBlock∧
      (∀k,(Value.slice a' (len+m) c').ownBlock=some k→some k=(Value.slice a len c).ownBlock∨w.heap.size≤k):=by
  obtain⟨v',w',hr,ho,hg,-⟩:=run_append_own (P:=P) w B t ty e i z i.size i.bytes ht hi hz rfl rfl hzs hsz _ len xs hown ad m c2 news hl hnews h1 h63 hb hbase
  have h63':len+m≤9223372036854775807:=by simp only[maxLen] at h63;omega
  rcases hown.2 with ⟨hv,h0⟩|⟨g,cap,cur,hv,hbg,hcells,hnc,hcm,hcs,htake⟩
  · subst h0
    obtain⟨rfl,rfl⟩:a=none∧c=0:=by simpa [Value.slice.injEq] using hv
    have hr2:=run_append_nil (P:=P) (w:=w) t ty e i z ht hi hz ad m c2 news hl hnews hm (by omega) (by rw[Nat.zero_add] at hb;omega)
    rw[hr2] at hr
    injection hr with e1 e2
    rw[←e1] at ho
    rw[Nat.zero_add] at ho ⊢
    exact⟨_,_,w',by rw[hr2,e2],ho,hg,fun k hk=> .inr (by simp only[Value.ownBlock,Option.some.injEq] at hk;omega)⟩
  · obtain⟨rfl,rfl⟩:a=some ⟨g,0,none⟩∧c=cap:=by simpa [Value.slice.injEq] using hv
    by_cases hroom:len+m≤c
    · have hr2:=run_append_room (P:=P) w t ty e i ht hi g len c cur hcells ad m c2 news hl hnews h1 hroom (by rw[hl,hcs,←Nat.add_mul];exact Nat.mul_le_mul_right _ hroom)
      rw[hr2] at hr
      injection hr with e1 e2
      rw[←e1] at ho
      exact⟨_,_,w',by rw[hr2,e2],ho,hg,fun k hk=> .inl hk.symm⟩
    · have hr2:=run_append_grow (P:=P) (w:=w) t ty e i z ht hi hz ⟨g,0,none⟩ len c xs hown.1 (hown.cells (g:=g) rfl) ad m c2 news hl hnews (by omega) (by omega) (growslice_fits (by omega) hb)
      rw[hr2] at hr
      injection hr with e1 e2
      rw[←e1] at ho
      exact⟨_,_,w',by rw[hr2,e2],ho,hg,fun k hk=> .inr (by simp only[Value.ownBlock,Option.some.injEq] at hk;omega)⟩
/-- append, onto a row that the call holds. -/
theorem BS7 {x y:Operand} {t e:TypeId} {a a2:Option Addr} {len c m c2 sz bytes:Nat} {z:Value} {xs news:List Value} {H':List Ent} {d:Nat} (hg:o.guard=none) (ho:o.op= .call {callee:= .builtin .append,args:=#[x,y],argTypes:=#[t,t]})
    (hx:ev s x=some (.slice a len c)) (hp:Pick (.own e sz a len c xs) H H') (hy:ev s y=some (.slice a2 m c2)) (hr:Rd G H a2 news) (ht:P.underlying t=some (.slice e)) (hi:(P.info? e).map (fun i=>(i.zero,i.size,i.bytes))=some (some z,sz,bytes))
    (hzs:z.cells.size=sz) (hsz:0<sz) (hby:0<bytes) (hl:news.length=m * sz) (h1:∀u∈news,u.oneCell'=true) (hb:(len+m) * bytes≤140737488355328) (h1d:o.dst=some d) (h2d:Nat.blt d n.n=true)
    (h:∀a' c',SL P G n ops Q rest ((d,.slice a' (len+m) c')::s) (.own e sz a' (len+m) c' (xs++news)::H')):SL P G n ops Q (o::rest) s H:=fun act w ha hw=>by
  have hd:=okd (n:=n) h1d h2d
  simp only[←updd h1d] at h
  replace hg:Want ops o s:= .inl hg
  have hwp:=hw.pick hp
  have hown:w.ownsRow G.B e sz (.slice a len c) len xs:=hwp.ok _ List.mem_cons_self
  obtain⟨i0,hi0,hz0,hz1,hz2⟩:=info_parts hi
  have hlen:len+m≤140737488355328:=Nat.le_trans (Nat.le_mul_of_pos_right _ hby) hb
  have fin:∀a' c' w',w'.ownsRow G.B e sz (.slice a' (len+m) c') (len+m) (xs++news)→w.grownBy w' (Value.slice a len c).ownBlock→(∀k,(Value.slice a' (len+m) c').ownBlock=some k→some k=(Value.slice a len c).ownBlock∨w.heap.size≤k)→wpList P ops (lift G n Q) rest (act.put o.dst (.slice a' (len+m) c')) w':=by
    intro a' c' w' ho' hgr hk
    have hw':Holds G H' w':=hwp.drop.stepped _ hgr (fun k hk=>(World.ownsRow.lt hown k hk).1) (fun x hx k hk e=>(List.pairwise_cons.1 hwp.apart).1 x hx k e hk)
    refine h a' c' _ _ (ha.put _ _ hd) ⟨hw'.below,hw'.base,fun x hx=>?_,List.pairwise_cons.2 ⟨fun y hy k hky=>?_,hw'.apart⟩⟩
    · rcases List.mem_cons.1 hx with rfl|hx
      · exact ho'
      · exact hw'.ok x hx
    · intro hyk
      rcases hk k hky with e1|e1
      · exact(List.pairwise_cons.1 hwp.apart).1 y hy k e1.symm hyk
      · have:=(Ent.ok_lt (hwp.ok y (List.mem_cons_of_mem _ hy)) hyk).2
        omega
  refine wpList_step fun K hK=>?_
  rw[if_pos (hg.wanted ha)]
  unfold Oper.wp execOp
  simp only[ho,resolve,invoke,builtin,Sem.run_bind,Sem.run_pure,Result.andThen_ok,List.map_toArray,List.map_cons,List.map_nil,ha.ev hx,ha.ev hy]
  rcases Nat.eq_zero_or_pos m with hm|hm
  · subst hm
    have e0:news=[]:=List.eq_nil_of_length_eq_zero (by simpa using hl)
    subst e0
    simp only[Am7 ht hi0 hown,Result.andThen_ok]
    refine hK _ _ (fin a c w ?_ ⟨rfl,rfl,rfl,Nat.le_refl _,fun _ _ _=>rfl⟩ fun k hk=> .inl hk.symm)
    rw[Nat.add_zero,List.append_nil]
    exact hown
  · obtain⟨b,off,rfl,hc⟩:=At.someAt (hr w hw) (by rw[hl];exact Nat.mul_pos hm hsz)
    subst hz1
    subst hz2
    obtain⟨a',c',w',hrun,h2,h3,h4⟩:=Ao2 (ty:=o.type) (c2:=c2) ht hi0 hz0 hzs hsz hown hl (fun j u hj=>by rw[Addr.add_mid];exact(hc j (List.getElem?_eq_some_iff.1 hj).1).trans hj) h1 (by unfold maxLen;omega) hb hwp.base hm
    simp only[hrun,Result.andThen_ok]
    exact hK _ _ (fin a' c' w' h2 h3 h4)
/-- A region that draws its order, all of whose operations leave what is held. -/
def SQ (P:Program) (G:Ctx) (n:Sz) (ops:Array Oper) (Q:Fm→Prop) (H:List Ent) (l:List Oper) (s:Fm):Prop:=∀a,Fr n s a→wpQuiet P ops (fun w=>Holds G H w) (fun a'=>∃s',Fr n s' a'∧Q s') l a
theorem AF2 {Q:Fm→Prop} (h:Q s):SQ P G n ops Q H [] s:=fun _ ha=>⟨s,ha,h⟩
theorem AJ3 {Q:Fm→Prop} {v:Value} {d:Nat} (hg:o.guard=none) (hy:Yields P G n s H o v) (h1d:o.dst=some d) (h2d:Nat.blt d n.n=true) (h:SQ P G n ops Q H rest ((d,v)::s)):SQ P G n ops Q H (o::rest) s:=fun a ha=>by
  have hd:=okd (n:=n) h1d h2d
  simp only[←updd h1d] at h
  replace hg:Want ops o s:= .inl hg
  refine wpQuiet_step fun K hK=>?_
  rw[if_pos (hg.wanted ha)]
  refine⟨v,fun w hw=>?_,hK _ (h _ (ha.put _ _ hd))⟩
  unfold Oper.quietAt
  rw[hy a w ha hw]
  exact⟨rfl,rfl⟩
theorem By4 {Q:Fm→Prop} {f:FuncId} {xs:Array Operand} {ats:Array TypeId} {vs:List Value} {v:Value} {d:Nat} (hg:o.guard=none) (ho:o.op= .call {callee:= .value (.func f),args:=xs,argTypes:=ats}) (he:Evs s xs.toList vs) (hc:SV P G f vs H v) (h1d:o.dst=some d) (h2d:Nat.blt d n.n=true)
    (h:SQ P G n ops Q H rest ((d,v)::s)):SQ P G n ops Q H (o::rest) s:=fun a ha=>by
  have hd:=okd (n:=n) h1d h2d
  simp only[←updd h1d] at h
  replace hg:Want ops o s:= .inl hg
  refine wpQuiet_step fun K hK=>?_
  rw[if_pos (hg.wanted ha)]
  refine⟨v,fun w hw=>?_,hK _ (h _ (ha.put _ _ hd))⟩
  unfold Oper.quietAt
  rw[A82 ho he hc.1 ha]
  refine⟨rfl,(hc.2 w hw).mono fun e w' ⟨u,H',he,hw',e1,e2⟩=>?_⟩
  subst e1;subst e2
  exact⟨he,hw'⟩
theorem BH6 {Q:Fm→Prop} {i d:Nat} {b:Bool} {o':Oper} (hg:o.guard=some (i,b)) (ho:ops[i]? =some o') (hd:o'.dst=some d) (hl:look s d=some (.bool b)) (h:SQ P G n ops Q H ({o with guard:=none}::rest) s):SQ P G n ops Q H (o::rest) s:=fun a ha=>by
  have hwant:Region.wanted o (yielded ops a.tmps)=true:=Want.wanted (.inr ⟨i,b,o',d,hg,ho,hd,hl⟩) ha
  have h':=h a ha
  unfold wpQuiet at h' ⊢
  rw[if_pos hwant]
  rw[if_pos (by simp [Region.wanted])] at h'
  exact h'
theorem Bu2 {Q:Fm→Prop} {d:Nat} (hg:∀a,Fr n s a→Region.wanted o (yielded ops a.tmps)=false) (h1:o.dst=some d) (h2:Nat.blt d n.n=true) (h:SQ P G n ops Q H rest ((d,undef)::s)):SQ P G n ops Q H (o::rest) s:=fun a ha=>by
  refine wpQuiet_step fun K hK=>?_
  rw[if_neg (by rw[hg a ha];decide)]
  rw[←updd h1] at h
  exact hK _ (h _ (ha.put _ _ (okd h1 h2)))
theorem Bd0 {id:Nat} {l:List Oper} (hm:P.follows .mixedOrders=true) (hB:Region.lexB .any l.toArray=true) (h:SQ P G n l.toArray (fun s'=>AtQ Q .normal s' H) H l s):SW P G n (.region id l.toArray true) Q s H:=fun a w ha hw=>
  wp_region_quiet (C:=fun w=>Holds G H w) hm hB hw.drew (by
    have hmono:∀(l':List Oper) a,wpQuiet P l.toArray (fun w=>Holds G H w) (fun a'=>∃s',Fr n s' a'∧AtQ Q .normal s' H) l' a→wpQuiet P l.toArray (fun w=>Holds G H w) (fun a'=>∀w',Holds G H w'→lift G n Q .normal a' w') l' a:=by
      intro l'
      induction l' with
      | nil=>exact fun a ⟨s',hs',hq⟩ w' hw'=>⟨s',H,hs',hw',hq⟩
      | cons o r ih=>
        intro a hh
        unfold wpQuiet at hh ⊢
        split
        · rename_i hwn;rw[if_pos hwn] at hh;obtain⟨v,h1,h2⟩:=hh;exact⟨v,h1,ih _ h2⟩
        · rename_i hwn;rw[if_neg hwn] at hh;exact ih _ hh
    simpa using hmono l a (h a ha))
/-- The results. -/
inductive Res (s:Fm) (H:List Ent) (P:Program):List ResultVar→List Value→Prop where
  | nil:Res s H P [] []
  | tmp {t:Nat} {v:Value} {l:List ResultVar} {vs:List Value} (h:look s t=some v) (hr:Res s H P l vs):Res s H P (.tmp t::l) (v::vs)
  | agg {p b:Nat} {t t':TypeId} {d:TypeDesc} {cs:List Value} {l:List ResultVar} {vs:List Value} (h:look s p=some (.pointer (some ⟨b,0,none⟩))) (hm:Ent.blk b t' cs∈H) (hu:P.underlying t=some d) (hrow:rowB d=true) (hi:(P.info? t).map (·.size)=some cs.length) (hr:Res s H P l vs):Res s H P (.cell p t::l) (.agg cs.toArray::vs)
  | cell {p b:Nat} {t t':TypeId} {d:TypeDesc} {v:Value} {l:List ResultVar} {vs:List Value} (h:look s p=some (.pointer (some ⟨b,0,none⟩))) (hm:Ent.blk b t' [v]∈H) (hu:P.underlying t=some d) (hrow:rowB d=false) (hr:Res s H P l vs):Res s H P (.cell p t::l) (v::vs)
def resV:List Value→Value
  | [v]=>v
  | vs=> .tuple vs.toArray
def rget (tmps:Array Value):ResultVar→Sem Value
  | .tmp t=>pure (tmps.getD t undef)
  | .cell p t=>do loadVar t (←asAddr (tmps.getD p undef))
theorem Res.run {rs:List ResultVar} {vs:List Value} (h:Res s H P rs vs) {a:Act} {w:World} (ha:Fr n s a) (hw:Holds G H w):(rs.mapM (rget a.tmps)).run P w= .ok vs w:=by
  have step:∀(r:ResultVar) (v:Value) (l:List ResultVar) (vs:List Value),(rget a.tmps r).run P w= .ok v w→(l.mapM (rget a.tmps)).run P w= .ok vs w→((r::l).mapM (rget a.tmps)).run P w= .ok (v::vs) w:=by
    intro r v l vs h1 h2
    simp only[List.mapM_cons,Sem.run_bind,h1,h2,Result.andThen_ok,Sem.run_pure]
  induction h with
  | nil=>rfl
  | tmp h _ ih=>exact step _ _ _ _ (by simp only[rget,ha.has _ _ h,Sem.run_pure]) ih
  | agg h hm hu hrow hi _ ih=>
    refine step _ _ _ _ ?_ ih
    have:=AK3 (P:=P) (w:=w) hu hrow hi fun j v hj=>by rw[Nat.zero_add];exact(AL7 (hw.ok _ hm).2).trans hj
    simp only[Instr.loadAt,Instr.sureAddr,Sem.run_bind,Sem.run_pure,Result.andThen_ok] at this
    simp only[rget,ha.has _ _ h,asAddr,Sem.run_bind,Sem.run_pure,Result.andThen_ok,this]
  | cell h hm hu hrow _ ih=>
    refine step _ _ _ _ ?_ ih
    have:=AQ9 (P:=P) (w:=w) hu hrow ((AL7 (i:=0) (hw.ok _ hm).2).trans rfl)
    simp only[Instr.loadAt,Instr.sureAddr,Sem.run_bind,Sem.run_pure,Result.andThen_ok] at this
    simp only[rget,ha.has _ _ h,asAddr,Sem.run_bind,Sem.run_pure,Result.andThen_ok,this]
/-- What a function's end owes. -/
def fpost (G:Ctx) (P:Program) (rs:List ResultVar) (R:Value→List Ent→Prop):Post
  | .normal,s,H| .ret,s,H=>∃vs H',Res s H P rs vs∧(∀w,Holds G H w→Holds G H' w)∧R (resV vs) H'
  | _,_,_=>False
theorem Ag8 {fn:Func} {rs:List ResultVar} {vs:List Value} (hrs:fn.results=rs.toArray) (h:Res s H P rs vs) {a:Act} {w:World} (ha:Fr n s a) (hw:Holds G H w):(results fn a.tmps).run P w= .ok (resV vs) w:=by
  have e:results fn a.tmps=(do let vs ←fn.results.mapM (rget a.tmps);pure (if h:vs.size=1 then vs[0] else .tuple vs)):=by
    have er:(fun| .tmp t=>pure (a.tmps.getD t undef)| .cell p t=>do loadVar t (←asAddr (a.tmps.getD p undef)):ResultVar→Sem Value)=rget a.tmps:=by funext r;cases r<;>rfl
    rw[←er]
    rfl
  rw[e,hrs,List.mapM_toArray]
  simp only[Sem.run_bind,Sem.run_map,h.run ha hw,Result.andThen_ok,Sem.run_pure]
  cases vs with
  | nil=>rfl
  | cons v r=>cases r<;>rfl
theorem AY4 {rs:List ResultVar} {R:Value→List Ent→Prop} {vs:List Value} {H':List Ent} (e:Exit) (he:e= .normal∨e= .ret) (hr:Res s H P rs vs) (hH:∀w,Holds G H w→Holds G H' w) (h:R (resV vs) H'):AtQ (fpost G P rs R) e s H:=by
  rcases he with rfl|rfl<;>exact⟨vs,H',hr,hH,h⟩
theorem D5 {y:Code} (h:SW P G n y Q s H):AtQ (thn (SW P G n y Q) Q) .normal s H:=h
theorem J4 {next:Fm→List Ent→Prop} (h:AtQ Q .ret s H):AtQ (thn next Q) .ret s H:=h
theorem J7 {next:Fm→List Ent→Prop} {id:Nat} (h:AtQ Q (.exit id) s H):AtQ (thn next Q) (.exit id) s H:=h
theorem J2 {id:Nat} (h:AtQ Q .normal s H):AtQ (inb id Q) .normal s H:=h
theorem U1 {id:Nat} (h:AtQ Q .ret s H):AtQ (inb id Q) .ret s H:=h
theorem J8 {id:Nat} (h:AtQ Q .normal s H):AtQ (inb id Q) (.exit id) s H:=by show (if id=id then Q .normal s H else Q (.exit id) s H);rw[if_pos rfl];exact h
theorem AI5 {id id':Nat} (hne:Nat.beq id' id=false) (h:AtQ Q (.exit id') s H):AtQ (inb id Q) (.exit id') s H:=by
  show (if id'=id then Q .normal s H else Q (.exit id') s H);rw[if_neg (fun e=>by subst e;rw[Nat.beq_refl] at hne;cases hne)];exact h
end
/-- The slots of the arguments. -/
def ini:List Value→Nat→Fm
  | [],_=>[]
  | v::r,i=>(i,v)::ini r (i+1)
theorem Bm8 (l:List Value):∀(k i:Nat) (v:Value),look (ini l k) i=some v→k≤i∧l[i-k]? =some v:=by
  induction l with
  | nil=>intro k i v h;simp [ini,look] at h
  | cons x l ih=>
    intro k i v h
    simp only[ini,look] at h
    cases hb:Nat.beq i k with
    | true=>
      rw[hb,cond_true,Option.some.injEq] at h
      have:=Nat.eq_of_beq_eq_true hb
      subst this;subst h
      simp
    | false=>
      rw[hb,cond_false] at h
      obtain⟨h1,h2⟩:=ih (k+1) i v h
      refine⟨by omega,?_⟩
      rw[show i-k=(i-(k+1))+1 from by omega]
      exact h2
theorem AE4 {P:Program} {G:Ctx} {f:FuncId} {fn:Func} {c:Code} {n:Nat} {args:List Value} {H:List Ent} {R:Value→List Ent→Prop} {rs:List ResultVar} (hf:P.funcs[f]? =some fn) (hb:fn.body=some c) (hn:(fn.name== "runtime.NumGoroutine")=false) (hnt:some fn.ntmps=some n) (hrs:fn.results=rs.toArray) (hl:Nat.ble args.length n=true)
    (h:SW P G n c (fpost G P rs R) (ini args 0) H):SC P G f args H R:=by
  refine⟨j6 hf hn (by rw[hb];rfl),fun w hw=>calls_of_wp hf hb ?_⟩
  have hl':args.length≤n:=Nat.le_of_ble_eq_true hl
  refine wp_mono (h _ w ⟨rfl,?_,fun i v hi=>?_⟩ hw) fun e a' w' ⟨s',H',ha',hw',hq⟩=>?_
  · have hnt:=Option.some.inj hnt
    simp [hnt];omega
  · obtain⟨-,h2⟩:=Bm8 _ _ _ _ hi
    rw[Nat.sub_zero] at h2
    have hlt:=(List.getElem?_eq_some_iff.1 h2).1
    simp only[Array.getD_eq_getD_getElem?,Array.getElem?_append,List.size_toArray,hlt,if_true,List.getElem?_toArray,h2,Option.getD_some]
  · cases e with
    | normal=>obtain⟨vs,H2,h1,h2,h3⟩:=hq;exact⟨ha'.defers,_,Ag8 hrs h1 ha' hw',_,H2,rfl,h2 _ hw',h3⟩
    | ret=>obtain⟨vs,H2,h1,h2,h3⟩:=hq;exact⟨ha'.defers,_,Ag8 hrs h1 ha' hw',_,H2,rfl,h2 _ hw',h3⟩
    | _=>exact hq.elim
theorem Y3 {P:Program} {G:Ctx} {f:FuncId} {fn:Func} {c:Code} {n:Nat} {v0:Value} {H:List Ent} {R:Value→List Ent→Prop} {rs:List ResultVar} (hf:P.funcs[f]? =some fn) (hb:fn.body=some c) (hn:(fn.name== "runtime.NumGoroutine")=false) (hnt:some fn.ntmps=some n) (hrs:fn.results=rs.toArray) (hl:Nat.ble 1 n=true)
    (h:SW P G n c (fpost G P rs R) [(0,v0)] H):SC P G f [v0] H R:=AE4 hf hb hn hnt hrs hl h
theorem J3 {P:Program} {G:Ctx} {f:FuncId} {fn:Func} {c:Code} {n:Nat} {v0 v1:Value} {H:List Ent} {R:Value→List Ent→Prop} {rs:List ResultVar} (hf:P.funcs[f]? =some fn) (hb:fn.body=some c) (hn:(fn.name== "runtime.NumGoroutine")=false) (hnt:some fn.ntmps=some n) (hrs:fn.results=rs.toArray) (hl:Nat.ble 2 n=true)
    (h:SW P G n c (fpost G P rs R) [(0,v0),(1,v1)] H):SC P G f [v0,v1] H R:=AE4 hf hb hn hnt hrs hl h
theorem AH0 {P:Program} {G:Ctx} {f:FuncId} {fn:Func} {c:Code} {n:Nat} {v0 v1 v2:Value} {H:List Ent} {R:Value→List Ent→Prop} {rs:List ResultVar} (hf:P.funcs[f]? =some fn) (hb:fn.body=some c) (hn:(fn.name== "runtime.NumGoroutine")=false) (hnt:some fn.ntmps=some n) (hrs:fn.results=rs.toArray) (hl:Nat.ble 3 n=true)
    (h:SW P G n c (fpost G P rs R) [(0,v0),(1,v1),(2,v2)] H):SC P G f [v0,v1,v2] H R:=AE4 hf hb hn hnt hrs hl h
theorem BT8 {P:Program} {G:Ctx} {f:FuncId} {fn:Func} {c:Code} {n:Nat} {v0 v1 v2 v3:Value} {H:List Ent} {R:Value→List Ent→Prop} {rs:List ResultVar} (hf:P.funcs[f]? =some fn) (hb:fn.body=some c) (hn:(fn.name== "runtime.NumGoroutine")=false) (hnt:some fn.ntmps=some n) (hrs:fn.results=rs.toArray) (hl:Nat.ble 4 n=true)
    (h:SW P G n c (fpost G P rs R) [(0,v0),(1,v1),(2,v2),(3,v3)] H):SC P G f [v0,v1,v2,v3] H R:=AE4 hf hb hn hnt hrs hl h
theorem AU2 {P:Program} {G:Ctx} {f:FuncId} {fn:Func} {c:Code} {n:Nat} {v0 v1 v2 v3 v4:Value} {H:List Ent} {R:Value→List Ent→Prop} {rs:List ResultVar} (hf:P.funcs[f]? =some fn) (hb:fn.body=some c) (hn:(fn.name== "runtime.NumGoroutine")=false) (hnt:some fn.ntmps=some n) (hrs:fn.results=rs.toArray) (hl:Nat.ble 5 n=true)
    (h:SW P G n c (fpost G P rs R) [(0,v0),(1,v1),(2,v2),(3,v3),(4,v4)] H):SC P G f [v0,v1,v2,v3,v4] H R:=AE4 hf hb hn hnt hrs hl h
/-- The end of a function that hands back one value and nothing new. -/
theorem CH8 {P:Program} {G:Ctx} {s:Fm} {H H0:List Ent} {rs:List ResultVar} {vs:List Value} {v:Value} (e:Exit) (he:e= .normal∨e= .ret) (hr:Res s H P rs vs) (hH:H0.Sublist H) (h:resV vs=v):AtQ (fpost G P rs fun u H'=>u=v∧H'=H0) e s H:=
  AY4 e he hr (fun _ hw=>hw.sub hH) ⟨h,rfl⟩
theorem CF0 {P:Program} {G:Ctx} {s:Fm} {H H':List Ent} {rs:List ResultVar} {vs:List Value} {R:Value→List Ent→Prop} (e:Exit) (he:e= .normal∨e= .ret) (hr:Res s H P rs vs) (hH:H'.Sublist H) (h:R (resV vs) H'):AtQ (fpost G P rs R) e s H:=
  AY4 e he hr (fun _ hw=>hw.sub hH) h
end Go.Sx
namespace Go.Sx
open Go Go.RowKit Go.Fw
/-- A type of one cell. -/
class Sc (P:Program) (t:TypeId):Prop where
  here:∃d,P.underlying t=some d∧rowB d=false∧(P.info? t).map (·.size)=some 1
/-- A struct or an array of so many cells. -/
class Ag (P:Program) (t:TypeId) (sz:outParam Nat):Prop where
  here:∃d,P.underlying t=some d∧rowB d=true∧(P.info? t).map (·.size)=some sz
/-- A field's place. -/
class FieldAt (P:Program) (t i:Nat) (off:outParam Nat):Prop where
  here:∃fs f sz,P.underlying t=some (.struct fs)∧fs[i]? =some f∧f.offset=off∧(P.info? f.type).map (·.size)=some (sz+1)
/-- A slice's elements. -/
class SliceT (P:Program) (t:TypeId) (e sz bytes:outParam Nat):Prop where
  here:P.underlying t=some (.slice e)∧0<sz∧0<bytes∧∃z,(P.info? e).map (fun i=>(i.zero,i.size,i.bytes))=some (some z,sz,bytes)∧z.cells.size=sz
/-- An array's elements. -/
class ArrT (P:Program) (t:TypeId) (len e sz:outParam Nat):Prop where
  here:P.underlying t=some (.array len e)∧(P.info? e).map (·.size)=some sz
/-- A type's zero. -/
class ZeroT (P:Program) (t:TypeId) (cs:outParam (List Value)):Prop where
  here:∃z,still P (zeroValue t)=some z∧Cs z cs
class IntT (P:Program) (t:TypeId) (k:outParam IntKind):Prop where
  here:P.underlying t=some (.int k)
class StrT (P:Program) (t:TypeId):Prop where
  here:P.underlying t=some .string
class Wide (P:Program):Prop where
  here:P.follows .mixedOrders=true
/-- What is held of a block; of a row; and what is left when it is taken out. -/
class HasBlk (H:List Ent) (b:Nat) (t:outParam TypeId) (cs:outParam (List Value)):Prop where
  here:Ent.blk b t cs∈H
instance (priority:=low) CG3 {H:List Ent} {b:Nat} {t:TypeId} {cs:List Value} {e:Ent} [h:HasBlk H b t cs]:HasBlk (e::H) b t cs:=⟨List.mem_cons_of_mem _ h.here⟩
instance CG4 {H:List Ent} {b:Nat} {t:TypeId} {cs:List Value}:HasBlk (.blk b t cs::H) b t cs:=⟨List.mem_cons_self⟩
class PickBlk (H:List Ent) (b:Nat) (t:outParam TypeId) (cs:outParam (List Value)) (H':outParam (List Ent)):Prop where
  here:Pick (.blk b t cs) H H'
instance (priority:=low) CE3 {H H':List Ent} {b:Nat} {t:TypeId} {cs:List Value} {e:Ent} [h:PickBlk H b t cs H']:PickBlk (e::H) b t cs (e::H'):=⟨.there h.here⟩
instance CE1 {H:List Ent} {b:Nat} {t:TypeId} {cs:List Value}:PickBlk (.blk b t cs::H) b t cs H:=⟨.here _⟩
class PickOwn (H:List Ent) (a:Option Addr) (e:outParam TypeId) (sz n c:outParam Nat) (xs:outParam (List Value)) (H':outParam (List Ent)):Prop where
  here:Pick (.own e sz a n c xs) H H'
instance (priority:=low) CE4 {H H':List Ent} {a:Option Addr} {e:TypeId} {sz n c:Nat} {xs:List Value} {x:Ent} [h:PickOwn H a e sz n c xs H']:PickOwn (x::H) a e sz n c xs (x::H'):=⟨.there h.here⟩
instance CD9 {H:List Ent} {a:Option Addr} {e:TypeId} {sz n c:Nat} {xs:List Value}:PickOwn (.own e sz a n c xs::H) a e sz n c xs H:=⟨.here _⟩
/-- What can be read at an address. -/
class RdC (G:Ctx) (H:List Ent) (a:Option Addr) (xs:outParam (List Value)):Prop where
  here:Rd G H a xs
instance (priority:=low) CN2 {G:Ctx} {H:List Ent} {a:Option Addr} {xs:List Value} {e:Ent} [h:RdC G H a xs]:RdC G (e::H) a xs:=⟨h.here.cons⟩
instance rdOwn {G:Ctx} {H:List Ent} {a:Option Addr} {e:TypeId} {sz n c:Nat} {xs:List Value}:RdC G (.own e sz a n c xs::H) a xs:=⟨Rd.mem List.mem_cons_self⟩
instance rdBlk {G:Ctx} {H:List Ent} {b:Nat} {t:TypeId} {cs:List Value}:RdC G (.blk b t cs::H) (some ⟨b,0,none⟩) cs:=⟨Rd.blk List.mem_cons_self⟩
/-- The same, told by functions that spell their answers out. -/
def evs (s:Fm):List Operand→Option (List Value)
  | []=>some []
  | x::l=>match ev s x with
    | none=>none
    | some v=>match evs s l with
      | none=>none
      | some vs=>some (v::vs)
theorem AM8 {s:Fm}:∀{l:List Operand} {vs:List Value},evs s l=some vs→Evs s l vs
  | [],vs,h=>by simp only[evs,Option.some.injEq] at h;subst h;exact .nil
  | x::l,vs,h=>by
    unfold evs at h
    split at h
    · cases h
    · rename_i v hv
      split at h
      · cases h
      · rename_i vs' hvs
        simp only[Option.some.injEq] at h
        subst h
        exact .cons hv (AM8 hvs)
def set? :List Value→Nat→Value→Option (List Value)
  | [],_,_=>none
  | _::l,0,v=>some (v::l)
  | x::l,k+1,v=>match set? l k v with
    | none=>none
    | some l'=>some (x::l')
theorem AS2:∀{l:List Value} {k:Nat} {v:Value} {l':List Value},set? l k v=some l'→l.set k v=l'∧k<l.length
  | [],_,_,_,h=>by cases h
  | x::l,0,v,l',h=>by simp only[set?,Option.some.injEq] at h;subst h;simp
  | x::l,k+1,v,l',h=>by
    unfold set? at h
    split at h
    · cases h
    · rename_i r hr
      obtain⟨h1,h2⟩:=AS2 hr
      simp only[Option.some.injEq] at h
      subst h
      simp [h1,h2]
def take? :List Value→Nat→Option (List Value)
  | _,0=>some []
  | [],_+1=>none
  | x::l,k+1=>match take? l k with
    | none=>none
    | some l'=>some (x::l')
theorem Aa2:∀{l:List Value} {k:Nat} {l':List Value},take? l k=some l'→l.take k=l'∧k≤l.length
  | l,0,l',h=>by
    simp only[take?,Option.some.injEq] at h
    subst h
    exact⟨List.take_zero,Nat.zero_le _⟩
  | [],k+1,l',h=>by cases h
  | x::l,k+1,l',h=>by
    unfold take? at h
    split at h
    · cases h
    · rename_i r hr
      obtain⟨h1,h2⟩:=Aa2 hr
      simp only[Option.some.injEq] at h
      subst h
      simp [h1,h2]
def cells? :Value→Option (List Value)
  | .agg ⟨l⟩=>some l
  | .tuple _=>none
  | v=>some [v]
theorem Av2 {v:Value} {l:List Value} (h:cells? v=some l):Cs v l:=by
  unfold cells? at h
  split at h
  · simp only[Option.some.injEq] at h;subst h;exact .agg _
  · cases h
  · rename_i h1 h2
    simp only[Option.some.injEq] at h
    subst h
    exact .one (by cases v<;>(first|rfl|exact absurd rfl (h1 _)|exact absurd rfl (h2 _)))
def res? (s:Fm):List ResultVar→Option (List Value)
  | []=>some []
  | .tmp t::l=>match look s t with
    | none=>none
    | some v=>match res? s l with
      | none=>none
      | some vs=>some (v::vs)
  | .cell _ _::_=>none
theorem AW7 {s:Fm} {H:List Ent} {P:Program}:∀{l:List ResultVar} {vs:List Value},res? s l=some vs→Res s H P l vs
  | [],vs,h=>by simp only[res?,Option.some.injEq] at h;subst h;exact .nil
  | .cell _ _::l,vs,h=>by cases h
  | .tmp t::l,vs,h=>by
    unfold res? at h
    split at h
    · cases h
    · rename_i v hv
      split at h
      · cases h
      · rename_i vs' hvs
        simp only[Option.some.injEq] at h
        subst h
        exact .tmp hv (AW7 hvs)
section
variable {P:Program} {G:Ctx} {n:Sz} {ops:Array Oper} {Q:Post} {s:Fm} {H:List Ent} {o:Oper} {rest:List Oper}
theorem SliceT.size {t e sz bytes:Nat} (h:SliceT P t e sz bytes):(P.info? e).map (·.size)=some sz:=by
  obtain⟨-,-,-,z,hz,-⟩:=h.here
  cases hq:P.info? e with
  | none=>rw[hq] at hz;cases hz
  | some i=>rw[hq] at hz;simp only[Option.map_some,Option.some.injEq,Prod.mk.injEq] at hz ⊢;exact hz.2.1
theorem K6 {t e sz bytes:Nat} {x y:Operand} {a:Option Addr} {len c:Nat} {k:IntKind} {i:Int} {xs:List Value} (ho:o.op= .indexAddr t x y) [h:SliceT P t e sz bytes] (hx:ev s x=some (.slice a len c)) (hy:ev s y=some (.int k i)) [hr:RdC G H a xs] (hl:xs.length=len * sz) (h0:0≤i) (h1:i<len):
    Yields P G n s H o (x8 a (i.toNat * sz)):=by
  obtain⟨hu,hsz,-,-⟩:=h.here
  exact BA8 ho hx hy hu h.size hr.here (by rw[hl];exact Nat.le_mul_of_pos_right _ hsz) h0 h1
theorem E8 {t i fo:Nat} {x:Operand} {b:Nat} (ho:o.op= .fieldAddr t x i) [h:FieldAt P t i fo] (hx:ev s x=some (.pointer (some ⟨b,0,none⟩))):Yields P G n s H o (.pointer (some ⟨b,fo,none⟩)):=by
  obtain⟨fs,f,sz,h1,h2,h3,h4⟩:=h.here
  exact Ag9 ho hx h1 h2 rfl h4 (by rw[h3,Nat.zero_add])
theorem w9 {t i fo:Nat} {x:Operand} {b off:Nat} (ho:o.op= .fieldAddr t x i) [h:FieldAt P t i fo] (hx:ev s x=some (.pointer (some ⟨b,off,none⟩))):Yields P G n s H o (.pointer (some ⟨b,off+fo,none⟩)):=by
  obtain⟨fs,f,sz,h1,h2,h3,h4⟩:=h.here
  exact Ag9 ho hx h1 h2 rfl h4 (by rw[h3])
theorem U3 {t t':TypeId} {x y:Operand} {b off:Nat} {cs cs':List Value} {v:Value} {H':List Ent} (hg:o.guard=none) (ho:o.op= .store t x y) [h:Sc P t] (hx:ev s x=some (.pointer (some ⟨b,off,none⟩))) (hy:ev s y=some v) [hp:PickBlk H b t' cs H'] (h1:v.oneCell'=true)
    (hn:set? cs off v=some cs') (hd:o.dst=none) (hk:SL P G n ops Q rest s (.blk b t' cs'::H')):SL P G n ops Q (o::rest) s H:=by
  obtain⟨d,-,-,h3⟩:=h.here
  obtain⟨e1,e2⟩:=AS2 hn
  exact Ax2 hg ho hx hy hp.here h1 h3 e2 (by rw[e1];exact .keep _) hd hk
theorem Bn5 {t t':TypeId} {x y:Operand} {b off:Nat} {cs:List Value} {v:Value} {H':List Ent} (hg:o.guard=none) (ho:o.op= .store t x y) [h:Sc P t] (hx:ev s x=some (.pointer (some ⟨b,off,none⟩))) (hy:ev s y=some v) [hp:PickBlk H b t' cs H'] (h1:v.oneCell'=true)
    (hl:off<cs.length) (hd:o.dst=none) (hk:SL P G n ops Q rest s (.blk b t' (cs.set off v)::H')):SL P G n ops Q (o::rest) s H:=by
  obtain⟨d,-,-,h3⟩:=h.here
  exact Ax2 hg ho hx hy hp.here h1 h3 hl (.keep _) hd hk
theorem M6 {t t' sz:Nat} {x y:Operand} {b:Nat} {cs cs':List Value} {H':List Ent} (hg:o.guard=none) (ho:o.op= .store t x y) [h:Ag P t sz] (hx:ev s x=some (.pointer (some ⟨b,0,none⟩))) (hy:ev s y=some (.agg cs'.toArray)) [hp:PickBlk H b t' cs H'] (h1:cs'.all (·.oneCell')=true)
    (hl':Nat.beq cs'.length sz=true) (hl2':Nat.beq cs.length sz=true) (hd:o.dst=none) (hk:SL P G n ops Q rest s (.blk b t' cs'::H')):SL P G n ops Q (o::rest) s H:=by
  obtain⟨d,-,-,h3⟩:=h.here
  have hl:=Nat.eq_of_beq_eq_true hl'
  have hl2:=Nat.eq_of_beq_eq_true hl2'
  exact AX8 hg ho hx hy hp.here h1 (by rw[h3,hl]) (by rw[hl,hl2]) hd hk
theorem O5 {elem:TypeId} {x:Operand} {v:Value} {cs:List Value} {d:Nat} (hg:o.guard=none) (ho:o.op= .box elem x) (hx:ev s x=some v) (hc:cells? v=some cs) (h1:o.dst=some d) (h2:Nat.blt d n.n=true)
    (h:∀b,SL P G n ops Q rest ((d,.pointer (some ⟨b,0,none⟩))::s) (.blk b elem cs::H)):SL P G n ops Q (o::rest) s H:=B61 hg ho hx (Av2 hc) h1 h2 h
theorem O0 {t:TypeId} {cs:List Value} {d:Nat} (hg:o.guard=none) (ho:o.op= .alloc t) [hz:ZeroT P t cs] (h1:o.dst=some d) (h2:Nat.blt d n.n=true)
    (h:∀b,SL P G n ops Q rest ((d,.pointer (some ⟨b,0,none⟩))::s) (.blk b t cs::H)):SL P G n ops Q (o::rest) s H:=by
  obtain⟨z,e1,e2⟩:=hz.here
  exact Bf8 hg ho e1 e2 h1 h2 h
theorem c_call {f d:Nat} {xs:Array Operand} {ats:Array TypeId} {vs:List Value} {R:Value→List Ent→Prop} (hg:o.guard=none) (ho:o.op= .call {callee:= .value (.func f),args:=xs,argTypes:=ats}) (he:evs s xs.toList=some vs) (hc:SC P G f vs H R) (h1:o.dst=some d) (h2:Nat.blt d n.n=true)
    (h:∀v H',R v H'→SL P G n ops Q rest ((d,v)::s) H'):SL P G n ops Q (o::rest) s H:=BF0 hg ho (AM8 he) hc h1 h2 h
theorem F9 {f d:Nat} {xs:Array Operand} {ats:Array TypeId} {vs:List Value} {v:Value} (hg:o.guard=none) (ho:o.op= .call {callee:= .value (.func f),args:=xs,argTypes:=ats}) (he:evs s xs.toList=some vs) (hc:SV P G f vs H v) (h1:o.dst=some d) (h2:Nat.blt d n.n=true)
    (h:SL P G n ops Q rest ((d,v)::s) H):SL P G n ops Q (o::rest) s H:=Bh4 hg ho (AM8 he) hc h1 h2 h
theorem AM3 {Q:Fm→Prop} {f d:Nat} {xs:Array Operand} {ats:Array TypeId} {vs:List Value} {v:Value} (hg:o.guard=none) (ho:o.op= .call {callee:= .value (.func f),args:=xs,argTypes:=ats}) (he:evs s xs.toList=some vs) (hc:SV P G f vs H v) (h1:o.dst=some d) (h2:Nat.blt d n.n=true)
    (h:SQ P G n ops Q H rest ((d,v)::s)):SQ P G n ops Q H (o::rest) s:=By4 hg ho (AM8 he) hc h1 h2 h
theorem M3 {H0:List Ent} {rs:List ResultVar} {vs:List Value} {v:Value} {e:Exit} (he:e= .normal∨e= .ret) (hr:res? s rs=some vs) (hH:H0.Sublist H) (h:resV vs=v):AtQ (fpost G P rs fun u H'=>u=v∧H'=H0) e s H:=CH8 e he (AW7 hr) hH h
theorem AG7 {R:Value→List Ent→Prop} {rs:List ResultVar} {vs:List Value} {e:Exit} (H':List Ent) (he:e= .normal∨e= .ret) (hr:res? s rs=some vs) (hH:H'.Sublist H) (h:R (resV vs) H'):AtQ (fpost G P rs R) e s H:=CF0 e he (AW7 hr) hH h
/-- A slice literal all of whose elements are told, in their order, each of one cell. -/
def Af7:List Nat→Nat→Bool
  | [],_=>true
  | i::r,k=>Nat.beq i k&&Af7 r (k+1)
theorem Bo5 (z:Value):∀(vs pre:List Value) (k:Nat),pre.length=k→(∀v∈vs,v.oneCell'=true)→
    Instr.fill (fun i=>some (i * 1,1)) (pre++List.replicate vs.length z).toArray ((List.range' k vs.length).zip vs)=some (pre++vs).toArray:=by
  intro vs
  induction vs with
  | nil=>intro pre k _ _;simp [Instr.fill]
  | cons v vs ih=>
    intro pre k hk h1
    have hv:=h1 v List.mem_cons_self
    have hc:v.cells=#[v]:=by cases v<;>(first|rfl|cases hv)
    simp only[List.length_cons,List.range'_succ,List.zip_cons_cons,Instr.fill,hc]
    have e:(pre++List.replicate (vs.length+1) z).toArray.setIfInBounds k v=((pre++[v])++List.replicate vs.length z).toArray:=by
      rw[List.setIfInBounds_toArray,List.set_append_right _ _ (by omega),show k-pre.length=0 from by omega,List.replicate_succ,List.set_cons_zero]
      simp
    have h2:=ih (pre++[v]) (k+1) (by simp [hk]) fun u hu=>h1 u (List.mem_cons_of_mem _ hu)
    rw[if_neg (by simp;omega)]
    have e3:(Array.zipIdx #[v]).foldl (fun cs x=>cs.setIfInBounds (k * 1+x.2) x.1) (pre++List.replicate (vs.length+1) z).toArray=((pre++[v])++List.replicate vs.length z).toArray:=by
      rw[←e];simp
    rw[e3,h2]
    simp
theorem Aw3:∀(l:List Nat) (k:Nat),Af7 l k=true→l=List.range' k l.length:=by
  intro l
  induction l with
  | nil=>intro k _;rfl
  | cons i l ih=>
    intro k h
    simp only[Af7,Bool.and_eq_true] at h
    rw[List.length_cons,List.range'_succ,←ih (k+1) h.2,Nat.eq_of_beq_eq_true h.1]
theorem Evs.length {l:List Operand} {vs:List Value} (h:Evs s l vs):vs.length=l.length:=by
  induction h with
  | nil=>rfl
  | cons _ _ ih=>simp [ih]
theorem M7 {t e bytes len d:Nat} {parts:Array (Nat×Operand)} {vs:List Value} (hg:o.guard=none) (ho:o.op= .buildSlice t len parts) [h:SliceT P t e 1 bytes] (he':evs s (parts.toList.map (·.2))=some vs) (hc:Af7 (parts.toList.map (·.1)) 0=true) (hl:parts.toList.length=len) (h0:Nat.blt 0 len=true) (hm:Nat.ble len 1000=true) (h1:vs.all (·.oneCell')=true)
    (h1d:o.dst=some d) (h2d:Nat.blt d n.n=true) (hk:∀b,SL P G n ops Q rest ((d,.slice (some ⟨b,0,none⟩) len len)::s) (.own e 1 (some ⟨b,0,none⟩) len len vs::H)):SL P G n ops Q (o::rest) s H:=by
  have he:=AM8 he'
  obtain⟨hu,-,-,z,hz,hzs⟩:=h.here
  have hlen:vs.length=len:=by rw[he.length,List.length_map,hl]
  have hpos:0<len:=by simpa [Nat.blt_eq] using h0
  have hle:=Nat.le_of_ble_eq_true hm
  refine Aw0 hg ho he hu h.size ?_ (by omega) hle h1d h2d hk
  cases hq:P.info? e with
  | none=>rw[hq] at hz;cases hz
  | some i=>
    rw[hq] at hz
    simp only[Option.map_some,Option.some.injEq,Prod.mk.injEq] at hz
    obtain⟨hz0,hz1,hz2⟩:=hz
    unfold builtSlice
    simp only[hq,hz0,hz1]
    rw[if_neg (by omega)]
    have hidx:=Aw3 _ _ hc
    rw[List.length_map,hl] at hidx
    rw[hidx]
    have hz':∃u,z.cells=#[u]:=by
      have:=Array.size_eq_one_iff.1 hzs
      exact this
    obtain⟨u,hu'⟩:=hz'
    have:=Bo5 u vs [] 0 rfl (by simpa using h1)
    rw[hlen] at this
    rw[hu']
    have e4:(Array.range (len * 1)).map (fun x=>#[u][x % #[u].size]!)=([]++List.replicate len u).toArray:=by
      apply Array.ext'
      simp only[Array.toList_map,Nat.mul_one,List.nil_append]
      apply List.ext_getElem
      · simp
      · intro j h1 h2
        simp [Nat.mod_one]
    rw[e4,this]
    simp
theorem R6 {x y:Operand} {t e sz bytes d:Nat} {a a2:Option Addr} {len c m c2:Nat} {xs news:List Value} {H':List Ent} (hg:o.guard=none) (ho:o.op= .call {callee:= .builtin .append,args:=#[x,y],argTypes:=#[t,t]})
    [hT:SliceT P t e sz bytes] (hx:ev s x=some (.slice a len c)) [hp:PickOwn H a e sz len c xs H'] (hy:ev s y=some (.slice a2 m c2)) [hr:RdC G H a2 news] (hl:news.length=m * sz) (h1:news.all (·.oneCell')=true) (hb:(len+m) * bytes≤140737488355328) (h1d:o.dst=some d) (h2d:Nat.blt d n.n=true)
    (h:∀a' c',SL P G n ops Q rest ((d,.slice a' (len+m) c')::s) (.own e sz a' (len+m) c' (xs++news)::H')):SL P G n ops Q (o::rest) s H:=by
  obtain⟨hu,hsz,hby,z,hz,hzs⟩:=hT.here
  exact BS7 hg ho hx hp.here hy hr.here hu hz hzs hsz hby hl (by simpa using h1) hb h1d h2d h
theorem AV7 {H':List Ent} {l:List Oper} (hH:∀w,Holds G H w→Holds G H' w) (h:SL P G n ops Q l s H'):SL P G n ops Q l s H:=fun a w ha hw=>h a w ha (hH w hw)
theorem A76 {x y:Operand} {t e sz bytes d:Nat} {a2:Option Addr} {m c2:Nat} {news:List Value} (hg:o.guard=none) (ho:o.op= .call {callee:= .builtin .append,args:=#[x,y],argTypes:=#[t,t]})
    [hT:SliceT P t e sz bytes] (hx:ev s x=some (.slice none 0 0)) (hy:ev s y=some (.slice a2 m c2)) [hr:RdC G H a2 news] (hl:news.length=m * sz) (h1:news.all (·.oneCell')=true) (hb:m * bytes≤140737488355328) (h1d:o.dst=some d) (h2d:Nat.blt d n.n=true)
    (h:∀a' c',SL P G n ops Q rest ((d,.slice a' m c')::s) (.own e sz a' m c' news::H)):SL P G n ops Q (o::rest) s H:=by
  refine AV7 (fun w hw=>hw.nilrow e sz) (R6 (hp:=⟨.here _⟩) hg ho hx hy (hr:=⟨hr.here.cons⟩) hl h1 (by rwa [Nat.zero_add]) h1d h2d fun a' c'=>?_)
  rw[Nat.zero_add,List.nil_append]
  exact h a' c'
/-- The length of a slice, of a string. -/
theorem CG1 {t e:TypeId} {x:Operand} {a:Option Addr} {len c:Nat} (ho:o.op= .call {callee:= .builtin .len,args:=#[x],argTypes:=#[t]}) (hu:P.underlying t=some (.slice e)) (hx:ev s x=some (.slice a len c)):Yields P G n s H o (.int .i64 len):=fun act w ha _=>by
  unfold execOp;rw[ho]
  simp only[resolve,invoke,builtin,Sem.run_bind,Sem.run_pure,Result.andThen_ok,List.map_toArray,List.map_cons,List.map_nil,ha.ev hx]
  simp [Builtin.len_,run_underlying hu,goInt]
theorem BX0 {t:TypeId} {x:Operand} {b:ByteArray} (ho:o.op= .call {callee:= .builtin .len,args:=#[x],argTypes:=#[t]}) (hu:P.underlying t=some .string) (hx:ev s x=some (.string b)):Yields P G n s H o (.int .i64 b.size):=fun act w ha _=>by
  unfold execOp;rw[ho]
  simp only[resolve,invoke,builtin,Sem.run_bind,Sem.run_pure,Result.andThen_ok,List.map_toArray,List.map_cons,List.map_nil,ha.ev hx]
  simp [Builtin.len_,run_underlying hu,goInt]
theorem Q5 {t e sz bytes:Nat} {x:Operand} {a:Option Addr} {len c:Nat} (ho:o.op= .call {callee:= .builtin .len,args:=#[x],argTypes:=#[t]}) [h:SliceT P t e sz bytes] (hx:ev s x=some (.slice a len c)):Yields P G n s H o (.int .i64 len):=CG1 ho h.here.1 hx
theorem Q3 {t:TypeId} {x:Operand} {b:ByteArray} (ho:o.op= .call {callee:= .builtin .len,args:=#[x],argTypes:=#[t]}) [h:StrT P t] (hx:ev s x=some (.string b)):Yields P G n s H o (.int .i64 b.size):=BX0 ho h.here hx
/-- Whole numbers from one kind to another. -/
theorem AA5 {src dst:TypeId} {k k':IntKind} {x:Operand} {m:Int} (ho:o.op= .convert src dst x) [h1:IntT P src k'] [h2:IntT P dst k] (hx:ev s x=some (.int k' m)) (hf:Fits k m):Yields P G n s H o (.int k m):=fun a w ha _=>by
  unfold execOp;rw[ho];simp only[ha.ev hx]
  refine Y1 ?_
  simp only[convert,Sem.run_bind,run_underlying h1.here,run_underlying h2.here,Result.andThen_ok,Conv.intToInt,Sem.run_pure,hf.wrap]
theorem AC9 {id:Nat} {l:List Oper} [h:Wide P] (hB:Region.lexB .any l.toArray=true) (hk:SQ P G n l.toArray (fun s'=>AtQ Q .normal s' H) H l s):SW P G n (.region id l.toArray true) Q s H:=Bd0 h.here hB hk
end
theorem Bc2 (xs:List Int):(ints xs).all (·.oneCell')=true:=by simp [ints,Value.oneCell']
theorem A75 (xs:List Int):(octs xs).all (·.oneCell')=true:=by simp [octs,Value.oneCell']
theorem A01 (xs:List ByteArray):(strs xs).all (·.oneCell')=true:=by simp [strs,Value.oneCell']
section
variable {P:Program} {G:Ctx} {n:Sz} {ops:Array Oper} {Q:Post} {s:Fm} {H:List Ent} {rest:List Oper} {d:Option Tmp} {ty:TypeId} {pos:String} {af:Array Edge}
theorem F3 {l:List Oper} (h:SL P G n ops Q l s H):SL P G n ops Q l s H:=h
theorem AN1 {Q:Fm→Prop} {l:List Oper} (h:SQ P G n ops Q H l s):SQ P G n ops Q H l s:=h
end
section
variable {P:Program} {G:Ctx} {n:Sz} {ops:Array Oper} {Q:Post} {s:Fm} {H:List Ent} {o:Oper} {rest:List Oper}
theorem o5 {i j d:Nat} {b:Bool} {o':Oper} (hg:o.guard=some (i,b)) (ho:ops[i]? =some o') (hd:o'.dst=some j) (hl:look s j=some undef) (h1:o.dst=some d) (h2:Nat.blt d n.n=true) (h:SL P G n ops Q rest ((d,undef)::s) H):SL P G n ops Q (o::rest) s H:=BG2 (fun _ ha=>Skips.undef hg ho hd hl ha) h1 h2 h
end
theorem Bg2 {p:Prop} [Decidable p] (h:p):resV [.bool true]= .bool (decide p):=by simp [resV,h]
theorem Bn6 {p:Prop} [Decidable p] (h:¬p):resV [.bool false]= .bool (decide p):=by simp [resV,h]
theorem Aj1 {p q:Prop} [Decidable p] [Decidable q] (h:q↔p):resV [.bool (decide q)]= .bool (decide p):=by simp [resV,h]
end Go.Sx
namespace Go.Sx
open Go Go.RowKit Go.Fw
@[irreducible] def iand (p q:Int):Int:=((p.toNat&&& q.toNat:Nat):Int)
@[irreducible] def ior (p q:Int):Int:=((p.toNat|||q.toNat:Nat):Int)
@[irreducible] def iclr (p q:Int):Int:=((p.toNat&&& (18446744073709551615-q.toNat):Nat):Int)
@[irreducible] def ibits (op:BinOp) (k:IntKind) (p q:Int):Int:=bits op k p q
theorem AP1 (p q:Int):iand p q=((p.toNat&&& q.toNat:Nat):Int):=by unfold iand;rfl
theorem Ay5 (p q:Int):ior p q=((p.toNat|||q.toNat:Nat):Int):=by unfold ior;rfl
theorem AS1 (p q:Int):iclr p q=((p.toNat&&& (18446744073709551615-q.toNat):Nat):Int):=by unfold iclr;rfl
theorem A45 (op:BinOp) (k:IntKind) (p q:Int):ibits op k p q=bits op k p q:=by unfold ibits;rfl
theorem B16 (p q:Int):0≤iand p q:=by rw[AP1];omega
theorem B41 (p q B:Int) (h0:0≤p) (h:p<B):iand p q<B:=by
  rw[AP1]
  have:=Nat.and_le_left (n:=p.toNat) (m:=q.toNat)
  omega
theorem Bv0 (p q:Int):0≤iclr p q:=by rw[AS1];omega
theorem B98 (p q B:Int) (h0:0≤p) (h:p<B):iclr p q<B:=by
  rw[AS1]
  have:=Nat.and_le_left (n:=p.toNat) (m:=18446744073709551615-q.toNat)
  omega
section
variable {P:Program} {G:Ctx} {n:Sz} {ops:Array Oper} {Q:Post} {s:Fm} {H:List Ent} {o:Oper} {rest:List Oper}
theorem BI7 (a b:Int) (h1:0≤a) (h2:a<9223372036854775808) (h3:0≤b) (h4:b<9223372036854775808):bits .andNot .i64 a b=((a.toNat&&& (18446744073709551615-b.toNat):Nat):Int):=by
  obtain⟨m,rfl⟩:=Int.eq_ofNat_of_zero_le h1
  obtain⟨k,rfl⟩:=Int.eq_ofNat_of_zero_le h3
  have hm:(BitVec.ofInt 64 (m:Int)).toNat=m:=ofInt_u64 m (by omega)
  have hk:(BitVec.ofInt 64 (k:Int)).toNat=k:=ofInt_u64 k (by omega)
  have hlt:m&&& (18446744073709551615-k)<2 ^ 63:=Nat.lt_of_le_of_lt Nat.and_le_left (by omega)
  unfold bits
  show IntKind.i64.wrap (((BitVec.ofInt 64 (m:Int))&&& ~~~ (BitVec.ofInt 64 (k:Int))).toNat:Int)=_
  rw[BitVec.toNat_and,BitVec.toNat_not,hm,hk,Int.toNat_natCast,Int.toNat_natCast]
  show IntKind.i64.wrap ((m&&& (18446744073709551615-k):Nat):Int)=_
  exact IntWalk.i64_in _ (by omega)
theorem B82 {k:IntKind} {p:Prop} [Decidable p] {a b c:Int} (h:p) (e:c=a):resV [.int k c]= .int k (if p then a else b):=by rw[if_pos h,e];rfl
theorem CB6 {k:IntKind} {p:Prop} [Decidable p] {a b c:Int} (h:¬p) (e:c=b):resV [.int k c]= .int k (if p then a else b):=by rw[if_neg h,e];rfl
end
theorem Holds.ext {G:Ctx} {H:List Ent} {w w':World} (h:Holds G H w) (hb:Below w.heap.size w w'):Holds G H w':=
  ⟨h.below.trans (hb.mono h.base),Nat.le_trans h.base hb.size,fun x hx=>Ent.ok_of (h.ok x hx) fun k hk=>hb.block k (Ent.ok_lt (h.ok x hx) hk).2,h.apart⟩
/-- Contracts told the other way. -/
theorem AA4 {P:Program} {G:Ctx} {f:FuncId} {args:List Value} {H:List Ent} {v:Value} (hc:Callee P f) (h:∀w,Holds G H w→Calls P f args.toArray w fun e w'=>e= .returned v∧Below w.heap.size w w'):SV P G f args H v:=
  ⟨hc,fun w hw=>(h w hw).mono fun _ _ ⟨he,hb⟩=>⟨v,H,he,hw.ext hb,rfl,rfl⟩⟩
theorem A99 {P:Program} {f:FuncId} {args:List Value} {W:World} {v:Value} (h:SV P ⟨W.heap.size,W⟩ f args [] v):Calls P f args.toArray W fun e w'=>e= .returned v∧Below W.heap.size W w':=
  (h.2 W ⟨Below.refl _ _,Nat.le_refl _,fun _ hx=>by (cases hx),List.Pairwise.nil⟩).mono fun _ _ ⟨_,_,he,hw,e1,_⟩=>⟨by rw[he,e1],hw.below⟩
theorem RdC.top {W:World} {H:List Ent} {a:Option Addr} {xs:List Value} (h:At W a xs):RdC ⟨W.heap.size,W⟩ H a xs:=⟨Rd.top h rfl⟩
end Go.Sx
namespace Go.Sx
open Go Go.RowKit Go.Fw
/-- Where the parts of a struct or an array lie. -/
class OffsT (P:Program) (t:TypeId) (offs:outParam (List (Nat×Nat))) (z:outParam (List Value)):Prop where
  here:∃place:Nat→Option (Nat×Nat),(∀(parts:List (Nat×Value)),P.built t parts=Instr.fill place z.toArray parts)∧∀(i:Nat) p,offs[i]? =some p→place i=some p
def AI6 (len sz:Nat):List (Nat×Nat):=(List.range len).map fun i=>(i * sz,sz)
theorem AK9 (len sz i:Nat) (p:Nat×Nat) (h:(AI6 len sz)[i]? =some p):some (i * sz,sz)=some p:=by
  rw[←h,AI6,List.getElem?_map]
  have hi:i<len:=by
    have:=(List.getElem?_eq_some_iff.1 h).1
    simpa [AI6] using this
  simp [List.getElem?_range hi]
def putL? :List Value→Nat→List Value→Option (List Value)
  | l,_,[]=>some l
  | l,k,v::vs=>match set? l k v with
    | none=>none
    | some l'=>putL? l' (k+1) vs
def AB2 (offs:List (Nat×Nat)):List Value→List (Nat×List Value)→Option (List Value)
  | l,[]=>some l
  | l,(i,cs)::r=>match offs[i]? with
    | none=>none
    | some (off,sz)=>bif Nat.beq cs.length sz&&Nat.blt 0 sz then (match putL? l off cs with
      | none=>none
      | some l'=>AB2 offs l' r) else none
def AV8 (s:Fm):List (Nat×Operand)→Option (List (Nat×List Value))
  | []=>some []
  | (i,x)::r=>match ev s x with
    | none=>none
    | some v=>match cells? v with
      | none=>none
      | some cs=>match AV8 s r with
        | none=>none
        | some l=>some ((i,cs)::l)
theorem BC0 {l:List Value} {k:Nat} {v:Value} {l':List Value} (h:set? l k v=some l'):l'.length=l.length:=by rw[←(AS2 h).1,List.length_set]
theorem Aa5:∀(vs l l':List Value) (off j:Nat),putL? l (off+j) vs=some l'→l'.length=l.length∧(vs.length=0∨off+j+vs.length≤l.length)∧((vs.zipIdx j).foldl (fun cs x=>cs.setIfInBounds (off+x.2) x.1) l.toArray)=l'.toArray
  | [],l,l',off,j,h=>by simp only[putL?,Option.some.injEq] at h;subst h;exact⟨rfl,.inl rfl,rfl⟩
  | v::vs,l,l',off,j,h=>by
    unfold putL? at h
    split at h
    · cases h
    · rename_i l1 h1
      obtain⟨e1,e2,e3⟩:=Aa5 vs l1 l' off (j+1) (by rw[←Nat.add_assoc];exact h)
      have hl:=BC0 h1
      obtain⟨f1,f2⟩:=AS2 h1
      refine⟨e1.trans hl,.inr ?_,?_⟩
      · simp only[List.length_cons]
        rcases e2 with e2|e2
        · omega
        · omega
      · rw[List.zipIdx_cons,List.foldl_cons,←e3]
        congr 1
        rw[List.setIfInBounds_toArray,f1]
theorem Ae0 (offs:List (Nat×Nat)) (place:Nat→Option (Nat×Nat)) (hpl:∀(i:Nat) p,offs[i]? =some p→place i=some p):∀(ps:List (Nat×List Value)) (vs:List (Nat×Value)) (l l':List Value),vs.length=ps.length→(∀(j:Nat) p q,ps[j]? =some p→vs[j]? =some q→q.1=p.1∧q.2.cells=p.2.toArray)→AB2 offs l ps=some l'→Instr.fill place l.toArray vs=some l'.toArray
  | [],vs,l,l',hl,_,h=>by
    simp only[AB2,Option.some.injEq] at h
    subst h
    have:vs=[]:=List.eq_nil_of_length_eq_zero (by simpa using hl)
    subst this
    rfl
  | (i,cs)::ps,[],l,l',hl,_,h=>by simp at hl
  | (i,cs)::ps,(i',v)::vs,l,l',hl,hp,h=>by
    obtain⟨e1,e2⟩:=hp 0 _ _ rfl rfl
    simp only at e1 e2
    subst e1
    unfold AB2 at h
    split at h
    · cases h
    · rename_i off sz ho
      cases hb:(Nat.beq cs.length sz&&Nat.blt 0 sz) with
      | false=>rw[hb] at h;cases h
      | true=>
        rw[hb,cond_true] at h
        simp only[Bool.and_eq_true] at hb
        have hsz:=Nat.eq_of_beq_eq_true hb.1
        have h0:0<sz:=by simpa [Nat.blt_eq] using hb.2
        split at h
        · cases h
        · rename_i l1 h1
          obtain⟨f1,f2,f3⟩:=Aa5 cs l l1 off 0 h1
          have ih:=Ae0 offs place hpl ps vs l1 l' (by simpa using hl) (fun j p q h1 h2=>hp (j+1) p q (by simpa using h1) (by simpa using h2)) h
          unfold Instr.fill
          simp only[hpl _ _ ho,e2]
          rw[if_neg (by simp;omega),←Array.foldl_toList,Array.toList_zipIdx,←ih,←f3]
section
variable {P:Program} {G:Ctx} {n:Sz} {ops:Array Oper} {Q:Post} {s:Fm} {H:List Ent} {o:Oper} {rest:List Oper}
theorem Ad8:∀(ps:List (Nat×Operand)) (l:List (Nat×List Value)) (a:Act),Fr n s a→AV8 s ps=some l→
    (ps.map fun x=>(x.1,a.eval x.2)).length=l.length∧∀(j:Nat) p q,l[j]? =some p→(ps.map fun x=>(x.1,a.eval x.2))[j]? =some q→q.1=p.1∧q.2.cells=p.2.toArray
  | [],l,a,_,h=>by simp only[AV8,Option.some.injEq] at h;subst h;exact⟨rfl,fun j p q h=>by simp at h⟩
  | (i,x)::ps,l,a,ha,h=>by
    unfold AV8 at h
    split at h
    · cases h
    · rename_i v hv
      split at h
      · cases h
      · rename_i cs hcs
        split at h
        · cases h
        · rename_i l1 hl1
          simp only[Option.some.injEq] at h
          subst h
          obtain⟨e1,e2⟩:=Ad8 ps l1 a ha hl1
          refine⟨by simp only[List.map_cons,List.length_cons,e1],fun j p q hp hq=>?_⟩
          cases j with
          | zero=>
            simp only[List.map_cons,List.getElem?_cons_zero,Option.some.injEq] at hp hq
            subst hp;subst hq
            exact⟨rfl,by rw[ha.ev hv];exact(Av2 hcs).cells⟩
          | succ j=>
            simp only[List.map_cons,List.getElem?_cons_succ] at hp hq
            exact e2 j p q hp hq
theorem O6 {t:TypeId} {offs:List (Nat×Nat)} {z:List Value} {parts:Array (Nat×Operand)} {l:List (Nat×List Value)} {cs:List Value} (ho:o.op= .build t parts) [h:OffsT P t offs z] (hp:AV8 s parts.toList=some l) (hf:AB2 offs z l=some cs):Yields P G n s H o (.agg cs.toArray):=fun a w ha _=>by
  obtain⟨place,h1,h2⟩:=h.here
  obtain⟨e1,e2⟩:=Ad8 parts.toList l a ha hp
  have hb:=h1 (parts.toList.map fun x=>(x.1,a.eval x.2))
  rw[Ae0 offs place h2 l _ z cs e1 e2 hf] at hb
  unfold execOp;rw[ho]
  exact Y1 (run_build w t _ cs.toArray (by rw[Array.toList_map];exact hb))
theorem AK8 {t len e:Nat} {x y:Operand} {k:IntKind} {i:Int} {cs:List Value} {v:Value} (ho:o.op= .index t x y) [h:ArrT P t len e 1] [he:Sc P e] (hx:ev s x=some (.agg cs.toArray)) (hy:ev s y=some (.int k i)) (h0:0≤i) (h1:i<(len:Int)) (hv:cs[i.toNat]? =some v):Yields P G n s H o v:=fun a w ha _=>by
  obtain⟨hu,hi⟩:=h.here
  obtain⟨d,hd,hrow,-⟩:=he.here
  unfold execOp;rw[ho];simp only[ha.ev hx,ha.ev hy]
  refine Y1 ?_
  cases hq:P.info? e with
  | none=>simp [hq] at hi
  | some inf=>
    have hs:inf.size=1:=by simpa [hq] using hi
    simp only[Instr.index,asIntOf,Sem.run_bind,Sem.run_pure,Result.andThen_ok,run_underlying hu]
    rw[if_pos ⟨h0,h1⟩]
    simp only[sizeOf,typeInfo,program,Sem.run_bind,Sem.run,Result.andThen_ok,hq,hs,Sem.run_pure,part,AQ2 hd,hrow]
    simp [hv,Sem.run]
theorem BJ9 {t:Nat} {x y:Operand} {k:IntKind} {i:Int} {b:ByteArray} {v:UInt8} (ho:o.op= .index t x y) [h:StrT P t] (hx:ev s x=some (.string b)) (hy:ev s y=some (.int k i)) (h0:0≤i) (hv:b[i.toNat]? =some v):Yields P G n s H o (.int .u8 v.toNat):=fun a w ha _=>by
  unfold execOp;rw[ho];simp only[ha.ev hx,ha.ev hy]
  refine Y1 ?_
  simp only[Instr.index,asIntOf,Sem.run_bind,Sem.run_pure,Result.andThen_ok,run_underlying h.here,if_pos h0,hv]
/-- Powers of two, spelled out. -/
def pw? :Nat→Option Int
  | 0=>some 1|1=>some 2|2=>some 4|3=>some 8|4=>some 16|5=>some 32|6=>some 64|7=>some 128|8=>some 256|10=>some 1024|16=>some 65536|24=>some 16777216|32=>some 4294967296|_=>none
theorem BZ0 {m:Nat} {D:Int} (h:pw? m=some D):D=2 ^ m∧m≤32:=by
  unfold pw? at h
  split at h<;>(first|(cases h;done)|(simp only[Option.some.injEq] at h;subst h;exact⟨rfl,by decide⟩))
def msk? :Nat→Option Int
  | 1=>some 2|3=>some 4|7=>some 8|15=>some 16|31=>some 32|63=>some 64|127=>some 128|255=>some 256|65535=>some 65536|_=>none
theorem By8 {m:Nat} {D:Int} (h:msk? m=some D):(∀x:Nat,((x&&& m:Nat):Int)=(x:Int) % D)∧m<65536:=by
  unfold msk? at h
  split at h<;>(first|(cases h;done)|(simp only[Option.some.injEq] at h;subst h;refine⟨fun x=>?_,by decide⟩;(first|rw[nat_mask1]|rw[nat_mask2]|rw[nat_mask3]|rw[nat_mask4]|rw[nat_mask5]|rw[nat_mask6]|rw[nat_mask7]|rw[nat_mask8]|rw[nat_mask16]);exact Int.natCast_emod _ _))
/-- A loop of so many rounds at most. -/
def SRd (P:Program) (G:Ctx) (n:Sz) (c:Code) (Q:Post):Nat→Fm→List Ent→Prop
  | 0,_,_=>False
  | m+1,s,H=>SW P G n c (thn (SRd P G n c Q m) Q) s H
theorem AF8 {c:Code} (m:Nat) (h:SRd P G n c Q m s H):SW P G n (.loop c) Q s H:=fun a w ha hw=>by
  refine wp_loop_rounds m ?_
  induction m generalizing s H a w with
  | zero=>exact h.elim
  | succ m ih=>
    rw[rounds_succ]
    refine wp_mono (h a w ha hw) fun e a' w' ⟨s',H',ha',hw',hq⟩=>?_
    cases e with
    | normal=>exact ih hq a' w' ha' hw'
    | _=>exact⟨s',H',ha',hw',hq⟩
theorem AF9 {c:Code} {m:Nat} (h:SW P G n c (thn (SRd P G n c Q m) Q) s H):SRd P G n c Q (m+1) s H:=h
theorem AN0 {c:Code} {m:Nat} (h:SW P G n c (thn (SRd P G n c Q m) Q) s H):AtQ (thn (SRd P G n c Q (m+1)) Q) .normal s H:=h
end
theorem At5 {P:Program} {G:Ctx} {f:FuncId} {fn:Func} {c:Code} {n:Nat} {H:List Ent} {rs:List ResultVar} {v:Value} (hf:P.funcs[f]? =some fn) (hb:fn.body=some c) (hn:(fn.name== "runtime.NumGoroutine")=false) (hnt:some fn.ntmps=some n) (hrs:fn.results=rs.toArray) (hl:Nat.ble 0 n=true) (h:SW P G n c (fpost G P rs fun u H'=>u=v∧H'=H) [] H):SV P G f [] H v:=AE4 hf hb hn hnt hrs hl h
theorem M5 {P:Program} {G:Ctx} {f:FuncId} {fn:Func} {c:Code} {n:Nat} {v0:Value} {H:List Ent} {rs:List ResultVar} {v:Value} (hf:P.funcs[f]? =some fn) (hb:fn.body=some c) (hn:(fn.name== "runtime.NumGoroutine")=false) (hnt:some fn.ntmps=some n) (hrs:fn.results=rs.toArray) (hl:Nat.ble 1 n=true) (h:SW P G n c (fpost G P rs fun u H'=>u=v∧H'=H) [(0,v0)] H):SV P G f [v0] H v:=AE4 hf hb hn hnt hrs hl h
theorem P7 {P:Program} {G:Ctx} {f:FuncId} {fn:Func} {c:Code} {n:Nat} {v0 v1:Value} {H:List Ent} {rs:List ResultVar} {v:Value} (hf:P.funcs[f]? =some fn) (hb:fn.body=some c) (hn:(fn.name== "runtime.NumGoroutine")=false) (hnt:some fn.ntmps=some n) (hrs:fn.results=rs.toArray) (hl:Nat.ble 2 n=true) (h:SW P G n c (fpost G P rs fun u H'=>u=v∧H'=H) [(0,v0),(1,v1)] H):SV P G f [v0,v1] H v:=AE4 hf hb hn hnt hrs hl h
theorem AC6 {P:Program} {G:Ctx} {f:FuncId} {fn:Func} {c:Code} {n:Nat} {v0 v1 v2:Value} {H:List Ent} {rs:List ResultVar} {v:Value} (hf:P.funcs[f]? =some fn) (hb:fn.body=some c) (hn:(fn.name== "runtime.NumGoroutine")=false) (hnt:some fn.ntmps=some n) (hrs:fn.results=rs.toArray) (hl:Nat.ble 3 n=true) (h:SW P G n c (fpost G P rs fun u H'=>u=v∧H'=H) [(0,v0),(1,v1),(2,v2)] H):SV P G f [v0,v1,v2] H v:=AE4 hf hb hn hnt hrs hl h
theorem BU6 {P:Program} {G:Ctx} {f:FuncId} {fn:Func} {c:Code} {n:Nat} {v0 v1 v2 v3:Value} {H:List Ent} {rs:List ResultVar} {v:Value} (hf:P.funcs[f]? =some fn) (hb:fn.body=some c) (hn:(fn.name== "runtime.NumGoroutine")=false) (hnt:some fn.ntmps=some n) (hrs:fn.results=rs.toArray) (hl:Nat.ble 4 n=true) (h:SW P G n c (fpost G P rs fun u H'=>u=v∧H'=H) [(0,v0),(1,v1),(2,v2),(3,v3)] H):SV P G f [v0,v1,v2,v3] H v:=AE4 hf hb hn hnt hrs hl h
theorem At3 {P:Program} {G:Ctx} {f:FuncId} {fn:Func} {c:Code} {n:Nat} {v0 v1 v2 v3 v4:Value} {H:List Ent} {rs:List ResultVar} {v:Value} (hf:P.funcs[f]? =some fn) (hb:fn.body=some c) (hn:(fn.name== "runtime.NumGoroutine")=false) (hnt:some fn.ntmps=some n) (hrs:fn.results=rs.toArray) (hl:Nat.ble 5 n=true) (h:SW P G n c (fpost G P rs fun u H'=>u=v∧H'=H) [(0,v0),(1,v1),(2,v2),(3,v3),(4,v4)] H):SV P G f [v0,v1,v2,v3,v4] H v:=AE4 hf hb hn hnt hrs hl h
section
variable {P:Program} {G:Ctx} {n:Sz} {ops:Array Oper} {Q:Post} {s:Fm} {H:List Ent} {o:Oper} {rest:List Oper}
theorem Ah0 {t len e sz:Nat} {x y:Operand} {k:IntKind} {i:Int} {cs cs':List Value} (ho:o.op= .index t x y) [h:ArrT P t len e sz] [he:Ag P e sz] (hx:ev s x=some (.agg cs.toArray)) (hy:ev s y=some (.int k i)) (h0:0≤i) (h1:i<(len:Int)) (hv:take? (cs.drop (i.toNat * sz)) sz=some cs'):Yields P G n s H o (.agg cs'.toArray):=fun a w ha _=>by
  obtain⟨hu,hi⟩:=h.here
  obtain⟨d,hd,hrow,-⟩:=he.here
  unfold execOp;rw[ho];simp only[ha.ev hx,ha.ev hy]
  refine Y1 ?_
  cases hq:P.info? e with
  | none=>simp [hq] at hi
  | some inf=>
    have hs:inf.size=sz:=by simpa [hq] using hi
    simp only[Instr.index,asIntOf,Sem.run_bind,Sem.run_pure,Result.andThen_ok,run_underlying hu]
    rw[if_pos ⟨h0,h1⟩]
    have hz:(sizeOf e).run P w= .ok sz w:=by simp [sizeOf,typeInfo,program,Sem.run,hq,hs]
    simp only[Sem.run_bind,hz,Result.andThen_ok,part,AQ2 hd,hrow,if_true,Sem.run_pure]
    have e1:=(Aa2 hv).1
    congr 2
    rw[←e1]
    apply Array.ext'
    simp
theorem Ag0 {c:Code} {Q Q':Post} (hq:∀e s H,Q e s H→Q' e s H) (h:SW P G n c Q s H):SW P G n c Q' s H:=fun a w ha hw=>wp_mono (h a w ha hw) fun _ _ _ ⟨s',H',h1,h2,h3⟩=>⟨s',H',h1,h2,hq _ _ _ h3⟩
theorem AZ9 {N N':Fm→List Ent→Prop} {Q Q':Post} (hn:∀s H,N s H→N' s H) (hq:∀e s H,Q e s H→Q' e s H):∀e s H,thn N Q e s H→thn N' Q' e s H:=fun e s H h=>by
  cases e with
  | normal=>exact hn _ _ h
  | _=>exact hq _ _ _ h
/-- What is known where ways meet. -/
def Meet {α:Type} (G:Ctx) (S:α→Fm) (E:α→List Ent) (I:α→Prop):Fm→List Ent→Prop:=fun s' H'=>∃y,I y∧Le (S y) s'∧∀w,Holds G H' w→Holds G (E y) w
theorem j4 {x y:Code} {α:Type} (S:α→Fm) (E:α→List Ent) (I:α→Prop) (hx:SW P G n x (thn (Meet G S E I) Q) s H) (hy:∀g,I g→SW P G n y Q (S g) (E g)):SW P G n x (thn (SW P G n y Q) Q) s H:=
  Ag0 (AZ9 (fun _ _ ⟨g,h1,h2,h3⟩=>Aw5 h2 h3 (hy g h1)) (fun _ _ _ h=>h)) hx
theorem Bw0 {x c y:Code} {α:Type} (S:α→Fm) (E:α→List Ent) (I:α→Prop) (hx:SW P G n x (thn (SW P G n c (thn (Meet G S E I) Q)) (thn (Meet G S E I) Q)) s H) (hy:∀g,I g→SW P G n y Q (S g) (E g)):SW P G n x (thn (SW P G n c (thn (SW P G n y Q) Q)) (thn (SW P G n y Q) Q)) s H:=
  have hm:∀e s H,thn (Meet G S E I) Q e s H→thn (SW P G n y Q) Q e s H:=AZ9 (fun _ _ ⟨g,h1,h2,h3⟩=>Aw5 h2 h3 (hy g h1)) (fun _ _ _ h=>h)
  Ag0 (AZ9 (fun _ _ h=>Ag0 hm h) hm) hx
theorem K3 {id:Nat} {l:Array Oper} {b:Bool} (h:SW P G n (.region id l b) Q s H):SW P G n (.region id l b) Q s H:=h
end
end Go.Sx
namespace Go.Sx
open Go Go.RowKit Go.Fw
inductive Subs:List Ent→List Ent→Prop where
  | sub {H' H:List Ent} (h:H'.Sublist H):Subs H' H
  | cons {x:Ent} {H' H1 H:List Ent} (hp:Pick x H H1) (h:Subs H' H1):Subs (x::H') H
theorem Subs.perm {H' H:List Ent} (h:Subs H' H):∃H2,H'.Sublist H2∧H2.Perm H:=by
  induction h with
  | sub h=>exact⟨_,h,List.Perm.refl _⟩
  | cons hp _ ih=>
    obtain⟨H2,h1,h2⟩:=ih
    exact⟨_::H2,h1.cons_cons _,(List.Perm.cons _ h2).trans hp.perm.symm⟩
theorem Holds.subs {G:Ctx} {H' H:List Ent} {w:World} (h:Holds G H w) (hs:Subs H' H):Holds G H' w:=by
  obtain⟨H2,h1,h2⟩:=hs.perm
  exact(h.perm h2.symm).sub h1
theorem Bc9 (L M:List Int):ints (L++M)=ints L++ints M:=by simp [ints]
theorem AJ0 (L M:List Int):octs (L++M)=octs L++octs M:=by simp [octs]
section
variable {P:Program} {G:Ctx} {n:Sz} {Q:Post} {s:Fm} {H:List Ent}
/-- A loop told by a ghost. -/
theorem R9 {c:Code} {α:Type} (S:α→Fm) (E:α→List Ent) (I:α→Prop) (μ:α→Nat) (x0:α) (hI:I x0) (hs:Le (S x0) s) (hH:∀w,Holds G H w→Holds G (E x0) w)
    (round:∀x,I x→SW P G n c (thn (Meet G S E fun y=>I y∧μ y<μ x) Q) (S x) (E x)):SW P G n (.loop c) Q s H:=
  B15 S E I μ x0 hI hs hH fun x hx=>Ag0 (AZ9 (fun _ _ ⟨y,⟨h1,h2⟩,h3,h4⟩=>⟨y,h1,h2,h3,h4⟩) fun _ _ _ h=>h) (round x hx)
theorem J6 {α:Type} {S:α→Fm} {E:α→List Ent} {I:α→Prop} (y:α) (hI:I y) (hs:Le (S y) s) (hH:∀w,Holds G H w→Holds G (E y) w):AtQ (thn (Meet G S E I) Q) .normal s H:=⟨y,hI,hs,hH⟩
theorem M9 {R:Value→List Ent→Prop} {rs:List ResultVar} {vs:List Value} {e:Exit} (H':List Ent) (he:e= .normal∨e= .ret) (hr:res? s rs=some vs) (hH:∀w,Holds G H w→Holds G H' w) (h:R (resV vs) H'):AtQ (fpost G P rs R) e s H:=AY4 e he (AW7 hr) hH h
end
end Go.Sx
namespace Go.Sx
open Go Go.RowKit Go.Fw
section
variable {P:Program} {G:Ctx} {n:Sz} {ops:Array Oper} {Q:Post} {s:Fm} {H:List Ent} {rest:List Oper} {d:Nat} {ty:TypeId} {pos:String} {af:Array Edge}
theorem J9 {op:Op} {i j:Nat} {b c:Bool} {o':Oper} (ho:ops[i]? =some o') (hd:o'.dst=some j) (hl:look s j=some (.bool c)) (h2:Nat.blt d n.n=true)
    (hs:(c=b→SL P G n ops Q (⟨some d,op,ty,pos,af,none⟩::rest) ((j,.bool b)::s) H)∧(c=!b→SL P G n ops Q rest ((d,undef)::(j,.bool (!b))::s) H)):SL P G n ops Q (⟨some d,op,ty,pos,af,some (i,b)⟩::rest) s H:=by
  have key:∀v,look s j=some v→∀a,Fr n s a→Fr n ((j,v)::s) a:=fun v hv a ha=>⟨ha.defers,ha.size,fun i u hi=>by
    simp only[look] at hi
    cases hb:Nat.beq i j with
    | true=>rw[hb,cond_true,Option.some.injEq] at hi;subst hi;rw[Nat.eq_of_beq_eq_true hb];exact ha.has j _ hv
    | false=>rw[hb,cond_false] at hi;exact ha.has i u hi⟩
  by_cases hc:c=b
  · subst hc
    exact fun a w ha hw=>BK5 (o:=⟨some d,op,ty,pos,af,some (i,c)⟩) rfl ho hd (by simp only[look,Nat.beq_refl,cond_true]) (hs.1 rfl) a w (key _ hl a ha) hw
  · have hc':c=!b:=by cases c<;>cases b<;>simp_all
    have hl':look ((j,Value.bool c)::s) j=some (.bool c):=by simp only[look,Nat.beq_refl,cond_true]
    have h:=hs.2 hc'
    rw[←hc'] at h
    refine fun a w ha hw=>BG2 (o:=⟨some d,op,ty,pos,af,some (i,b)⟩) (fun a ha=>Skips.wanted ⟨i,c,o',j,?_,ho,hd,hl'⟩ ha) rfl h2 h a w (key _ hl a ha) hw
    rw[hc'];simp
theorem Bq3 {Q:Fm→Prop} {op:Op} {i j:Nat} {b c:Bool} {o':Oper} (ho:ops[i]? =some o') (hd:o'.dst=some j) (hl:look s j=some (.bool c)) (h2:Nat.blt d n.n=true)
    (hs:(c=b→SQ P G n ops Q H (⟨some d,op,ty,pos,af,none⟩::rest) ((j,.bool b)::s))∧(c=!b→SQ P G n ops Q H rest ((d,undef)::(j,.bool (!b))::s))):SQ P G n ops Q H (⟨some d,op,ty,pos,af,some (i,b)⟩::rest) s:=by
  have key:∀v,look s j=some v→∀a,Fr n s a→Fr n ((j,v)::s) a:=fun v hv a ha=>⟨ha.defers,ha.size,fun i u hi=>by
    simp only[look] at hi
    cases hb:Nat.beq i j with
    | true=>rw[hb,cond_true,Option.some.injEq] at hi;subst hi;rw[Nat.eq_of_beq_eq_true hb];exact ha.has j _ hv
    | false=>rw[hb,cond_false] at hi;exact ha.has i u hi⟩
  by_cases hc:c=b
  · subst hc
    exact fun a ha=>BH6 (o:=⟨some d,op,ty,pos,af,some (i,c)⟩) rfl ho hd (by simp only[look,Nat.beq_refl,cond_true]) (hs.1 rfl) a (key _ hl a ha)
  · have hc':c=!b:=by cases c<;>cases b<;>simp_all
    have hl':look ((j,Value.bool c)::s) j=some (.bool c):=by simp only[look,Nat.beq_refl,cond_true]
    have h:=hs.2 hc'
    rw[←hc'] at h
    refine fun a ha=>Bu2 (o:=⟨some d,op,ty,pos,af,some (i,b)⟩) (fun a ha=>Skips.wanted ⟨i,c,o',j,?_,ho,hd,hl'⟩ ha) rfl h2 h a (key _ hl a ha)
    rw[hc'];simp
/-- By the value fetched. -/
theorem I7 {A B:Prop} {b:Bool} (h:A):(b=b→A)∧(b=!b→B):=⟨fun _=>h,fun e=>by cases b<;>cases e⟩
theorem X9 {A B:Prop} (h:B):(true=false→A)∧(true=!false→B):=⟨fun e=>(by cases e),fun _=>h⟩
theorem I5 {A B:Prop} (h:B):(false=true→A)∧(false=!true→B):=⟨fun e=>(by cases e),fun _=>h⟩
theorem E9 {A B:Prop} {p:Prop} [Decidable p] (h1:p→A) (h2:¬p→B):(decide p=true→A)∧(decide p=!true→B):=⟨fun e=>h1 (of_decide_eq_true e),fun e=>h2 (of_decide_eq_false e)⟩
theorem O8 {A B:Prop} {p:Prop} [Decidable p] (h1:¬p→A) (h2:p→B):(decide p=false→A)∧(decide p=!false→B):=⟨fun e=>h1 (of_decide_eq_false e),fun e=>h2 (of_decide_eq_true e)⟩
theorem X6 {A B:Prop} {x y:Int} (h1:¬x=y→A) (h2:x=y→B):((x !=y)=true→A)∧((x !=y)=!true→B):=⟨fun e=>h1 (by simpa using e),fun e=>h2 (by simpa using e)⟩
theorem AP0 {A B:Prop} {x y:Int} (h1:x=y→A) (h2:¬x=y→B):((x !=y)=false→A)∧((x !=y)=!false→B):=⟨fun e=>h1 (by simpa using e),fun e=>h2 (by simpa using e)⟩
theorem AF0 {A B:Prop} {c:Bool} (h1:c=false→A) (h2:c=true→B):((!c)=true→A)∧((!c)=!true→B):=⟨fun e=>h1 (by simpa using e),fun e=>h2 (by simpa using e)⟩
theorem Aj5 {A B:Prop} {c:Bool} (h1:c=true→A) (h2:c=false→B):((!c)=false→A)∧((!c)=!false→B):=⟨fun e=>h1 (by simpa using e),fun e=>h2 (by simpa using e)⟩
theorem Ai9 {A B:Prop} {c:Bool} (h1:c=true→A) (h2:c=false→B):(c=true→A)∧(c=!true→B):=⟨h1,h2⟩
/-- Of a condition. -/
theorem G5 {c:Operand} {x y:Code} {t:Bool} (hc:ev s c=some (.bool t)) (hs:(t=true→SW P G n x Q s H)∧(t=!true→SW P G n y Q s H)):SW P G n (.cond c x y) Q s H:=Bz1 hc hs.1 hs.2
/-- Two values met by an operator. -/
def BB (P:Program) (op:BinOp) (t:TypeId) (x y:Operand) (vx vy:Value) (K:Value→Prop):Prop:=∃v,(∀w,(do eqGuard op t x y vx vy;binOp op t vx vy:Sem Value).run P w= .ok v w)∧K v
/-- What a load finds. -/
def LD (P:Program) (G:Ctx) (H:List Ent) (t:TypeId) (p:Value) (K:Value→Prop):Prop:=∃v,(∀w,Holds G H w→(Instr.loadAt t p).run P w= .ok v w)∧K v
def PK (s:Fm) (b:Bool) (x y:Operand) (K:Value→Prop):Prop:=∃v,(∀(n:Sz) a,Fr n s a→(if b then a.eval x else a.eval y)=v)∧K v
variable {K:Value→Prop} {x y:Operand} {t t':TypeId}
theorem yb {op:BinOp} {vx vy v:Value} {o:Oper} (ho:o.op= .binOp op t x y t') (hx:ev s x=some vx) (hy:ev s y=some vy) (h:∀w,(do eqGuard op t x y vx vy;binOp op t vx vy:Sem Value).run P w= .ok v w):Yields P G n s H o v:=fun a w ha _=>by
  unfold execOp;rw[ho];simp only[ha.ev hx,ha.ev hy];exact Y1 (h w)
theorem F7 {op:BinOp} {vx vy v:Value} (h:still P (do eqGuard op t x y vx vy;binOp op t vx vy)=some v) (hk:K v):BB P op t x y vx vy K:=⟨v,fun w=>AI9 _ _ h w,hk⟩
theorem B64 {k:IntKind} {p q:Int} (h:Fits k (p+q)):still P (do eqGuard .add t x y (.int k p) (.int k q);binOp .add t (.int k p) (.int k q))=some (.int k (p+q)):=by simp only[eqGuard,binOp,Op.intArith,h.wrap];simp;rfl
theorem L9 {k:IntKind} {p q:Int} (h:Fits k (p+q)) (hk:K (.int k (p+q))):BB P .add t x y (.int k p) (.int k q) K:=F7 (B64 h) hk
theorem CA4 {k:IntKind} {p q:Int} (h:Fits k (p-q)):still P (do eqGuard .sub t x y (.int k p) (.int k q);binOp .sub t (.int k p) (.int k q))=some (.int k (p-q)):=by simp only[eqGuard,binOp,Op.intArith,h.wrap];simp;rfl
theorem AA2 {k:IntKind} {p q:Int} (h:Fits k (p-q)) (hk:K (.int k (p-q))):BB P .sub t x y (.int k p) (.int k q) K:=F7 (CA4 h) hk
theorem B62 {k:IntKind} {p q:Int} (h:Fits k (p * q)):still P (do eqGuard .mul t x y (.int k p) (.int k q);binOp .mul t (.int k p) (.int k q))=some (.int k (p * q)):=by simp only[eqGuard,binOp,Op.intArith,h.wrap];simp;rfl
theorem AQ7 {k:IntKind} {p q:Int} (h:Fits k (p * q)) (hk:K (.int k (p * q))):BB P .mul t x y (.int k p) (.int k q) K:=F7 (B62 h) hk
theorem CA0 {k:IntKind} {p q:Int} (h:Fits k (p / q)) (h0:0≤p) (h1:0<q):still P (do eqGuard .quo t x y (.int k p) (.int k q);binOp .quo t (.int k p) (.int k q))=some (.int k (p / q)):=by
    have e:p.tdiv q=p / q:=Int.tdiv_eq_ediv_of_nonneg h0
    have e2:¬q=0:=by omega
    simp only[eqGuard,binOp,Op.intDiv,e,h.wrap,e2,if_false];simp;rfl
theorem B69 {k:IntKind} {p q:Int} (h:Fits k (p / q)) (h0:0≤p) (h1:0<q) (hk:K (.int k (p / q))):BB P .quo t x y (.int k p) (.int k q) K:=F7 (CA0 h h0 h1) hk
theorem CD8 {k:IntKind} {p q:Int} (h0:0≤p) (h1:0<q):still P (do eqGuard .rem t x y (.int k p) (.int k q);binOp .rem t (.int k p) (.int k q))=some (.int k (p % q)):=by
    have e:p.tmod q=p % q:=Int.tmod_eq_emod_of_nonneg h0
    have e2:¬q=0:=by omega
    simp only[eqGuard,binOp,Op.intDiv,e,e2,if_false];simp;rfl
theorem B50 {k:IntKind} {p q:Int} (h0:0≤p) (h1:0<q) (hk:K (.int k (p % q))):BB P .rem t x y (.int k p) (.int k q) K:=F7 (CD8 h0 h1) hk
theorem Bb2 {p q:Int} (h1:0≤p) (h2:p<9223372036854775808) (h3:0≤q) (h4:q<9223372036854775808):still P (do eqGuard .and t x y (.int .i64 p) (.int .i64 q);binOp .and t (.int .i64 p) (.int .i64 q))=some (.int .i64 (iand p q)):=by rw[AP1,←Bv9 p q h1 h2 h3 h4];rfl
theorem A10 {p q:Int} (h1:0≤p) (h2:p<9223372036854775808) (h3:0≤q) (h4:q<9223372036854775808) (hk:K (.int .i64 (iand p q))):BB P .and t x y (.int .i64 p) (.int .i64 q) K:=F7 (Bb2 h1 h2 h3 h4) hk
theorem CI9 {p q:Int} (h1:0≤p) (h2:p<9223372036854775808) (h3:0≤q) (h4:q<9223372036854775808):still P (do eqGuard .or t x y (.int .i64 p) (.int .i64 q);binOp .or t (.int .i64 p) (.int .i64 q))=some (.int .i64 (ior p q)):=by rw[Ay5,←B65 p q h1 h2 h3 h4];rfl
theorem CF1 {p q:Int} (h1:0≤p) (h2:p<9223372036854775808) (h3:0≤q) (h4:q<9223372036854775808) (hk:K (.int .i64 (ior p q))):BB P .or t x y (.int .i64 p) (.int .i64 q) K:=F7 (CI9 h1 h2 h3 h4) hk
theorem BN6 {p q:Int} (h1:0≤p) (h2:p<9223372036854775808) (h3:0≤q) (h4:q<9223372036854775808):still P (do eqGuard .andNot t x y (.int .i64 p) (.int .i64 q);binOp .andNot t (.int .i64 p) (.int .i64 q))=some (.int .i64 (iclr p q)):=by rw[AS1,←BI7 p q h1 h2 h3 h4];rfl
theorem AT7 {p q:Int} (h1:0≤p) (h2:p<9223372036854775808) (h3:0≤q) (h4:q<9223372036854775808) (hk:K (.int .i64 (iclr p q))):BB P .andNot t x y (.int .i64 p) (.int .i64 q) K:=F7 (BN6 h1 h2 h3 h4) hk
theorem B24 {op:BinOp} {k:IntKind} {p q:Int} (hop:(match op with| .and| .or| .xor| .andNot=>true|_=>false)=true):still P (do eqGuard op t x y (.int k p) (.int k q);binOp op t (.int k p) (.int k q))=some (.int k (ibits op k p q)):=by rw[A45];cases op<;>(first|(cases hop;done)|(simp only[eqGuard,binOp];simp;rfl))
theorem B26 {op:BinOp} {k:IntKind} {p q:Int} (hop:(match op with| .and| .or| .xor| .andNot=>true|_=>false)=true) (hk:K (.int k (ibits op k p q))):BB P op t x y (.int k p) (.int k q) K:=F7 (B24 hop) hk
theorem CB7 {k k':IntKind} {p:Int} {m:Nat} (hm:Nat.ble m k.bits=true):still P (do eqGuard .shr t x y (.int k p) (.int k' m);binOp .shr t (.int k p) (.int k' m))=some (.int k (p / 2 ^ m)):=by
  have hm':=Nat.le_of_ble_eq_true hm
  have e:min ((m:Int).toNat) k.bits=m:=by rw[Int.toNat_natCast];exact Nat.min_eq_left hm'
  have e2:p.fdiv (2 ^ m)=p / 2 ^ m:=Int.fdiv_eq_ediv_of_nonneg _ (by exact_mod_cast Nat.zero_le (2 ^ m))
  have e3:¬((m:Int)<0):=by omega
  simp only[eqGuard,binOp,Op.shift,e3,if_false,e,e2]
  simp
  rfl
theorem BQ0 {k k':IntKind} {p q D:Int} {m:Nat} (hq:q=m) (hp:pw? m=some D) (hm:Nat.ble m k.bits=true) (hk:K (.int k (p / D))):BB P .shr t x y (.int k p) (.int k' q) K:=by
  subst hq
  obtain⟨e,-⟩:=BZ0 hp
  subst e
  exact F7 (CB7 hm) hk
theorem Aq0 {p q D:Int} {m:Nat} (hq:q=m) (hm:msk? m=some D) (h1:0≤p) (h2:p<9223372036854775808) (hk:K (.int .i64 (p % D))):BB P .and t x y (.int .i64 p) (.int .i64 q) K:=by
  subst hq
  obtain⟨e,hlt⟩:=By8 hm
  have h:=Bb2 (P:=P) (t:=t) (x:=x) (y:=y) (p:=p) (q:=m) h1 h2 (by omega) (by omega)
  rw[AP1,Int.toNat_natCast,e,Int.toNat_of_nonneg h1] at h
  exact F7 h hk
theorem G6 {t' b off:Nat} {cs:List Value} {v:Value} [h:Sc P t] [hm:HasBlk H b t' cs] (hv:cs[off]? =some v) (hk:K v):LD P G H t (.pointer (some ⟨b,off,none⟩)) K:=by
  obtain⟨d,h1,h2,-⟩:=h.here
  exact⟨v,fun w hw=>AQ9 h1 h2 ((AL7 (hw.ok _ hm.here).2).trans hv),hk⟩
theorem K5 {t' b sz:Nat} {cs:List Value} [h:Ag P t sz] [hm:HasBlk H b t' cs] (hl':Nat.beq cs.length sz=true) (hk:K (.agg cs.toArray)):LD P G H t (.pointer (some ⟨b,0,none⟩)) K:=by
  obtain⟨d,h1,h2,h3⟩:=h.here
  have hl:=Nat.eq_of_beq_eq_true hl'
  exact⟨_,fun w hw=>AK3 h1 h2 (by rw[h3,hl]) fun j v hj=>by rw[Nat.zero_add];exact(AL7 (hw.ok _ hm.here).2).trans hj,hk⟩
theorem L8 {t' b off sz:Nat} {cs cs':List Value} [h:Ag P t sz] [hm:HasBlk H b t' cs] (hn:take? (cs.drop off) sz=some cs') (hz:Nat.blt 0 sz=true) (hk:K (.agg cs'.toArray)):LD P G H t (.pointer (some ⟨b,off,none⟩)) K:=by
  obtain⟨d,h1,h2,h3⟩:=h.here
  obtain⟨e1,e2⟩:=Aa2 hn
  rw[List.length_drop] at e2
  refine⟨_,fun w hw=>AK3 h1 h2 (cs:=cs') (by rw[h3,←e1,List.length_take,List.length_drop,Nat.min_eq_left (by omega)]) fun j v hj=>?_,hk⟩
  refine(AL7 (hw.ok _ hm.here).2).trans ?_
  rw[←e1] at hj
  have hlt:j<sz:=by
    have:=(List.getElem?_eq_some_iff.1 hj).1
    rw[List.length_take] at this;omega
  rw[List.getElem?_take,if_pos hlt,List.getElem?_drop] at hj
  exact hj
theorem X5 {a:Option Addr} {k:Nat} {xs:List Value} {v:Value} [h:Sc P t] [hr:RdC G H a xs] (hv:xs[k]? =some v) (hk:K v):LD P G H t (x8 a k) K:=by
  obtain⟨d,h1,h2,-⟩:=h.here
  refine⟨v,fun w hw=>?_,hk⟩
  have hkk:=(List.getElem?_eq_some_iff.1 hv).1
  obtain⟨b,off,rfl,hc⟩:=At.someAt (hr.here w hw) (by omega)
  simp only[x8,Option.map_some,Addr.add_mid]
  exact AQ9 h1 h2 ((hc k hkk).trans hv)
theorem Q8 {v:Value} (hx:ev s x=some v) (hk:K v):PK s true x y K:=⟨v,fun _ _ ha=>ha.ev hx,hk⟩
theorem O3 {v:Value} (hx:ev s y=some v) (hk:K v):PK s false x y K:=⟨v,fun _ _ ha=>ha.ev hx,hk⟩
theorem F5 {op:BinOp} {vx vy:Value} (hx:ev s x=some vx) (hy:ev s y=some vy) (h2:Nat.blt d n.n=true) (h:BB P op t x y vx vy fun v=>SL P G n ops Q rest ((d,v)::s) H):SL P G n ops Q (⟨some d,Op.binOp op t x y t',ty,pos,af,none⟩::rest) s H:=by
  obtain⟨v,h3,h4⟩:=h
  exact AB1 rfl (yb rfl hx hy h3) rfl h2 h4
theorem F8 {vx:Value} (hx:ev s x=some vx) (h2:Nat.blt d n.n=true) (h:LD P G H t vx fun v=>SL P G n ops Q rest ((d,v)::s) H):SL P G n ops Q (⟨some d,Op.load t x,ty,pos,af,none⟩::rest) s H:=by
  obtain⟨v,h3,h4⟩:=h
  exact AB1 rfl (fun a w ha hw=>by unfold execOp;simp only[ha.ev hx];exact Y1 (h3 w hw)) rfl h2 h4
theorem I9 {c:Operand} {b:Bool} (hc:ev s c=some (.bool b)) (h2:Nat.blt d n.n=true) (h:PK s b x y fun v=>SL P G n ops Q rest ((d,v)::s) H):SL P G n ops Q (⟨some d,Op.pick c x y,ty,pos,af,none⟩::rest) s H:=by
  obtain⟨v,h3,h4⟩:=h
  exact AB1 rfl (fun a w ha _=>by unfold execOp;simp only[ha.ev hc,asBool,Sem.run_bind,Sem.run_pure,Result.andThen_ok,h3 n a ha]) rfl h2 h4
theorem D8 {v:Value} (hx:ev s x=some v) (h2:Nat.blt d n.n=true) (h:SL P G n ops Q rest ((d,v)::s) H):SL P G n ops Q (⟨some d,Op.move x,ty,pos,af,none⟩::rest) s H:=AB1 rfl (V4 rfl hx) rfl h2 h
theorem D9 {v:Value} (hx:ev s x=some v) (h2:Nat.blt d n.n=true) (h:SL P G n ops Q rest ((d,v)::s) H):SL P G n ops Q (⟨some d,Op.assign x,ty,pos,af,none⟩::rest) s H:=AB1 rfl (X7 rfl hx) rfl h2 h
theorem Z8 {u:UnOp} {v:Value} (hy:Yields P G n s H ⟨some d,Op.unOp u t x,ty,pos,af,none⟩ v) (h2:Nat.blt d n.n=true) (h:SL P G n ops Q rest ((d,v)::s) H):SL P G n ops Q (⟨some d,Op.unOp u t x,ty,pos,af,none⟩::rest) s H:=AB1 rfl hy rfl h2 h
theorem G8 {i:Nat} {v:Value} (hy:Yields P G n s H ⟨some d,Op.fieldAddr t x i,ty,pos,af,none⟩ v) (h2:Nat.blt d n.n=true) (h:SL P G n ops Q rest ((d,v)::s) H):SL P G n ops Q (⟨some d,Op.fieldAddr t x i,ty,pos,af,none⟩::rest) s H:=AB1 rfl hy rfl h2 h
theorem R7 {parts:Array (Nat×Operand)} {v:Value} (hy:Yields P G n s H ⟨some d,Op.build t parts,ty,pos,af,none⟩ v) (h2:Nat.blt d n.n=true) (h:SL P G n ops Q rest ((d,v)::s) H):SL P G n ops Q (⟨some d,Op.build t parts,ty,pos,af,none⟩::rest) s H:=AB1 rfl hy rfl h2 h
theorem W9 {v:Value} (hy:Yields P G n s H ⟨some d,Op.index t x y,ty,pos,af,none⟩ v) (h2:Nat.blt d n.n=true) (h:SL P G n ops Q rest ((d,v)::s) H):SL P G n ops Q (⟨some d,Op.index t x y,ty,pos,af,none⟩::rest) s H:=AB1 rfl hy rfl h2 h
theorem N9 {v:Value} (hy:Yields P G n s H ⟨some d,Op.indexAddr t x y,ty,pos,af,none⟩ v) (h2:Nat.blt d n.n=true) (h:SL P G n ops Q rest ((d,v)::s) H):SL P G n ops Q (⟨some d,Op.indexAddr t x y,ty,pos,af,none⟩::rest) s H:=AB1 rfl hy rfl h2 h
theorem x9 {v:Value} (hy:Yields P G n s H ⟨some d,Op.convert t t' x,ty,pos,af,none⟩ v) (h2:Nat.blt d n.n=true) (h:SL P G n ops Q rest ((d,v)::s) H):SL P G n ops Q (⟨some d,Op.convert t t' x,ty,pos,af,none⟩::rest) s H:=AB1 rfl hy rfl h2 h
theorem U2 {i:Nat} {v:Value} (hy:Yields P G n s H ⟨some d,Op.extract x i,ty,pos,af,none⟩ v) (h2:Nat.blt d n.n=true) (h:SL P G n ops Q rest ((d,v)::s) H):SL P G n ops Q (⟨some d,Op.extract x i,ty,pos,af,none⟩::rest) s H:=AB1 rfl hy rfl h2 h
theorem M8 {v:Value} (hy:Yields P G n s H ⟨some d,Op.nilCheck x,ty,pos,af,none⟩ v) (h2:Nat.blt d n.n=true) (h:SL P G n ops Q rest ((d,v)::s) H):SL P G n ops Q (⟨some d,Op.nilCheck x,ty,pos,af,none⟩::rest) s H:=AB1 rfl hy rfl h2 h
theorem s_call {c:Call} {v:Value} (hy:Yields P G n s H ⟨some d,.call c,ty,pos,af,none⟩ v) (h2:Nat.blt d n.n=true) (h:SL P G n ops Q rest ((d,v)::s) H):SL P G n ops Q (⟨some d,.call c,ty,pos,af,none⟩::rest) s H:=AB1 rfl hy rfl h2 h
theorem AK5 {Q:Fm→Prop} {op:BinOp} {vx vy:Value} (hx:ev s x=some vx) (hy:ev s y=some vy) (h2:Nat.blt d n.n=true) (h:BB P op t x y vx vy fun v=>SQ P G n ops Q H rest ((d,v)::s)):SQ P G n ops Q H (⟨some d,Op.binOp op t x y t',ty,pos,af,none⟩::rest) s:=by
  obtain⟨v,h3,h4⟩:=h
  exact AJ3 rfl (yb rfl hx hy h3) rfl h2 h4
theorem AE9 {Q:Fm→Prop} {vx:Value} (hx:ev s x=some vx) (h2:Nat.blt d n.n=true) (h:LD P G H t vx fun v=>SQ P G n ops Q H rest ((d,v)::s)):SQ P G n ops Q H (⟨some d,Op.load t x,ty,pos,af,none⟩::rest) s:=by
  obtain⟨v,h3,h4⟩:=h
  exact AJ3 rfl (fun a w ha hw=>by unfold execOp;simp only[ha.ev hx];exact Y1 (h3 w hw)) rfl h2 h4
theorem BX8 {Q:Fm→Prop} {c:Operand} {b:Bool} (hc:ev s c=some (.bool b)) (h2:Nat.blt d n.n=true) (h:PK s b x y fun v=>SQ P G n ops Q H rest ((d,v)::s)):SQ P G n ops Q H (⟨some d,Op.pick c x y,ty,pos,af,none⟩::rest) s:=by
  obtain⟨v,h3,h4⟩:=h
  exact AJ3 rfl (fun a w ha _=>by unfold execOp;simp only[ha.ev hc,asBool,Sem.run_bind,Sem.run_pure,Result.andThen_ok,h3 n a ha]) rfl h2 h4
theorem AG6 {Q:Fm→Prop} {v:Value} (hx:ev s x=some v) (h2:Nat.blt d n.n=true) (h:SQ P G n ops Q H rest ((d,v)::s)):SQ P G n ops Q H (⟨some d,Op.move x,ty,pos,af,none⟩::rest) s:=AJ3 rfl (V4 rfl hx) rfl h2 h
theorem AK1 {Q:Fm→Prop} {v:Value} (hx:ev s x=some v) (h2:Nat.blt d n.n=true) (h:SQ P G n ops Q H rest ((d,v)::s)):SQ P G n ops Q H (⟨some d,Op.assign x,ty,pos,af,none⟩::rest) s:=AJ3 rfl (X7 rfl hx) rfl h2 h
theorem AI8 {Q:Fm→Prop} {i:Nat} {v:Value} (hy:Yields P G n s H ⟨some d,Op.fieldAddr t x i,ty,pos,af,none⟩ v) (h2:Nat.blt d n.n=true) (h:SQ P G n ops Q H rest ((d,v)::s)):SQ P G n ops Q H (⟨some d,Op.fieldAddr t x i,ty,pos,af,none⟩::rest) s:=AJ3 rfl hy rfl h2 h
theorem AH6 {Q:Fm→Prop} {v:Value} (hy:Yields P G n s H ⟨some d,Op.indexAddr t x y,ty,pos,af,none⟩ v) (h2:Nat.blt d n.n=true) (h:SQ P G n ops Q H rest ((d,v)::s)):SQ P G n ops Q H (⟨some d,Op.indexAddr t x y,ty,pos,af,none⟩::rest) s:=AJ3 rfl hy rfl h2 h
theorem Am8 {Q:Fm→Prop} {v:Value} (hy:Yields P G n s H ⟨some d,Op.convert t t' x,ty,pos,af,none⟩ v) (h2:Nat.blt d n.n=true) (h:SQ P G n ops Q H rest ((d,v)::s)):SQ P G n ops Q H (⟨some d,Op.convert t t' x,ty,pos,af,none⟩::rest) s:=AJ3 rfl hy rfl h2 h
theorem A78 {Q:Fm→Prop} {i:Nat} {v:Value} (hy:Yields P G n s H ⟨some d,Op.extract x i,ty,pos,af,none⟩ v) (h2:Nat.blt d n.n=true) (h:SQ P G n ops Q H rest ((d,v)::s)):SQ P G n ops Q H (⟨some d,Op.extract x i,ty,pos,af,none⟩::rest) s:=AJ3 rfl hy rfl h2 h
theorem AV9 {Q:Fm→Prop} {v:Value} (hy:Yields P G n s H ⟨some d,Op.nilCheck x,ty,pos,af,none⟩ v) (h2:Nat.blt d n.n=true) (h:SQ P G n ops Q H rest ((d,v)::s)):SQ P G n ops Q H (⟨some d,Op.nilCheck x,ty,pos,af,none⟩::rest) s:=AJ3 rfl hy rfl h2 h
theorem Ba0 {Q:Fm→Prop} {c:Call} {v:Value} (hy:Yields P G n s H ⟨some d,.call c,ty,pos,af,none⟩ v) (h2:Nat.blt d n.n=true) (h:SQ P G n ops Q H rest ((d,v)::s)):SQ P G n ops Q H (⟨some d,.call c,ty,pos,af,none⟩::rest) s:=AJ3 rfl hy rfl h2 h
end
end Go.Sx
namespace Go.Sx
open Go Go.RowKit Go.Fw
section
variable {P:Program} {G:Ctx} {n:Sz} {ops:Array Oper} {Q:Post} {s:Fm} {H:List Ent} {rest:List Oper} {d:Option Nat} {ty:TypeId} {pos:String} {af:Array Edge} {K:Value→Prop} {x y:Operand} {t t':TypeId} {i:Nat} {vx vy:Value}
theorem C9 (h:SL P G n ops Q (⟨d,Op.move x,ty,pos,af,none⟩::rest) s H):SL P G n ops Q (⟨d,Op.move x,ty,pos,af,none⟩::rest) s H:=h
theorem E5 {op:BinOp} (h:SL P G n ops Q (⟨d,Op.binOp op t x y t',ty,pos,af,none⟩::rest) s H):SL P G n ops Q (⟨d,Op.binOp op t x y t',ty,pos,af,none⟩::rest) s H:=h
theorem F4 (h:SL P G n ops Q (⟨d,Op.load t x,ty,pos,af,none⟩::rest) s H):SL P G n ops Q (⟨d,Op.load t x,ty,pos,af,none⟩::rest) s H:=h
theorem D6 (h:SL P G n ops Q (⟨d,Op.assign x,ty,pos,af,none⟩::rest) s H):SL P G n ops Q (⟨d,Op.assign x,ty,pos,af,none⟩::rest) s H:=h
theorem I6 {c:Operand} (h:SL P G n ops Q (⟨d,Op.pick c x y,ty,pos,af,none⟩::rest) s H):SL P G n ops Q (⟨d,Op.pick c x y,ty,pos,af,none⟩::rest) s H:=h
theorem G7 (h:SL P G n ops Q (⟨d,Op.fieldAddr t x i,ty,pos,af,none⟩::rest) s H):SL P G n ops Q (⟨d,Op.fieldAddr t x i,ty,pos,af,none⟩::rest) s H:=h
theorem Y0 {u:UnOp} (h:SL P G n ops Q (⟨d,Op.unOp u t x,ty,pos,af,none⟩::rest) s H):SL P G n ops Q (⟨d,Op.unOp u t x,ty,pos,af,none⟩::rest) s H:=h
theorem Q6 (h:SL P G n ops Q (⟨d,Op.extract x i,ty,pos,af,none⟩::rest) s H):SL P G n ops Q (⟨d,Op.extract x i,ty,pos,af,none⟩::rest) s H:=h
theorem P5 {parts:Array (Nat×Operand)} (h:SL P G n ops Q (⟨d,Op.build t parts,ty,pos,af,none⟩::rest) s H):SL P G n ops Q (⟨d,Op.build t parts,ty,pos,af,none⟩::rest) s H:=h
theorem p8 (h:SL P G n ops Q (⟨d,Op.convert t t' x,ty,pos,af,none⟩::rest) s H):SL P G n ops Q (⟨d,Op.convert t t' x,ty,pos,af,none⟩::rest) s H:=h
theorem U8 (h:SL P G n ops Q (⟨d,Op.index t x y,ty,pos,af,none⟩::rest) s H):SL P G n ops Q (⟨d,Op.index t x y,ty,pos,af,none⟩::rest) s H:=h
theorem M4 (h:SL P G n ops Q (⟨d,Op.indexAddr t x y,ty,pos,af,none⟩::rest) s H):SL P G n ops Q (⟨d,Op.indexAddr t x y,ty,pos,af,none⟩::rest) s H:=h
theorem K8 (h:SL P G n ops Q (⟨d,Op.nilCheck x,ty,pos,af,none⟩::rest) s H):SL P G n ops Q (⟨d,Op.nilCheck x,ty,pos,af,none⟩::rest) s H:=h
theorem H9 (h:SL P G n ops Q (⟨d,Op.store t x y,ty,pos,af,none⟩::rest) s H):SL P G n ops Q (⟨d,Op.store t x y,ty,pos,af,none⟩::rest) s H:=h
theorem K9 (h:SL P G n ops Q (⟨d,Op.box t x,ty,pos,af,none⟩::rest) s H):SL P G n ops Q (⟨d,Op.box t x,ty,pos,af,none⟩::rest) s H:=h
theorem L6 (h:SL P G n ops Q (⟨d,Op.alloc t,ty,pos,af,none⟩::rest) s H):SL P G n ops Q (⟨d,Op.alloc t,ty,pos,af,none⟩::rest) s H:=h
theorem V8 {parts:Array (Nat×Operand)} (h:SL P G n ops Q (⟨d,Op.buildSlice t i parts,ty,pos,af,none⟩::rest) s H):SL P G n ops Q (⟨d,Op.buildSlice t i parts,ty,pos,af,none⟩::rest) s H:=h
theorem H6 {xs:Array Operand} {ats:Array TypeId} (h:SL P G n ops Q (⟨d,Op.call {callee:= .value (.func i),args:=xs,argTypes:=ats},ty,pos,af,none⟩::rest) s H):SL P G n ops Q (⟨d,Op.call {callee:= .value (.func i),args:=xs,argTypes:=ats},ty,pos,af,none⟩::rest) s H:=h
theorem J5 {b:Builtin} {xs:Array Operand} {ats:Array TypeId} (h:SL P G n ops Q (⟨d,Op.call {callee:= .builtin b,args:=xs,argTypes:=ats},ty,pos,af,none⟩::rest) s H):SL P G n ops Q (⟨d,Op.call {callee:= .builtin b,args:=xs,argTypes:=ats},ty,pos,af,none⟩::rest) s H:=h
theorem I1 {op:Op} {g:Nat×Bool} (h:SL P G n ops Q (⟨d,op,ty,pos,af,some g⟩::rest) s H):SL P G n ops Q (⟨d,op,ty,pos,af,some g⟩::rest) s H:=h
theorem C8 (h:SL P G n ops Q [] s H):SL P G n ops Q [] s H:=h
theorem AE3 {Q:Fm→Prop} (h:SQ P G n ops Q H (⟨d,Op.move x,ty,pos,af,none⟩::rest) s):SQ P G n ops Q H (⟨d,Op.move x,ty,pos,af,none⟩::rest) s:=h
theorem AG3 {Q:Fm→Prop} {op:BinOp} (h:SQ P G n ops Q H (⟨d,Op.binOp op t x y t',ty,pos,af,none⟩::rest) s):SQ P G n ops Q H (⟨d,Op.binOp op t x y t',ty,pos,af,none⟩::rest) s:=h
theorem AE1 {Q:Fm→Prop} (h:SQ P G n ops Q H (⟨d,Op.load t x,ty,pos,af,none⟩::rest) s):SQ P G n ops Q H (⟨d,Op.load t x,ty,pos,af,none⟩::rest) s:=h
theorem AG4 {Q:Fm→Prop} (h:SQ P G n ops Q H (⟨d,Op.assign x,ty,pos,af,none⟩::rest) s):SQ P G n ops Q H (⟨d,Op.assign x,ty,pos,af,none⟩::rest) s:=h
theorem BF9 {Q:Fm→Prop} {c:Operand} (h:SQ P G n ops Q H (⟨d,Op.pick c x y,ty,pos,af,none⟩::rest) s):SQ P G n ops Q H (⟨d,Op.pick c x y,ty,pos,af,none⟩::rest) s:=h
theorem AJ6 {Q:Fm→Prop} (h:SQ P G n ops Q H (⟨d,Op.fieldAddr t x i,ty,pos,af,none⟩::rest) s):SQ P G n ops Q H (⟨d,Op.fieldAddr t x i,ty,pos,af,none⟩::rest) s:=h
theorem Ap6 {Q:Fm→Prop} (h:SQ P G n ops Q H (⟨d,Op.extract x i,ty,pos,af,none⟩::rest) s):SQ P G n ops Q H (⟨d,Op.extract x i,ty,pos,af,none⟩::rest) s:=h
theorem Af4 {Q:Fm→Prop} (h:SQ P G n ops Q H (⟨d,Op.convert t t' x,ty,pos,af,none⟩::rest) s):SQ P G n ops Q H (⟨d,Op.convert t t' x,ty,pos,af,none⟩::rest) s:=h
theorem AK0 {Q:Fm→Prop} (h:SQ P G n ops Q H (⟨d,Op.indexAddr t x y,ty,pos,af,none⟩::rest) s):SQ P G n ops Q H (⟨d,Op.indexAddr t x y,ty,pos,af,none⟩::rest) s:=h
theorem AS3 {Q:Fm→Prop} (h:SQ P G n ops Q H (⟨d,Op.nilCheck x,ty,pos,af,none⟩::rest) s):SQ P G n ops Q H (⟨d,Op.nilCheck x,ty,pos,af,none⟩::rest) s:=h
theorem An1 {Q:Fm→Prop} {xs:Array Operand} {ats:Array TypeId} (h:SQ P G n ops Q H (⟨d,Op.call {callee:= .value (.func i),args:=xs,argTypes:=ats},ty,pos,af,none⟩::rest) s):SQ P G n ops Q H (⟨d,Op.call {callee:= .value (.func i),args:=xs,argTypes:=ats},ty,pos,af,none⟩::rest) s:=h
theorem Bq6 {Q:Fm→Prop} {b:Builtin} {xs:Array Operand} {ats:Array TypeId} (h:SQ P G n ops Q H (⟨d,Op.call {callee:= .builtin b,args:=xs,argTypes:=ats},ty,pos,af,none⟩::rest) s):SQ P G n ops Q H (⟨d,Op.call {callee:= .builtin b,args:=xs,argTypes:=ats},ty,pos,af,none⟩::rest) s:=h
theorem A52 {Q:Fm→Prop} {op:Op} {g:Nat×Bool} (h:SQ P G n ops Q H (⟨d,op,ty,pos,af,some g⟩::rest) s):SQ P G n ops Q H (⟨d,op,ty,pos,af,some g⟩::rest) s:=h
theorem AF4 {Q:Fm→Prop} (h:SQ P G n ops Q H [] s):SQ P G n ops Q H [] s:=h
theorem M0 (h:BB P .add t x y vx vy K):BB P .add t x y vx vy K:=h
theorem y9 (h:BB P .sub t x y vx vy K):BB P .sub t x y vx vy K:=h
theorem BY3 (h:BB P .mul t x y vx vy K):BB P .mul t x y vx vy K:=h
theorem B54 (h:BB P .quo t x y vx vy K):BB P .quo t x y vx vy K:=h
theorem CC5 (h:BB P .rem t x y vx vy K):BB P .rem t x y vx vy K:=h
theorem AW4 (h:BB P .and t x y vx vy K):BB P .and t x y vx vy K:=h
theorem CH7 (h:BB P .or t x y vx vy K):BB P .or t x y vx vy K:=h
theorem AU0 (h:BB P .andNot t x y vx vy K):BB P .andNot t x y vx vy K:=h
theorem BR0 (h:BB P .shr t x y vx vy K):BB P .shr t x y vx vy K:=h
theorem Q9 (h:PK s true x y K):PK s true x y K:=h
theorem O1 (h:PK s false x y K):PK s false x y K:=h
end
end Go.Sx
end

section
namespace Go.Sx
open Go Go.RowKit Go.Fw
theorem I8 {G:Ctx} {H H':List Ent} (h:Subs H' H:=by repeat (first|refine Subs.cons (by repeat constructor) ?_ |exact Subs.sub (by repeat (first|exact List.Sublist.refl _|exact List.nil_sublist _|refine List.Sublist.cons _ ?_)))):∀w,Holds G H w→Holds G H' w:=fun _ hw=>hw.subs h
theorem N7 {α:Type} {l l2:List α} (h:List.Sublist l l2:=by repeat (first|exact List.Sublist.refl _|exact List.nil_sublist _|refine List.Sublist.cons _ ?_)):List.Sublist l l2:=h
end Go.Sx
end
