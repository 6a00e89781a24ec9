/- Texts of this claim, merged: SxB LawTr CardBase. -/
import Derived.Test.YtmmnimagbnlcmaaGreatDoorTd2
import Derived.WalkKit
import Derived.WalkSpells
import Derived.WalkLawsBesides
import Derived.Handy
import Derived.Lib.Hide
import Derived.Laws.BitsAllLaws
import Derived.Deep.MidRow
import Derived.Deep.WholeRow
import Derived.BigQuiet
import Derived.Laws.CopyOwn
import Derived.Deep.QuietTactic
import Derived.Laws.AppendOwnNone
import Derived.Laws.MakeOwn
import Derived.Laws.IdiomStrings
import Derived.OrdersHeld
import Derived.Lib.SliceRun
import Derived.ChangeKeysEq
import Derived.Laws.CopyRow
import Derived.Test.YtmmnimagbnlcmaaGreatDoorRows
import Derived.ProofKit
import Derived.OpenShut
import Derived.JoinedCond
import Derived.SliceStrings
import Derived.Test.YtmmnimagbnlcmaaGreatDoorCards
import Derived.Test.YtmmnimagbnlcmaaGreatDoorTie
import Derived.Deep.DeepHandedRow
section
namespace Go.Sx
open Go Go.RowKit Go.Fw
section
variable {P:Program} {G:Ctx} {n:Sz} {ops:Array Oper} {Q:Post} {s:Fm} {H:List Ent} {o:Oper} {rest:List Oper}
/-- The bounds of a piece. -/
def bnd (s:Fm) (dflt:Nat):Option Operand→Option Int
  | none=>some dflt
  | some x=>match ev s x with
    | some (.int _ i)=>some i
    | _=>none
theorem AR3 {isSl:Bool} {w:World} {len cap:Nat} {lo hi:Option Operand} {l h:Int} {a:Act} (ha:Fr n s a) (hl:bnd s 0 lo=some l) (hh:bnd s len hi=some h) (h0:0≤l) (h1:l≤h) (h2:h≤cap):
    (Instr.sliceBounds isSl len cap (lo.map a.eval) (hi.map a.eval) none).run P w= .ok (l.toNat,h.toNat,cap) w:=by
  have key:∀(x:Option Operand) (d:Nat) (v:Int) (y:Nat) (c:BoundsCode),bnd s d x=some v→0≤v→v≤y→
      (match x.map a.eval with|some u=>Instr.sliceBound u y c|none=>pure d:Sem Nat).run P w= .ok v.toNat w:=by
    intro x d v y c hb h0 hy
    cases x with
    | none=>simp only[bnd,Option.some.injEq] at hb;subst hb;simp [Sem.run]
    | some x=>
      obtain⟨k,he⟩:∃k,ev s x=some (.int k v):=by
        simp only[bnd] at hb
        cases he:ev s x with
        | none=>rw[he] at hb;cases hb
        | some u=>
          rw[he] at hb
          cases u<;>(first|(cases hb;done)|(simp only[Option.some.injEq] at hb;subst hb;exact⟨_,rfl⟩))
      simp only[Option.map_some,ha.ev he,Instr.sliceBound,asIntOf,Sem.run_bind,Sem.run_pure,Result.andThen_ok]
      rw[if_pos ⟨h0,hy⟩,Sem.run_pure]
  have k1:=key hi len h cap (if isSl then .sliceAcap else .sliceAlen) hh (by omega) h2
  have k2:=key lo 0 l h.toNat .sliceB hl h0 (by omega)
  unfold Instr.sliceBounds
  cases lo<;>cases hi<;>simp only[Option.map_none,Option.map_some] at k1 k2 ⊢<;>simp_all [Sem.run]
theorem Al6 {t:TypeId} {x:Operand} {lo hi:Option Operand} {b:ByteArray} {l h:Int} (ho:o.op= .slice t x lo hi none) [ht:StrT P t] (hx:ev s x=some (.string b)) (hl:bnd s 0 lo=some l) (hh:bnd s b.size hi=some h) (h0:0≤l) (h1:l≤h) (h2:h≤b.size):
    Yields P G n s H o (.string (b.extract l.toNat h.toNat)):=fun a w ha _=>by
  unfold execOp;rw[ho];simp only[ha.ev hx]
  refine Y1 ?_
  have hb:=AR3 (P:=P) (isSl:=false) (w:=w) (cap:=b.size) ha hl hh h0 h1 h2
  simp only[Instr.sliceAt,Sem.run_bind,run_underlying ht.here,Result.andThen_ok,Instr.slice,Option.map_none,Option.isSome_none]
  simp [hb,Sem.run]
/-- A piece of a slice: what can be read there. -/
theorem Rd.piece {a:Option Addr} {xs:List Value} {l m:Nat} (h:Rd G H a xs) (hm:l+m≤xs.length):Rd G H (a.map (·.add l)) ((xs.drop l).take m):=fun w hw=>by
  rcases Nat.eq_zero_or_pos m with h0|h0
  · left;subst h0;exact List.take_zero
  · obtain⟨b,off,rfl,hc⟩:=At.someAt (h w hw) (by omega)
    have hb:b<w.heap.size:=by
      have:=hc 0 (by omega)
      rw[List.getElem?_eq_getElem (by omega)] at this
      exact World.block_lt_of_cell? w _ this
    right
    refine⟨b,off+l,by simp [Addr.add_mid],hb,fun i hi=>?_⟩
    rw[List.length_take,List.length_drop] at hi
    rw[List.getElem?_take,if_pos (by omega),List.getElem?_drop,Nat.add_assoc]
    exact hc (l+i) (by omega)
theorem AD6 {t e sz bytes:Nat} {x:Operand} {lo hi:Option Operand} {a:Option Addr} {len c d:Nat} {l h:Int} {Hr:List Ent} {xs:List Value} (hg:o.guard=none) (ho:o.op= .slice t x lo hi none) [hT:SliceT P t e sz bytes] (hx:ev s x=some (.slice a len c)) (hl:bnd s 0 lo=some l) (hh:bnd s len hi=some h)
    (hr:Rd G Hr a xs) (hlen:xs.length=len * sz) (h0:0≤l) (h1:l≤h) (h2:h≤len) (h3:len≤c) (h1d:o.dst=some d) (h2d:Nat.blt d n.n=true)
    (hk:∀a',RdC G Hr a' ((xs.drop (l.toNat * sz)).take ((h.toNat-l.toNat) * sz))→SL P G n ops Q rest ((d,.slice a' (h.toNat-l.toNat) (c-l.toNat))::s) H):SL P G n ops Q (o::rest) s H:=by
  obtain⟨hu,hsz,-,-⟩:=hT.here
  have hS:=hT.size
  refine AB1 (v:= .slice (if c=l.toNat then a else a.map (·.add (l.toNat * sz))) (h.toNat-l.toNat) (c-l.toNat)) hg (fun act w ha _=>?_) h1d h2d (hk _ ⟨?_⟩)
  · unfold execOp;rw[ho];simp only[ha.ev hx]
    refine Y1 ?_
    have hb:=AR3 (P:=P) (isSl:=true) (w:=w) (cap:=c) ha hl hh h0 h1 (by omega)
    cases hq:P.info? e with
    | none=>simp [hq] at hS
    | some inf=>
      have hs:inf.size=sz:=by simpa [hq] using hS
      have hz:(sizeOf e).run P w= .ok sz w:=by simp [sizeOf,typeInfo,program,Sem.run,hq,hs]
      simp only[Instr.sliceAt,Sem.run_bind,run_underlying hu,Result.andThen_ok,Instr.slice,Option.map_none]
      simp [hb,hz,Sem.run]
  · split
    · rename_i hc
      have e0:(h.toNat-l.toNat) * sz=0:=by rw[show h.toNat-l.toNat=0 from by omega,Nat.zero_mul]
      rw[e0,List.take_zero]
      exact fun w _=>At.nil w a
    · refine hr.piece ?_
      rw[hlen,←Nat.add_mul]
      exact Nat.mul_le_mul_right _ (by omega)
/-- A builtin that only reckons. -/
theorem CL6 {b:Builtin} {xs:Array Operand} {ats:Array TypeId} {vs:List Value} {v:Value} (ho:o.op= .call {callee:= .builtin b,args:=xs,argTypes:=ats}) (he:evs s xs.toList=some vs) (hb:(match b with| .min| .max| .cap=>true|_=>false)=true)
    (hs:still P (match b with| .min=>Builtin.min_ ats o.type vs.toArray| .max=>Builtin.max_ ats o.type vs.toArray|_=>Builtin.cap_ ats o.type vs.toArray)=some v):Yields P G n s H o v:=fun a w ha _=>by
  have e1:xs.map a.eval=vs.toArray:=by rw[←(AM8 he).map ha,←List.map_toArray,Array.toArray_toList]
  unfold execOp;rw[ho]
  simp only[resolve,invoke,Sem.run_bind,Sem.run_pure,Result.andThen_ok,e1]
  cases b<;>(first|(cases hb;done)|(simp only[builtin];exact Y1 (AI9 _ _ hs w)))
theorem o7 {x:Operand} {t:TypeId} {lo hi mx:Option Operand} {d:Option Nat} {ty:TypeId} {pos:String} {af:Array Edge} (h:SL P G n ops Q (⟨d,.slice t x lo hi mx,ty,pos,af,none⟩::rest) s H):SL P G n ops Q (⟨d,.slice t x lo hi mx,ty,pos,af,none⟩::rest) s H:=h
theorem AM2 {x:Operand} {t:TypeId} {lo hi mx:Option Operand} {d:Nat} {v:Value} {ty:TypeId} {pos:String} {af:Array Edge} (hy:Yields P G n s H ⟨some d,.slice t x lo hi mx,ty,pos,af,none⟩ v) (h2:Nat.blt d n.n=true) (h:SL P G n ops Q rest ((d,v)::s) H):SL P G n ops Q (⟨some d,.slice t x lo hi mx,ty,pos,af,none⟩::rest) s H:=AB1 rfl hy rfl h2 h
theorem Au5 {e:TypeId} {z:Value} (h:still P (zeroValue e)=some z):∃i,P.info? e=some i∧i.zero=some z:=by
  cases hq:P.info? e with
  | none=>simp [zeroValue,typeInfo,program,still,bind,Sem.bind,hq,stuck] at h
  | some i=>
    refine⟨i,rfl,?_⟩
    cases hz:i.zero with
    | none=>simp [zeroValue,typeInfo,program,still,bind,Sem.bind,hq,hz,unsupported,pure] at h
    | some u=>simpa [zeroValue,typeInfo,program,still,bind,Sem.bind,hq,hz,pure] using h
end
end Go.Sx
namespace Go.Sx
open Go Go.RowKit Go.Fw
section
variable {P:Program} {G:Ctx} {n:Sz} {ops:Array Oper} {s:Fm} {H:List Ent} {o:Oper} {rest:List Oper}
end
end Go.Sx
namespace Go.Sx
open Go Go.RowKit Go.Fw
/-- The bytes of a string, as numbers. -/
def nums (b:ByteArray):List Int:=b.data.toList.map fun x=>(x.toNat:Int)
theorem nums_length (b:ByteArray):(nums b).length=b.size:=by unfold nums;rw[List.length_map,Array.length_toList];rfl
theorem AD5 (b:ByteArray):∀x∈nums b,0≤x∧x≤255:=fun x hx=>by
  simp only[nums,List.mem_map] at hx
  obtain⟨u,-,rfl⟩:=hx
  have:=u.toNat_lt
  omega
theorem Z6 (b:ByteArray):strOfNums (nums b)=b:=by
  show (⟨((nums b).map fun n=>UInt8.ofNat n.toNat).toArray⟩:ByteArray)=b
  have e:(nums b).map (fun n=>UInt8.ofNat n.toNat)=b.data.toList:=by
    simp only[nums,List.map_map]
    refine(List.map_congr_left fun x _=>?_).trans (List.map_id _)
    simp
  rw[e]
theorem Y8 {xs:List Int} (h:∀x∈xs,0≤x∧x≤255):nums (strOfNums xs)=xs:=by
  show ((xs.map fun n=>UInt8.ofNat n.toNat).toArray.toList.map fun x=>(x.toNat:Int))=xs
  rw[List.toList_toArray,List.map_map]
  refine(List.map_congr_left fun x hx=>?_).trans (List.map_id _)
  have:=h x hx
  simp
  omega
theorem AO7 {a b:ByteArray} (h:nums a=nums b):a=b:=by rw[←Z6 a,h,Z6]
theorem nums_append (a b:ByteArray):nums (a++b)=nums a++nums b:=by
  unfold nums
  rw[show (a++b).data=a.data++b.data from ByteArray.data_append ..]
  simp
theorem AT3 (b:ByteArray) (l h:Nat):nums (b.extract l h)=((nums b).drop l).take (h-l):=by
  unfold nums
  rw[show (b.extract l h).data=b.data.extract l h from ByteArray.data_extract ..]
  simp [List.map_take,List.map_drop]
theorem B35 (b:ByteArray) (k:Nat) (h:k<b.size):∃v:UInt8,b[k]? =some v∧(v.toNat:Int)=(nums b).getD k 0:=by
  have h':k<b.data.toList.length:=by simpa using h
  refine⟨b[k],by simp [getElem?_pos,h],?_⟩
  simp only[nums,List.getD_eq_getElem?_getD,List.getElem?_map,List.getElem?_eq_getElem h',Option.map_some,Option.getD_some]
  congr 1
/-- What a conversion of a string to bytes lays. -/
def AJ1 (e:TypeId) (xs:List Int) (m:Nat):Obj:= .cells (octs xs++List.replicate m (Value.int .u8 0)).toArray e (xs.length+m,xs.length+m+1)
section
variable {P:Program} {G:Ctx} {n:Sz} {ops:Array Oper} {Q:Post} {s:Fm} {H:List Ent} {o:Oper} {rest:List Oper}
instance CM7 {g:Nat} {e:TypeId} {xs:List Int} {m:Nat}:RdC G (.obj g (AJ1 e xs m)::H) (some ⟨g,0,none⟩) (octs xs):=⟨fun w hw=>by
  have h:=hw.ok _ (List.mem_cons_self (a:=Ent.obj g (AJ1 e xs m)))
  have h2:=A67 (show w.heap[g]? =some (.cells (octs xs++List.replicate m (Value.int .u8 0)).toArray e (xs.length+m,xs.length+m+1)) from h.2)
  rcases h2 with h2|⟨b,off,e1,h3,h4⟩
  · exact .inl (List.append_eq_nil_iff.1 h2).1
  · refine .inr ⟨b,off,e1,h3,fun i hi=>?_⟩
    rw[h4 i (by rw[List.length_append];omega),List.getElem?_append_left hi]⟩
theorem Holds.obj {w w':World} {o:Obj} (h:Holds G H w) (h1:w'.heap.size=w.heap.size+1) (h2:w'.heap[w.heap.size]? =some o) (h3:∀k,k<w.heap.size→w'.heap[k]? =w.heap[k]?) (e1:w'.os=w.os) (e2:w'.tape=w.tape) (e3:w'.output=w.output):Holds G (.obj w.heap.size o::H) w':=by
  refine⟨⟨e1.trans h.below.os,e2.trans h.below.tape,e3.trans h.below.output,Nat.le_trans h.below.size (by omega),fun j hj=>(h3 j (Nat.lt_of_lt_of_le hj h.base)).trans (h.below.block j hj)⟩,Nat.le_trans h.base (by omega),fun x hx=>?_,List.pairwise_cons.2 ⟨fun y hy k hk=>?_,h.apart⟩⟩
  · rcases List.mem_cons.1 hx with rfl|hx
    · exact⟨h.base,h2⟩
    · exact Ent.ok_of (h.ok x hx) fun k hk=>h3 k (Ent.ok_lt (h.ok x hx) hk).2
  · simp only[Ent.key,Option.some.injEq] at hk
    subst hk
    intro e
    exact absurd (Ent.ok_lt (h.ok y hy) e).2 (Nat.lt_irrefl _)
theorem BB7 (b:ByteArray) (cap:Nat) (hc:b.size≤cap) (e:TypeId):Obj.cells (bytesRow b cap) e ((bytesRow b cap).size,(bytesRow b cap).size+1)=AJ1 e (nums b) (cap-b.size):=by
  have e1:bytesRow b cap=(octs (nums b)++List.replicate (cap-b.size) (Value.int .u8 0)).toArray:=by
    apply Array.toList_inj.1
    simp [bytesRow,octs,nums,List.map_map,Function.comp_def]
  have e2:(bytesRow b cap).size=(nums b).length+(cap-b.size):=by rw[e1];simp [octs]
  rw[e2,e1]
  rfl
/-- Bytes to a string. -/
theorem AO5 {src dst e sz bytes:Nat} {x:Operand} {a:Option Addr} {m c:Nat} {xs:List Int} {vs:List Value} (ho:o.op= .convert src dst x) [hT:SliceT P src e sz bytes] [he:IntT P e .u8] [hs:StrT P dst] (hx:ev s x=some (.slice a m c)) [hr:RdC G H a vs] (hv:vs=octs xs) (hm:m=xs.length):Yields P G n s H o (.string (strOfNums xs)):=fun act w ha hw=>by
  subst hv
  unfold execOp;rw[ho];simp only[ha.ev hx]
  exact Y1 (As3 hT.here.1 he.here hs.here c hm (hr.here w hw))
theorem o8 {t:Nat} {x y:Operand} {k:IntKind} {i:Int} {b:ByteArray} (ho:o.op= .index t x y) [h:StrT P t] (hx:ev s x=some (.string b)) (hy:ev s y=some (.int k i)) (h0:0≤i) (hi:i<b.size):Yields P G n s H o (.int .u8 ((nums b).getD i.toNat 0)):=by
  obtain⟨v,h1,h2⟩:=B35 b i.toNat (by omega)
  rw[←h2]
  exact BJ9 ho hx hy h0 h1
variable {K:Value→Prop} {x y:Operand} {t:TypeId}
theorem AW6 {a b:ByteArray} (h:a.size+b.size≤9223372036854775807) (hk:K (.string (a++b))):BB P .add t x y (.string a) (.string b) K:=⟨_,fun w=>by
  have:=run_string_add_sum (P:=P) w a b h
  simp only[eqGuard,binOp]
  simpa using this,hk⟩
theorem BG0 (a b:ByteArray):(a.toList==b.toList)=decide (a=b):=by
  rw[Bool.eq_iff_iff,beq_iff_eq,decide_eq_true_eq]
  exact⟨toList_inj,fun e=>by rw[e]⟩
theorem AH9 {a b:ByteArray} (hk:K (.bool (decide (a=b)))):BB P .eql t x y (.string a) (.string b) K:=⟨_,fun w=>by
  rw[←BG0]
  rfl,hk⟩
theorem AI0 {a b:ByteArray} (hk:K (.bool (!decide (a=b)))):BB P .neq t x y (.string a) (.string b) K:=⟨_,fun w=>by
  rw[←BG0]
  rfl,hk⟩
end
end Go.Sx
namespace Go.Sx
open Go Go.RowKit Go.Fw
/-- Out the plain way alone. -/
def np (Q:Exit→Act→World→Prop):Exit→Act→World→Prop
  | .normal,a,w=>Q .normal a w
  | _,_,_=>False
theorem BQ1 {Q:Exit→Act→World→Prop}:∀e a w,np Q e a w→Q e a w:=fun e a w h=>by
  cases e<;>(first|exact h|exact(h:False).elim)
def mkL (m:Nat) (done:List Nat):Array Bool:=((List.range m).map fun j=>done.contains j).toArray
theorem BG8 (m:Nat):mkL m []=Array.replicate m false:=by
  apply Array.toList_inj.1
  simp [mkL,List.map_const']
theorem AN7 (m i:Nat) (done:List Nat):(mkL m done).setIfInBounds i true=mkL m (i::done):=by
  apply Array.ext
  · simp [mkL]
  · intro j h1 h2
    simp only[mkL,List.size_toArray,List.length_map,List.length_range] at h2
    have e2:(mkL m (i::done))[j]=(decide (j=i)||done.contains j):=by simp [mkL]
    rw[e2,Array.getElem_setIfInBounds (by simpa [mkL] using h2)]
    by_cases h:i=j
    · subst h;simp
    · rw[if_neg h]
      have:decide (j=i)=false:=by simpa using fun e=>h e.symm
      rw[this,Bool.false_or]
      simp [mkL]
class NSucc (k:Nat) (m:outParam Nat):Prop where
  here:m=k+1
instance :NSucc 0 1:=⟨rfl⟩
instance :NSucc 1 2:=⟨rfl⟩
instance :NSucc 2 3:=⟨rfl⟩
instance :NSucc 3 4:=⟨rfl⟩
instance :NSucc 4 5:=⟨rfl⟩
instance :NSucc 5 6:=⟨rfl⟩
instance :NSucc 6 7:=⟨rfl⟩
instance :NSucc 7 8:=⟨rfl⟩
instance :NSucc 8 9:=⟨rfl⟩
instance :NSucc 9 10:=⟨rfl⟩
instance :NSucc 10 11:=⟨rfl⟩
instance :NSucc 11 12:=⟨rfl⟩
instance :NSucc 12 13:=⟨rfl⟩
instance :NSucc 13 14:=⟨rfl⟩
instance :NSucc 14 15:=⟨rfl⟩
instance :NSucc 15 16:=⟨rfl⟩
instance :NSucc 16 17:=⟨rfl⟩
instance :NSucc 17 18:=⟨rfl⟩
instance :NSucc 18 19:=⟨rfl⟩
instance :NSucc 19 20:=⟨rfl⟩
instance :NSucc 20 21:=⟨rfl⟩
instance :NSucc 21 22:=⟨rfl⟩
instance :NSucc 22 23:=⟨rfl⟩
instance :NSucc 23 24:=⟨rfl⟩
instance :NSucc 24 25:=⟨rfl⟩
instance :NSucc 25 26:=⟨rfl⟩
instance :NSucc 26 27:=⟨rfl⟩
instance :NSucc 27 28:=⟨rfl⟩
instance :NSucc 28 29:=⟨rfl⟩
instance :NSucc 29 30:=⟨rfl⟩
instance :NSucc 30 31:=⟨rfl⟩
instance :NSucc 31 32:=⟨rfl⟩
instance :NSucc 32 33:=⟨rfl⟩
instance :NSucc 33 34:=⟨rfl⟩
instance :NSucc 34 35:=⟨rfl⟩
instance :NSucc 35 36:=⟨rfl⟩
instance :NSucc 36 37:=⟨rfl⟩
instance :NSucc 37 38:=⟨rfl⟩
instance :NSucc 38 39:=⟨rfl⟩
instance :NSucc 39 40:=⟨rfl⟩
instance :NSucc 40 41:=⟨rfl⟩
instance :NSucc 41 42:=⟨rfl⟩
instance :NSucc 42 43:=⟨rfl⟩
instance :NSucc 43 44:=⟨rfl⟩
instance :NSucc 44 45:=⟨rfl⟩
instance :NSucc 45 46:=⟨rfl⟩
instance :NSucc 46 47:=⟨rfl⟩
instance :NSucc 47 48:=⟨rfl⟩
instance :NSucc 48 49:=⟨rfl⟩
instance :NSucc 49 50:=⟨rfl⟩
instance :NSucc 50 51:=⟨rfl⟩
instance :NSucc 51 52:=⟨rfl⟩
instance :NSucc 52 53:=⟨rfl⟩
instance :NSucc 53 54:=⟨rfl⟩
instance :NSucc 54 55:=⟨rfl⟩
instance :NSucc 55 56:=⟨rfl⟩
instance :NSucc 56 57:=⟨rfl⟩
instance :NSucc 57 58:=⟨rfl⟩
instance :NSucc 58 59:=⟨rfl⟩
instance :NSucc 59 60:=⟨rfl⟩
instance :NSucc 60 61:=⟨rfl⟩
instance :NSucc 61 62:=⟨rfl⟩
instance :NSucc 62 63:=⟨rfl⟩
instance :NSucc 63 64:=⟨rfl⟩
instance :NSucc 64 65:=⟨rfl⟩
instance :NSucc 65 66:=⟨rfl⟩
instance :NSucc 66 67:=⟨rfl⟩
instance :NSucc 67 68:=⟨rfl⟩
instance :NSucc 68 69:=⟨rfl⟩
instance :NSucc 69 70:=⟨rfl⟩
instance :NSucc 70 71:=⟨rfl⟩
instance :NSucc 71 72:=⟨rfl⟩
instance :NSucc 72 73:=⟨rfl⟩
instance :NSucc 73 74:=⟨rfl⟩
instance :NSucc 74 75:=⟨rfl⟩
instance :NSucc 75 76:=⟨rfl⟩
instance :NSucc 76 77:=⟨rfl⟩
instance :NSucc 77 78:=⟨rfl⟩
instance :NSucc 78 79:=⟨rfl⟩
instance :NSucc 79 80:=⟨rfl⟩
section
variable {P:Program} {G:Ctx} {n:Sz} {ops:Array Oper} {Q:Post} {s:Fm} {H Hs:List Ent} {o:Oper} {fuel:Nat} {done:List Nat}
def SO (P:Program) (G:Ctx) (n:Sz) (ops:Array Oper) (Q:Post) (Hs:List Ent) (fuel:Nat) (done:List Nat) (s:Fm) (H:List Ent):Prop:=
  (∀w,Holds G H w→Holds G Hs w)→∀a w,Fr n s a→Holds G H w→wpAnyH P .any ops (np (lift G n Q)) (Holds G Hs) fuel (mkL ops.size done) a w
/-- The same, at place k. -/
def SOT (P:Program) (G:Ctx) (n:Sz) (ops:Array Oper) (Q:Post) (Hs:List Ent) (fuel:Nat) (done:List Nat) (s:Fm) (H:List Ent) (_k:Nat):Prop:=SO P G n ops Q Hs fuel done s H
def soQ (P:Program) (G:Ctx) (n:Sz) (ops:Array Oper) (Q:Post) (Hs:List Ent) (fuel:Nat) (done:List Nat):Post
  | .normal,s,H=>(∀w,Holds G H w→Holds G Hs w)∧SO P G n ops Q Hs fuel done s H
  | _,_,_=>False
theorem V3 {id:Nat} {l:List Oper} [h:Wide P] (Hs:List Ent) (hs:∀w,Holds G H w→Holds G Hs w) (hk:SOT P G n l.toArray Q Hs l.length [] s H 0):SW P G n (.region id l.toArray true) Q s H:=fun a w ha hw=>by
  refine Code.wp_mono BQ1 (wp_region_held (S:=Holds G Hs) h.here ?_)
  have:=hk hs a _ ha hw.drew
  rw[BG8] at this
  simpa using this
theorem R5 {k:Nat} (hs:∀w,Holds G H w→Holds G Hs w) (h:SOT P G n ops Q Hs fuel done s H k):AtQ (soQ P G n ops Q Hs fuel done) .normal s H:=⟨hs,h⟩
theorem R4 {k:Nat} (hr:(Region.ready .any ops (mkL ops.size done)).isEmpty=true) (h:AtQ Q .normal s H):SOT P G n ops Q Hs fuel done s H k:=fun _ a w ha hw=>
  wpAnyH_done (List.isEmpty_iff.1 hr) ⟨s,H,ha,hw,h⟩ _
theorem O9 {k m:Nat} [hm:NSucc k m] (_hk:done.contains k=true) (h:SOT P G n ops Q Hs fuel done s H m):SOT P G n ops Q Hs fuel done s H k:=h
theorem P9 {k m:Nat} [hm:NSucc k m] (_hk:Nat.blt k ops.size=true) (h:SOT P G n ops Q Hs fuel done s H m):SOT P G n ops Q Hs fuel done s H k:=h
/-- What an operation yields by reading alone. -/
def SY (P:Program) (G:Ctx) (n:Sz) (Hs:List Ent) (o:Oper) (s:Fm) (K:Value→Prop):Prop:=∃v,Yields P G n s Hs o v∧K v
theorem P8 {k m d:Nat} [hm:NSucc k m] (ho:ops[k]? =some o) (hg:o.guard=none) (hd:o.dst=some d) (h2:Nat.blt d n.n=true) (hns:Region.noSelect ops=true) (hr:(Region.ready .any ops (mkL ops.size done)).contains k=true) (hf:Region.free .any ops (mkL ops.size done) k=true)
    (h:SY P G n Hs o s fun v=>SOT P G n ops Q Hs fuel (k::done) ((d,v)::s) H m):SOT P G n ops Q Hs (fuel+1) done s H k:=fun hs a w ha hw=>by
  obtain⟨v,hy,hk⟩:=h
  refine wpAnyH_take (v:=v) ho hns hf hr (fun _ _ _ e=>e) (.inl ⟨Want.wanted (.inl hg) ha,fun w' hw'=>hy a w' ha hw'⟩) (hs w hw) ?_
  rw[AN7]
  refine hk hs _ w ?_ hw
  rw[←updd hd v]
  exact ha.put _ _ (okd hd h2)
theorem Oper.wp_imp {o:Oper} {a:Act} {w:World} {K K':Act→World→Prop} {Q Q':Exit→Act→World→Prop} (h:∀a w,K a w→K' a w) (hQ:∀c a w,¬Q (.panic c) a w) (hQ2:∀a w,¬Q .outgrown a w) (hh:o.wp P a w K Q):o.wp P a w K' Q':=by
  unfold Oper.wp at *
  generalize (execOp a.eval o).run P w=r at *
  cases r with
  | ok n w'=>
    cases n<;>simp only[Oper.upon] at hh ⊢
    case value=>exact h _ _ hh
    case skip=>exact h _ _ hh
    case defer=>exact h _ _ hh
    case enter=>
      refine Calls.mono hh fun e w'' he=>?_
      cases e with
      | returned u=>exact h _ _ he
      | panicked c=>exact absurd he (hQ _ _ _)
      | outgrown=>obtain⟨a,w,he⟩:=he;exact absurd he (hQ2 _ _)
    case row=>exact Rows.mono hh fun _ _ he=>h _ _ he
  | halt x w'=>
    cases x<;>simp only[Oper.upon] at hh ⊢
    case panic=>exact absurd hh (hQ _ _ _)
/-- One of the operations from place k on that may come up comes up. -/
def SOA (P:Program) (G:Ctx) (n:Sz) (ops:Array Oper) (Q:Post) (Hs:List Ent) (fuel:Nat) (done:List Nat) (s:Fm) (H:List Ent) (k:Nat):Prop:=
  ∀i,k≤i→i∈Region.ready .any ops (mkL ops.size done)→∃o,ops[i]? =some o∧SL P G n ops (soQ P G n ops Q Hs fuel (i::done)) [o] s H
theorem T9 {k:Nat} (hk:Nat.ble ops.size k=true):SOA P G n ops Q Hs fuel done s H k:=fun i hi hr=>by
  have:=(mem_ready.1 hr).2
  obtain⟨o,ho,-⟩:=this
  have h1:=Nat.le_of_ble_eq_true hk
  rw[Array.getElem?_eq_none (by omega)] at ho
  cases ho
theorem U7 {k m:Nat} [hm:NSucc k m] (hr:(Region.ready .any ops (mkL ops.size done)).contains k=false) (h:SOA P G n ops Q Hs fuel done s H m):SOA P G n ops Q Hs fuel done s H k:=fun i hi hi2=>by
  rcases Nat.eq_or_lt_of_le hi with rfl|hlt
  · rw[List.contains_eq_mem,decide_eq_false_iff_not] at hr
    exact absurd hi2 hr
  · exact h i (by rw[hm.here];omega) hi2
theorem U0 {k m:Nat} [hm:NSucc k m] (ho:ops[k]? =some o) (h1:SL P G n ops (soQ P G n ops Q Hs fuel (k::done)) [o] s H) (h:SOA P G n ops Q Hs fuel done s H m):SOA P G n ops Q Hs fuel done s H k:=fun i hi hi2=>by
  rcases Nat.eq_or_lt_of_le hi with rfl|hlt
  · exact⟨o,ho,h1⟩
  · exact h i (by rw[hm.here];omega) hi2
theorem S9 {k:Nat} (hr:(Region.ready .any ops (mkL ops.size done)).isEmpty=false) (h:SOA P G n ops Q Hs fuel done s H 0):SOT P G n ops Q Hs (fuel+1) done s H k:=fun hs a w ha hw=>by
  refine wpAnyH_all rfl (fun e=>by rw[e] at hr;cases hr) fun i hi=>?_
  obtain⟨o,ho,hsl⟩:=h i (Nat.zero_le _) hi
  have h1:=hsl a w ha hw
  rw[AN7]
  unfold wpList at h1
  unfold wpOp
  simp only[ho]
  have hK:∀a w,wpList P ops (lift G n (soQ P G n ops Q Hs fuel (i::done))) [] a w→Holds G Hs w∧wpAnyH P .any ops (np (lift G n Q)) (Holds G Hs) fuel (mkL ops.size (i::done)) a w:=fun a w hq=>by
    obtain⟨s',H',ha',hw',h2,h3⟩:=hq
    exact⟨h2 w hw',h3 h2 a w ha' hw'⟩
  split
  · rename_i hwn
    rw[if_pos hwn] at h1
    rcases h1 with h1|⟨-,a1,w1,s1,H1,-,-,hf⟩
    · exact .inl (Oper.wp_imp hK (fun c a w ⟨_,_,_,_,hq⟩=>hq) (fun a w ⟨_,_,_,_,hq⟩=>hq) h1)
    · exact(hf:False).elim
  · rename_i hwn
    rw[if_neg hwn] at h1
    exact hK _ _ h1
variable {K:Value→Prop} {x y:Operand} {t t' ty:TypeId} {d:Option Nat} {pos:String} {af:Array Edge} {i:Nat}
theorem I4 {v:Value} (hy:Yields P G n s Hs o v) (hk:K v):SY P G n Hs o s K:=⟨v,hy,hk⟩
theorem Ad4 {op:BinOp} {vx vy:Value} (hx:ev s x=some vx) (hy:ev s y=some vy) (h:BB P op t x y vx vy K):SY P G n Hs ⟨d,Op.binOp op t x y t',ty,pos,af,none⟩ s K:=by
  obtain⟨v,h1,h2⟩:=h
  exact⟨v,yb rfl hx hy h1,h2⟩
theorem U6 {vx:Value} (hx:ev s x=some vx) (h:LD P G Hs t vx K):SY P G n Hs ⟨d,Op.load t x,ty,pos,af,none⟩ s K:=by
  obtain⟨v,h1,h2⟩:=h
  refine⟨v,fun a w ha hw=>?_,h2⟩
  unfold execOp;simp only[ha.ev hx];exact Y1 (h1 w hw)
theorem U5 (h:SY P G n Hs ⟨d,Op.move x,ty,pos,af,none⟩ s K):SY P G n Hs ⟨d,Op.move x,ty,pos,af,none⟩ s K:=h
theorem Ae4 {op:BinOp} (h:SY P G n Hs ⟨d,Op.binOp op t x y t',ty,pos,af,none⟩ s K):SY P G n Hs ⟨d,Op.binOp op t x y t',ty,pos,af,none⟩ s K:=h
theorem U9 (h:SY P G n Hs ⟨d,Op.load t x,ty,pos,af,none⟩ s K):SY P G n Hs ⟨d,Op.load t x,ty,pos,af,none⟩ s K:=h
theorem Z0 (h:SY P G n Hs ⟨d,Op.assign x,ty,pos,af,none⟩ s K):SY P G n Hs ⟨d,Op.assign x,ty,pos,af,none⟩ s K:=h
theorem Q0 (h:SY P G n Hs ⟨d,Op.fieldAddr t x i,ty,pos,af,none⟩ s K):SY P G n Hs ⟨d,Op.fieldAddr t x i,ty,pos,af,none⟩ s K:=h
theorem AO9 (h:SY P G n Hs ⟨d,Op.extract x i,ty,pos,af,none⟩ s K):SY P G n Hs ⟨d,Op.extract x i,ty,pos,af,none⟩ s K:=h
theorem AH3 {parts:Array (Nat×Operand)} (h:SY P G n Hs ⟨d,Op.build t parts,ty,pos,af,none⟩ s K):SY P G n Hs ⟨d,Op.build t parts,ty,pos,af,none⟩ s K:=h
theorem Aq8 (h:SY P G n Hs ⟨d,Op.convert t t' x,ty,pos,af,none⟩ s K):SY P G n Hs ⟨d,Op.convert t t' x,ty,pos,af,none⟩ s K:=h
theorem BQ3 (h:SY P G n Hs ⟨d,Op.indexAddr t x y,ty,pos,af,none⟩ s K):SY P G n Hs ⟨d,Op.indexAddr t x y,ty,pos,af,none⟩ s K:=h
theorem Y7 (h:SY P G n Hs ⟨d,Op.nilCheck x,ty,pos,af,none⟩ s K):SY P G n Hs ⟨d,Op.nilCheck x,ty,pos,af,none⟩ s K:=h
theorem CI3 {b:Builtin} {xs:Array Operand} {ats:Array TypeId} (h:SY P G n Hs ⟨d,Op.call {callee:= .builtin b,args:=xs,argTypes:=ats},ty,pos,af,none⟩ s K):SY P G n Hs ⟨d,Op.call {callee:= .builtin b,args:=xs,argTypes:=ats},ty,pos,af,none⟩ s K:=h
theorem Ai1 {lo hi mx:Option Operand} (h:SY P G n Hs ⟨d,Op.slice t x lo hi mx,ty,pos,af,none⟩ s K):SY P G n Hs ⟨d,Op.slice t x lo hi mx,ty,pos,af,none⟩ s K:=h
theorem V6 {k:Nat} (h:SOT P G n ops Q Hs fuel done s H k):SOT P G n ops Q Hs fuel done s H k:=h
theorem X4 {k:Nat} (h:SOA P G n ops Q Hs fuel done s H k):SOA P G n ops Q Hs fuel done s H k:=h
end
end Go.Sx
namespace Go.Sx
open Go Go.RowKit Go.Fw
section
variable {P:Program} {G:Ctx} {n:Sz} {ops:Array Oper} {Q:Post} {s:Fm} {H:List Ent} {o:Oper} {rest:List Oper}
variable {K:Value→Prop} {x y:Operand} {t:TypeId}
theorem AS0 {e sz bytes:Nat} [hT:SliceT P t e sz bytes] {a:Option Addr} {m c m' c':Nat} (hk:K (.bool a.isNone)):BB P .eql t x y (.slice a m c) (.slice none m' c') K:=⟨_,fun w=>by
  have:=Lib.run_eql_slice_nil (P:=P) w t e a m c m' c' hT.here.1
  simpa [eqGuard] using this,hk⟩
/-- A result that lies in a block. -/
theorem B08 {p b sz:Nat} {t t':TypeId} {cs:List Value} {l:List ResultVar} {vs:List Value} (h:look s p=some (.pointer (some ⟨b,0,none⟩))) [hm:HasBlk H b t' cs] [ha:Ag P t sz] (hl:cs.length=sz) (hr:Res s H P l vs):Res s H P (.cell p t::l) (.agg cs.toArray::vs):=by
  obtain⟨d,h1,h2,h3⟩:=ha.here
  exact .agg h hm.here h1 h2 (by rw[h3,hl]) hr
theorem CF8 {R:Value→List Ent→Prop} {rs:List ResultVar} {vs:List Value} {e:Exit} (H':List Ent) (he:e= .normal∨e= .ret) (hr:Res s H P rs vs) (hH:∀w,Holds G H w→Holds G H' w) (h:R (resV vs) H'):AtQ (fpost G P rs R) e s H:=AY4 e he hr hH h
/-- The place of an element of an array that lies in a block. -/
theorem AB7 {t len e sz:Nat} {x y:Operand} {b off:Nat} {k:IntKind} {i:Int} (ho:o.op= .indexAddr t x y) [h:ArrT P t len e sz] (hx:ev s x=some (.pointer (some ⟨b,off,none⟩))) (hy:ev s y=some (.int k i)) (h0:0≤i) (h1:i<(len:Int)):Yields P G n s H o (.pointer (some ⟨b,off+i.toNat * sz,none⟩)):=fun a w ha _=>by
  obtain⟨hu,hi⟩:=h.here
  unfold execOp;rw[ho];simp only[ha.ev hx,ha.ev hy]
  refine Y1 ?_
  cases hq:P.info? e with
  | none=>simp [hq] at hi
  | some inf=>
    have hs:inf.size=sz:=by simpa [hq] using hi
    simp only[Instr.indexAt,Instr.sureAddr,asIntOf,Sem.run_bind,Sem.run_pure,Result.andThen_ok,run_underlying hu]
    rw[if_pos ⟨h0,h1⟩]
    simp only[sizeOf,typeInfo,Sem.run_bind,Sem.run_pure,Result.andThen_ok]
    simp [hq,hs,program,Sem.run,Addr.add_mid]
end
end Go.Sx
namespace Go.Sx
open Go Go.RowKit Go.Fw
section
variable {P:Program} {G:Ctx} {n:Sz} {ops:Array Oper} {Q:Post} {s:Fm} {H:List Ent} {o:Oper} {rest:List Oper}
theorem Al2 (w:World) (t e sz:Nat) (hu:P.underlying t=some (.slice e)) (hi:(P.info? e).map (·.size)=some sz):
    (Instr.buildSlice t 0 #[]).run P w= .ok (.slice (some ⟨w.heap.size,0,none⟩) 0 0) (w.alloc (.cells #[] e)):=by
  cases hq:P.info? e with
  | none=>simp [hq] at hi
  | some ie=>
    have e0:(Array.range 0).map (fun _:Nat=>(default:Value))=#[]:=by
      apply Array.eq_empty_of_size_eq_zero
      simp
    simp [Instr.buildSlice,run_underlying hu,sizeOf,typeInfo,hq,Instr.fill,newRow,e0]
theorem A83 {t e sz bytes d:Nat} (hg:o.guard=none) (ho:o.op= .buildSlice t 0 #[]) [hT:SliceT P t e sz bytes] (h1d:o.dst=some d) (h2d:Nat.blt d n.n=true)
    (h:∀b,SL P G n ops Q rest ((d,.slice (some ⟨b,0,none⟩) 0 0)::s) (.own e sz (some ⟨b,0,none⟩) 0 0 []::H)):SL P G n ops Q (o::rest) s H:=by
  have hd:=okd (n:=n) h1d h2d
  simp only[←updd h1d] at h
  refine AC4 (.inl hg) fun a w ha hw K hK=>?_
  unfold Oper.wp execOp
  simp only[ho,Sem.run_bind,Array.map_empty,Al2 w t e sz hT.here.1 hT.size,Result.andThen_ok]
  have hw2:=hw.alloc e []
  have hw3:Holds G (.own e sz (some ⟨w.heap.size,0,none⟩) 0 0 []::H) (w.alloc (.cells #[] e)):=by
    refine⟨hw2.below,hw2.base,fun x hx=>?_,List.pairwise_cons.2 ⟨fun y hy k hk=>(List.pairwise_cons.1 hw2.apart).1 y hy k hk,(List.pairwise_cons.1 hw2.apart).2⟩⟩
    rcases List.mem_cons.1 hx with rfl|hx
    · have:=hw2.ok _ List.mem_cons_self
      exact⟨by simp,.inr ⟨w.heap.size,0,#[],rfl,this.1,this.2,Nat.le_refl _,by unfold maxLen;omega,by simp,by simp⟩⟩
    · exact hw2.ok x (List.mem_cons_of_mem _ hx)
  exact hK _ _ (h _ _ _ (ha.put _ _ hd) hw3)
theorem U4 {Hs:List Ent} {fuel:Nat} {done:List Nat} (h:AtQ (soQ P G n ops Q Hs fuel done) .normal s H):AtQ (soQ P G n ops Q Hs fuel done) .normal s H:=h
theorem Af9 {f:FuncId} {args:List Value} {R:Value→List Ent→Prop} (hc:Callee P f) (h:∀w,Holds G H w→SC P G f args H R):SC P G f args H R:=⟨hc,fun w hw=>(h w hw).2 w hw⟩
theorem Bu4 {f:FuncId} {args:List Value} {v:Value} (hc:Callee P f) (h:∀w,Holds G H w→SV P G f args H v):SV P G f args H v:=Af9 hc h
theorem d9 {R:Value→List Ent→Prop} {p b sz:Nat} {t t':TypeId} {cs:List Value} {rs:List ResultVar} {vs:List Value} {e:Exit} (H':List Ent) (he:e= .normal∨e= .ret) (hp:look s p=some (.pointer (some ⟨b,0,none⟩))) [hm:HasBlk H b t' cs] [ha:Ag P t sz] (hl:cs.length=sz) (hr:res? s rs=some vs) (hH:∀w,Holds G H w→Holds G H' w) (h:R (resV (.agg cs.toArray::vs)) H'):AtQ (fpost G P (.cell p t::rs) R) e s H:=
  CF8 H' he (B08 hp hl (AW7 hr)) hH h
/-- There is room for what is there. -/
class CapC (G:Ctx) (H:List Ent) (a:Option Addr) (m c:Nat):Prop where
  here:∀w,Holds G H w→m≤c
instance (priority:=low) CN1 {a:Option Addr} {m c:Nat} {x:Ent} [h:CapC G H a m c]:CapC G (x::H) a m c:=⟨fun w hw=>h.here w hw.drop⟩
instance B70 {e sz m c:Nat} {a:Option Addr} {xs:List Value}:CapC G (.own e sz a m c xs::H) a m c:=⟨fun w hw=>by
  have ho:w.ownsRow G.B e sz (.slice a m c) m xs:=hw.ok _ List.mem_cons_self
  rcases ho.2 with ⟨hv,h0⟩|⟨g,cap,cur,hv,-,-,hn,-⟩
  · omega
  · have:c=cap:=by injection hv
    omega⟩
theorem At.none_nil {w:World} {xs:List Value} (h:At w none xs):xs=[]:=by
  rcases h with h|⟨b,o,e,-⟩
  · exact h
  · cases e
end
end Go.Sx
namespace Go.Sx
open Go Go.RowKit Go.Fw
/-- Equal to itself, at depth d. -/
def B91 (P:Program) (d:Nat) (t:TypeId) (v:Value):Prop:=∀w,(Op.equalIn d t v v).run P w= .ok true w
section
variable {P:Program} {d:Nat} {t e:TypeId}
theorem AR8 {k:IntKind} (z:Int) [h:IntT P t k]:B91 P (d+1) t (.int k z):=fun w=>by rw[run_equalIn_int w d t k k z z h.here];simp
theorem AA0 {cs:List Value} {off:Nat} {v:Value} [h:Sc P t] (hv:cs[off]? =some v) (w:World):(part t cs.toArray off).run P w= .ok v w:=by
  obtain⟨d,hd,hrow,-⟩:=h.here
  simp only[part,Sem.run_bind,AQ2 hd,hrow,Result.andThen_ok,Bool.false_eq_true,if_false]
  simp [hv,Sem.run]
theorem AY3 {cs cs':List Value} {off sz:Nat} [h:Ag P t sz] (hv:(cs.drop off).take sz=cs') (w:World):(part t cs.toArray off).run P w= .ok (.agg cs'.toArray) w:=by
  obtain⟨d,hd,hrow,hi⟩:=h.here
  cases hq:P.info? t with
  | none=>simp [hq] at hi
  | some inf=>
    have hs:inf.size=sz:=by simpa [hq] using hi
    have hz:(sizeOf t).run P w= .ok sz w:=by simp [sizeOf,typeInfo,program,Sem.run,hq,hs]
    simp only[part,Sem.run_bind,AQ2 hd,hrow,Result.andThen_ok,if_true,hz,Sem.run_pure]
    congr 2
    rw[←hv]
    apply Array.ext'
    simp
variable {K:Value→Prop} {x y:Operand}
end
end Go.Sx
namespace Go.Sx
open Go Go.RowKit Go.Fw
section
variable {P:Program} {G:Ctx} {n:Sz} {ops:Array Oper} {Q:Post} {s:Fm} {H:List Ent} {o:Oper} {rest:List Oper}
/-- A piece of a row that is held, by its place. -/
theorem Ac6 {t e sz bytes:Nat} {x:Operand} {lo hi:Option Operand} {b len c:Nat} {l h:Int} (ho:o.op= .slice t x lo hi none) [hT:SliceT P t e sz bytes] (hx:ev s x=some (.slice (some ⟨b,0,none⟩) len c)) (hl:bnd s 0 lo=some l) (hh:bnd s len hi=some h) (h0:0≤l) (h1:l≤h) (h2:h≤c) (hlt:l<c):Yields P G n s H o (.slice (some ⟨b,l.toNat * sz,none⟩) (h.toNat-l.toNat) (c-l.toNat)):=fun act w ha _=>by
  obtain⟨hu,hsz,-,-⟩:=hT.here
  have hS:=hT.size
  unfold execOp;rw[ho];simp only[ha.ev hx]
  refine Y1 ?_
  have hb:=AR3 (P:=P) (isSl:=true) (w:=w) (cap:=c) ha hl hh h0 h1 h2
  cases hq:P.info? e with
  | none=>simp [hq] at hS
  | some inf=>
    have hs:inf.size=sz:=by simpa [hq] using hS
    have hz:(sizeOf e).run P w= .ok sz w:=by simp [sizeOf,typeInfo,program,Sem.run,hq,hs]
    have hne:¬c=l.toNat:=by omega
    simp only[Instr.sliceAt,Sem.run_bind,run_underlying hu,Result.andThen_ok,Instr.slice,Option.map_none]
    simp [hb,hz,Sem.run,hne,Addr.add_mid]
/-- The beginning of a row that is held. -/
theorem Bk1 {t e sz bytes:Nat} {x:Operand} {hi:Option Operand} {b len c:Nat} {h:Int} (ho:o.op= .slice t x none hi none) [hT:SliceT P t e sz bytes] (hx:ev s x=some (.slice (some ⟨b,0,none⟩) len c)) (hh:bnd s len hi=some h) (h1:0≤h) (h2:h≤c):Yields P G n s H o (.slice (some ⟨b,0,none⟩) h.toNat c):=fun act w ha _=>by
  obtain⟨hu,hsz,-,-⟩:=hT.here
  have hS:=hT.size
  unfold execOp;rw[ho];simp only[ha.ev hx]
  refine Y1 ?_
  have hb:=AR3 (P:=P) (isSl:=true) (w:=w) (cap:=c) (lo:=none) ha rfl hh (by omega:(0:Int)≤((0:Nat):Int)) (by omega) h2
  cases hq:P.info? e with
  | none=>simp [hq] at hS
  | some inf=>
    have hs:inf.size=sz:=by simpa [hq] using hS
    have hz:(sizeOf e).run P w= .ok sz w:=by simp [sizeOf,typeInfo,program,Sem.run,hq,hs]
    simp only[Option.map_none] at hb
    simp only[Instr.sliceAt,Sem.run_bind,run_underlying hu,Result.andThen_ok,Instr.slice,Option.map_none]
    simp [hb,hz,Sem.run,Addr.add_mid]
variable {K:Value→Prop} {x y:Operand} {t:TypeId}
/-- The lower half of a small number is itself. -/
theorem BY6 (p:Int) (h0:0≤p) (h1:p<4294967296):bits .and .u64 p 4294967295=p:=by
  obtain⟨m,rfl⟩:=Int.eq_ofNat_of_zero_le h0
  have hm:(BitVec.ofInt 64 (m:Int)).toNat=m:=ofInt_u64 m (by omega)
  have hn:(BitVec.ofInt 64 ((4294967295:Nat):Int)).toNat=4294967295:=ofInt_u64 4294967295 (by omega)
  unfold bits
  show IntKind.u64.wrap (((BitVec.ofInt 64 (m:Int))&&& (BitVec.ofInt 64 ((4294967295:Nat):Int))).toNat:Int)=_
  rw[BitVec.toNat_and,hm,hn]
  have e:m&&& 4294967295=m:=by
    rw[show (4294967295:Nat)=2 ^ 32-1 from rfl,Nat.and_two_pow_sub_one_eq_mod]
    exact Nat.mod_eq_of_lt (by omega)
  rw[e]
  exact IntWalk.u64_in _ (by omega)
theorem Bo6 {p:Int} (h0:0≤p) (h1:p<4294967296):still P (do eqGuard .and t x y (.int .u64 p) (.int .u64 4294967295);binOp .and t (.int .u64 p) (.int .u64 4294967295))=some (.int .u64 p):=by
  have h:=BY6 p h0 h1
  rw[←h]
  conv=>rhs;rw[h]
  conv=>lhs;rw[h]
  show some (Value.int .u64 (bits .and .u64 p 4294967295))=_
  rw[h]
theorem Bi5 {p:Int} (h0:0≤p) (h1:p<4294967296) (hk:K (.int .u64 p)):BB P .and t x y (.int .u64 p) (.int .u64 4294967295) K:=F7 (Bo6 h0 h1) hk
end
end Go.Sx
namespace Go.Sx
open Go Go.RowKit Go.Fw
section
variable {P:Program} {G:Ctx} {n:Sz} {ops:Array Oper} {Q:Post} {s:Fm} {H:List Ent} {o:Oper} {rest:List Oper}
/-- These cells, from there on, written over. -/
def over (cs:List Value) (off:Nat) (vs:List Value):List Value:=cs.take off++vs++cs.drop (off+vs.length)
theorem AZ8 {cs vs:List Value} {off:Nat} (h:off+vs.length≤cs.length):(over cs off vs).length=cs.length:=by
  simp [over];omega
theorem AX1 {w:World} {t ty g off:Nat} {cs vs:List Value} (hg:w.heap[g]? =some (.cells cs.toArray t (0,0))) (hi:(P.info? ty).map (·.size)=some vs.length) (hl:off+vs.length≤cs.length) (h1:∀v∈vs,v.oneCell'=true):
    (Instr.storeAt ty (.pointer (some ⟨g,off,none⟩)) (.agg vs.toArray)).run P w= .ok () (w.setRow g (over cs off vs).toArray):=by
  have hst:=run_storeCells_at P g off t vs 0 cs.toArray w hg (by simpa using hl) h1
  cases hq:P.info? ty with
  | none=>simp [hq] at hi
  | some i=>
    have hs:vs.length=i.size:=by simp [hq] at hi;omega
    simp only[Nat.add_zero] at hst
    simp [Instr.storeAt,Instr.sureAddr,storeVar,sizeOf,typeInfo,hq,Value.cells,hs,hst,over]
theorem BE8 {vs:List Value} (h:vs.all (·.oneCell')=true):∀v∈vs,v.oneCell'=true:=fun v hv=>List.all_eq_true.1 h v hv
theorem Av6 {t t':TypeId} {x y:Operand} {b off:Nat} {cs vs:List Value} {H':List Ent} (hg:o.guard=none) (ho:o.op= .store t x y) (hx:ev s x=some (.pointer (some ⟨b,off,none⟩))) (hy:ev s y=some (.agg vs.toArray)) (hp:Pick (.blk b t' cs) H H') (h1:vs.all (·.oneCell')=true)
    (hi:(P.info? t).map (·.size)=some vs.length) (hl:off+vs.length≤cs.length) (hd:o.dst=none) (h:SL P G n ops Q rest s (.blk b t' (over cs off vs)::H')):SL P G n ops Q (o::rest) s H:=
  AC4 (.inl hg) fun a w ha hw K hK=>by
    have hw:=hw.pick hp
    have hrow:=(hw.ok _ List.mem_cons_self).2
    unfold Oper.wp execOp
    simp only[ho,ha.ev hx,ha.ev hy,Sem.run_bind,AX1 hrow hi hl (BE8 h1),Result.andThen_ok]
    have hw':Holds G (.blk b t' (over cs off vs)::H') (w.setRow b (over cs off vs).toArray):=hw.set (setRow_heap w b _ _ t' (0,0) hrow) (fun k hk=>setRow_other w b k _ hk) (by simp [World.setRow]) rfl rfl rfl
    exact hK _ _ (h _ _ (by rw[hd];exact ha) hw')
/-- Several cells, into a part of a block. -/
theorem AO8 {t t' sz:Nat} {x y:Operand} {b off:Nat} {cs vs:List Value} {H':List Ent} (hg:o.guard=none) (ho:o.op= .store t x y) [h:Ag P t sz] (hx:ev s x=some (.pointer (some ⟨b,off,none⟩))) (hy:ev s y=some (.agg vs.toArray)) [hp:PickBlk H b t' cs H'] (h1:vs.all (·.oneCell')=true)
    (hv:vs.length=sz) (hl:off+sz≤cs.length) (hd:o.dst=none) (hk:SL P G n ops Q rest s (.blk b t' (over cs off vs)::H')):SL P G n ops Q (o::rest) s H:=by
  obtain⟨d,-,-,h3⟩:=h.here
  subst hv
  exact Av6 hg ho hx hy hp.here h1 h3 hl hd hk
/-- Several cells, into a row that the call holds. -/
theorem BV7 {t e sz sz2 len c k:Nat} {x y:Operand} {a:Option Addr} {xs vs:List Value} {H':List Ent} (hg:o.guard=none) (ho:o.op= .store t x y) [h:Ag P t sz2] (hx:ev s x=some (x8 a k)) (hy:ev s y=some (.agg vs.toArray)) [hp:PickOwn H a e sz len c xs H'] (h1:vs.all (·.oneCell')=true)
    (hv:vs.length=sz2) (h0:0<sz2) (hl:k+sz2≤xs.length) (hd:o.dst=none) (hk:SL P G n ops Q rest s (.own e sz a len c (over xs k vs)::H')):SL P G n ops Q (o::rest) s H:=by
  obtain⟨d,-,-,h3⟩:=h.here
  subst hv
  refine AC4 (.inl hg) fun act w ha hw K hK=>?_
  have hw:=hw.pick hp.here
  have hown:w.ownsRow G.B e sz (.slice a len c) len xs:=hw.ok _ List.mem_cons_self
  obtain⟨hlen,⟨hv,h0'⟩|⟨g,cap,cur,hv,hB,hh,hn,hm,hs,ht⟩⟩:=id hown
  · subst h0';rw[hlen,Nat.zero_mul] at hl;omega
  · obtain⟨rfl,rfl⟩:a=some ⟨g,0,none⟩∧c=cap:=by simpa [Value.slice.injEq] using hv
    have hcl:k+vs.length≤cur.toList.length:=by
      have e:xs.length≤cur.toList.length:=by rw[←ht,List.length_take];exact Nat.min_le_right _ _
      omega
    have hrun:=AX1 (P:=P) (w:=w) (t:=e) (ty:=t) (g:=g) (off:=k) (cs:=cur.toList) (by simpa using hh) h3 hcl (BE8 h1)
    unfold Oper.wp execOp
    simp only[ho,ha.ev hx,ha.ev hy,x8,Option.map_some,Addr.add_mid,Nat.zero_add,Sem.run_bind,hrun,Result.andThen_ok]
    obtain⟨hap,hapH⟩:=List.pairwise_cons.1 hw.apart
    have e2:(over cur.toList k vs).take (len * sz)=over xs k vs:=by
      have h4:k+vs.length≤len * sz:=by rw[←hlen];exact hl
      unfold over
      rw[←ht,List.take_take,Nat.min_eq_left (by omega),List.drop_take]
      have h3:(cur.toList.take k).length=k:=by rw[List.length_take];omega
      rw[List.take_append,List.take_of_length_le (by rw[List.length_append,h3];omega)]
      congr 2
      rw[List.length_append,h3]
    have hw':Holds G (.own e sz (some ⟨g,0,none⟩) len c (over xs k vs)::H') (w.setRow g (over cur.toList k vs).toArray):=by
      refine⟨below_setRow hw.below hB _,by simpa using hw.base,fun z hz=>?_,List.pairwise_cons.2 ⟨fun y hy k hk=>hap y hy k hk,hapH⟩⟩
      rcases List.mem_cons.1 hz with rfl|hz
      · refine⟨?_,.inr ⟨g,c,(over cur.toList k vs).toArray,rfl,hB,setRow_heap w g _ _ e (0,0) hh,hn,hm,?_,by rw[List.toList_toArray];exact e2⟩⟩
        · rw[AZ8 hl];exact hlen
        · rw[List.size_toArray,AZ8 hcl,Array.length_toList];exact hs
      · exact Ent.ok_of (hw.ok z (List.mem_cons_of_mem _ hz)) fun j hj=>setRow_other w g j _ (fun e=>hap z hz g rfl (e▸hj))
    exact hK _ _ (hk _ _ (by rw[hd];exact ha) hw')
/-- A row that is made, full of noughts, its elements of several cells. -/
theorem B14 {t e sz bytes d:Nat} {x y:Operand} {k k':IntKind} {m:Int} {zs:List Value} (hg:o.guard=none) (ho:o.op= .makeSlice t x y) [hT:SliceT P t e sz bytes] [hz:ZeroT P e zs] (hx:ev s x=some (.int k m)) (hy:ev s y=some (.int k' m)) (h0:0≤m) (h1:(bytes:Int) * m≤140737488355328) (hb:m≤140737488355328) (h1d:o.dst=some d) (h2d:Nat.blt d n.n=true)
    (hk:∀b,SL P G n ops Q rest ((d,.slice (some ⟨b,0,none⟩) m.toNat m.toNat)::s) (.own e sz (some ⟨b,0,none⟩) m.toNat m.toNat (madeCells zs.toArray (m.toNat * sz)).toList::H)):SL P G n ops Q (o::rest) s H:=by
  obtain⟨hu,-,hby,z',hzi,hzs⟩:=hT.here
  obtain⟨u,hu1,hu2⟩:=hz.here
  obtain⟨i,hi,hiz⟩:=Au5 hu1
  have hib:i.bytes=bytes∧i.size=sz:=by
    rw[hi] at hzi
    simp only[Option.map_some,Option.some.injEq,Prod.mk.injEq] at hzi
    exact⟨hzi.2.2,hzi.2.1⟩
  refine AC4 (.inl hg) fun act w ha hw K hK=>?_
  have hrun:=run_make (P:=P) w t e i u hu hi hiz k k' m m h0 (Int.le_refl _) (by rw[hib.1];omega) (by omega)
  unfold Oper.wp execOp
  simp only[ho,ha.ev hx,ha.ev hy,Sem.run_bind,hrun,Result.andThen_ok]
  rw[hib.2,hu2.cells]
  have hw2:=hw.alloc e (madeCells zs.toArray (m.toNat * sz)).toList
  have hw3:Holds G (.own e sz (some ⟨w.heap.size,0,none⟩) m.toNat m.toNat (madeCells zs.toArray (m.toNat * sz)).toList::H) (w.alloc (.cells (madeCells zs.toArray (m.toNat * sz)) e)):=by
    refine⟨hw2.below,hw2.base,fun x hx=>?_,List.pairwise_cons.2 ⟨fun y hy k hk=>(List.pairwise_cons.1 hw2.apart).1 y hy k hk,(List.pairwise_cons.1 hw2.apart).2⟩⟩
    rcases List.mem_cons.1 hx with rfl|hx
    · have:=hw2.ok _ List.mem_cons_self
      refine⟨by simp [madeCells],.inr ⟨w.heap.size,m.toNat,_,rfl,this.1,this.2,Nat.le_refl _,by unfold maxLen;omega,by simp [madeCells],?_⟩⟩
      rw[List.toList_toArray,List.take_of_length_le (by simp [madeCells])]
    · exact hw2.ok x (List.mem_cons_of_mem _ hx)
  have hp:=hk w.heap.size
  rw[←updd h1d] at hp
  exact hK _ _ (hp _ _ (ha.put _ _ (okd h1d h2d)) hw3)
end
end Go.Sx
namespace Go.Sx
open Go Go.RowKit Go.Fw
/-- A power of two. -/
def pw (m:Nat):Int:=2 ^ m
theorem Aw6 (m:Nat):pw m=2 ^ m:=rfl
theorem CC3 (m:Nat):0<pw m:=by rw[Aw6];exact Int.pow_pos (by omega)
theorem CH9 {m:Nat} (h:m≤63):pw m≤9223372036854775808:=by
  rw[Aw6]
  have:(2:Nat) ^ m≤2 ^ 63:=Nat.pow_le_pow_right (by omega) h
  have h2:((2 ^ m:Nat):Int)≤((2 ^ 63:Nat):Int):=Int.ofNat_le.2 this
  have h3:((2 ^ m:Nat):Int)=(2:Int) ^ m:=by simp
  have h4:((2 ^ 63:Nat):Int)=9223372036854775808:=by decide
  omega
attribute [irreducible] pw
section
variable {P:Program} {K:Value→Prop} {x y:Operand} {t:TypeId}
theorem Br7 {k':IntKind} {m:Nat} (hm:m≤63):still P (do eqGuard .shl t x y (.int .u64 1) (.int k' m);binOp .shl t (.int .u64 1) (.int k' m))=some (.int .u64 (pw m)):=by
  have hp:=CH9 hm
  have hq:=CC3 m
  have e:min ((m:Int).toNat) 64=m:=by rw[Int.toNat_natCast];exact Nat.min_eq_left (by omega)
  have e3:¬((m:Int)<0):=by omega
  have e4:IntKind.u64.wrap ((1:Int) * 2 ^ m)=pw m:=by
    rw[Int.one_mul,←Aw6]
    exact IntWalk.u64_in _ (by omega)
  simp only[eqGuard,binOp,Op.shift,e3,if_false,IntKind.bits,e,e4]
  simp
  rfl
theorem Bs1 {k':IntKind} {q:Int} (h0:0≤q) (h1:q≤63) (hk:K (.int .u64 (pw q.toNat))):BB P .shl t x y (.int .u64 1) (.int k' q) K:=by
  obtain⟨m,rfl⟩:=Int.eq_ofNat_of_zero_le h0
  rw[Int.toNat_natCast] at hk
  exact F7 (Br7 (by omega)) hk
/-- Two values: are they equal? -/
def EqVal (P:Program) (d:Nat) (t:TypeId) (u v:Value) (b:Bool):Prop:=∀w,(Op.equalIn d t u v).run P w= .ok b w
theorem Ar7 {d:Nat} {k:IntKind} (a b:Int) [h:IntT P t k]:EqVal P (d+1) t (.int k a) (.int k b) (a==b):=fun w=>by rw[run_equalIn_int w d t k k a b h.here]
/-- Field by field. -/
inductive EqParts (P:Program) (d:Nat) (cs cs':List Value):List Field→Bool→Prop
  | nil:EqParts P d cs cs' [] true
  | eq {f:Field} {fs:List Field} {u v:Value} {b:Bool} (hn:f.name≠ "_") (h1:∀w,(part f.type cs.toArray f.offset).run P w= .ok u w) (h2:∀w,(part f.type cs'.toArray f.offset).run P w= .ok v w) (he:EqVal P d f.type u v true) (hr:EqParts P d cs cs' fs b):EqParts P d cs cs' (f::fs) b
  | ne {f:Field} {fs:List Field} {u v:Value} (hn:f.name≠ "_") (h1:∀w,(part f.type cs.toArray f.offset).run P w= .ok u w) (h2:∀w,(part f.type cs'.toArray f.offset).run P w= .ok v w) (he:EqVal P d f.type u v false):EqParts P d cs cs' (f::fs) false
theorem BB2 {d:Nat} {cs cs':List Value} {fs:List Field} {b:Bool} (h:EqParts P d cs cs' fs b) (w:World):(Op.eqFields d cs.toArray cs'.toArray fs).run P w= .ok b w:=by
  induction h with
  | nil=>simp [Op.eqFields]
  | eq hn h1 h2 he _ ih=>simp only[Op.eqFields,ne_eq,hn,not_false_eq_true,if_true,Sem.run_bind,h1,h2,Result.andThen_ok,he w,Bool.not_true,Bool.false_eq_true,if_false];exact ih
  | ne hn h1 h2 he=>simp only[Op.eqFields,ne_eq,hn,not_false_eq_true,if_true,Sem.run_bind,h1,h2,Result.andThen_ok,he w,Bool.not_false,Sem.run_pure]
theorem Ae3 {d:Nat} {cs cs':List Value} {b:Bool} (ht:P.underlying t=some (.struct (P.fieldsOf t))) (hp:P.stoodInHeld t=false) (h:EqParts P d cs cs' (P.fieldsOf t).toList b):EqVal P (d+1) t (.agg cs.toArray) (.agg cs'.toArray) b:=fun w=>by
  rw[run_equalIn_struct w d t _ _ ht hp]
  exact BB2 h w
theorem A05 {cs cs':Array Value} {b:Bool} (hs:EqVal P 10000 t (.agg cs) (.agg cs') b) (hm:P.eqGuardType P.depth t=false) (hk:K (.bool b)):BB P .eql t x y (.agg cs) (.agg cs') K:=⟨_,fun w=>by
  have h1:=run_eqGuard_agg w .eql t x y cs cs' hm
  have h2:=run_eql_struct w (P:=P) t cs cs'
  rw[hs w] at h2
  simp only[Sem.run_bind,h1,Result.andThen_ok,h2],hk⟩
theorem Ba5 {cs cs':Array Value} {b:Bool} (hs:EqVal P 10000 t (.agg cs) (.agg cs') b) (hm:P.eqGuardType P.depth t=false) (hk:K (.bool (!b))):BB P .neq t x y (.agg cs) (.agg cs') K:=⟨_,fun w=>by
  have h1:=run_eqGuard_agg w .neq t x y cs cs' hm
  have h2:=run_neq_struct w (P:=P) t cs cs'
  rw[hs w] at h2
  simp only[Sem.run_bind,h1,Result.andThen_ok,h2],hk⟩
end
end Go.Sx
namespace Go.Sx
open Go Go.RowKit Go.Fw
section
variable {P:Program} {G:Ctx} {n:Sz} {ops:Array Oper} {Q:Post} {s:Fm} {H:List Ent} {o:Oper} {rest:List Oper}
theorem BP1 {f:FuncId} {x:Operand} {first captured:List Value} {xs:Array Operand} {ats:Array TypeId} {vs:List Value} {a:Act} {w:World} (ho:o.op= .call {callee:= .value x,args:=xs,argTypes:=ats}) (hx:ev s x=some (.func (.func f) first.toArray captured.toArray)) (he:Evs s xs.toList vs) (hc:Callee P f) (ha:Fr n s a):(execOp a.eval o).run P w= .ok (.enter f (first++vs++captured).toArray) w:=by
  have e1:xs.map a.eval=vs.toArray:=by
    rw[←he.map ha,←List.map_toArray,Array.toArray_toList]
  have e0:=ha.ev hx
  have e2:execOp a.eval o=(do let d ←Deferred.ofValue (a.eval x) (xs.map a.eval);invoke d.target d.args):=by
    cases o;simp only at ho;subst ho;rfl
  rw[e2,e0,e1]
  have:=hc (first++vs++captured).toArray w
  simp only[Deferred.ofValue,invoke,Sem.run_bind,Sem.run_pure,Result.andThen_ok]
  simpa using this
/-- A call of a function value. -/
theorem BD5 {f d:Nat} {x:Operand} {first captured:List Value} {xs:Array Operand} {ats:Array TypeId} {vs:List Value} {R:Value→List Ent→Prop} (hg:o.guard=none) (ho:o.op= .call {callee:= .value x,args:=xs,argTypes:=ats}) (hx:ev s x=some (.func (.func f) first.toArray captured.toArray)) (he:evs s xs.toList=some vs) (hc:SC P G f (first++vs++captured) H R) (h1d:o.dst=some d) (h2d:Nat.blt d n.n=true)
    (h:∀v H',R v H'→SL P G n ops Q rest ((d,v)::s) H'):SL P G n ops Q (o::rest) s H:=by
  have hd:=okd (n:=n) h1d h2d
  simp only[←updd h1d] at h
  refine AC4 (.inl hg) fun a w ha hw K hK=>?_
  unfold Oper.wp
  rw[BP1 ho hx (AM8 he) hc.1 ha]
  exact(hc.2 w hw).mono fun e w' ⟨v,H',he,hw',q⟩=>by subst he;exact hK _ _ (h v H' q _ _ (ha.put _ _ hd) hw')
theorem AJ5 {f d:Nat} {x:Operand} {first captured:List Value} {xs:Array Operand} {ats:Array TypeId} {vs:List Value} {v:Value} (hg:o.guard=none) (ho:o.op= .call {callee:= .value x,args:=xs,argTypes:=ats}) (hx:ev s x=some (.func (.func f) first.toArray captured.toArray)) (he:evs s xs.toList=some vs) (hc:SV P G f (first++vs++captured) H v) (h1d:o.dst=some d) (h2d:Nat.blt d n.n=true)
    (h:SL P G n ops Q rest ((d,v)::s) H):SL P G n ops Q (o::rest) s H:=BD5 hg ho hx he hc h1d h2d fun _ _ ⟨e1,e2⟩=>by subst e1;subst e2;exact h
/-- The larger of two, of three. -/
theorem AQ3 {x y:Operand} {ats:Array TypeId} {k k':IntKind} {p q:Int} (ho:o.op= .call {callee:= .builtin .max,args:=#[x,y],argTypes:=ats}) (hx:ev s x=some (.int k p)) (hy:ev s y=some (.int k' q)):Yields P G n s H o (.int k (max p q)):=fun a w ha _=>by
  have e:max p q=if q>p then q else p:=by split<;>omega
  unfold execOp;rw[ho,e]
  simp only[resolve,invoke,Sem.run_bind,Sem.run_pure,Result.andThen_ok,builtin,List.map_toArray,List.map_cons,List.map_nil,ha.ev hx,ha.ev hy,run_max_int2]
variable {K:Value→Prop} {x y:Operand} {t:TypeId}
theorem Bt0 {k k':IntKind} {p:Int} {m:Nat} (hm:Nat.ble m k.bits=true) (hf:Fits k (p * 2 ^ m)):still P (do eqGuard .shl t x y (.int k p) (.int k' m);binOp .shl t (.int k p) (.int k' m))=some (.int k (p * 2 ^ m)):=by
  have hm':=Nat.le_of_ble_eq_true hm
  have e:min ((m:Int).toNat) k.bits=m:=by rw[Int.toNat_natCast];exact Nat.min_eq_left hm'
  have e3:¬((m:Int)<0):=by omega
  simp only[eqGuard,binOp,Op.shift,e3,if_false,e,hf.wrap]
  simp
  rfl
theorem Bz9 {k k':IntKind} {p q D:Int} {m:Nat} (hq:q=m) (hp:pw? m=some D) (hm:Nat.ble m k.bits=true) (hf:Fits k (p * D)) (hk:K (.int k (p * D))):BB P .shl t x y (.int k p) (.int k' q) K:=by
  subst hq
  obtain⟨e,-⟩:=BZ0 hp
  subst e
  exact F7 (Bt0 hm hf) hk
end
end Go.Sx
namespace Go.Sx
open Go Go.RowKit Go.Fw
section
variable {P:Program} {G:Ctx} {n:Sz} {ops:Array Oper} {Q:Post} {s:Fm} {H:List Ent} {o:Oper} {rest:List Oper}
theorem AC0 {f:FuncId} {args:List Value} {H':List Ent} {e:Ent} {R:Value→List Ent→Prop} (hp:Pick e H H') (h:SC P G f args (e::H') R):SC P G f args H R:=⟨h.1,fun w hw=>h.2 w (hw.pick hp)⟩
theorem AW8 {code:Code} (h:∀w,Holds G H w→SW P G n code Q s H):SW P G n code Q s H:=fun a w ha hw=>h w hw a w ha hw
/-- Held otherwise. -/
theorem AF1 {code:Code} (H':List Ent) (hh:∀w,Holds G H w→Holds G H' w) (h:SW P G n code Q s H'):SW P G n code Q s H:=fun a w ha hw=>h a w ha (hh w hw)
end
end Go.Sx
namespace Go.Sx
open Go Go.RowKit Go.Fw
section
variable {P:Program} {G:Ctx} {n:Sz} {ops:Array Oper} {Q:Post} {s:Fm} {H:List Ent} {o:Oper} {rest:List Oper}
/-- A field's place in an element of a row. -/
theorem AL8 {t i fo k:Nat} {x:Operand} {a:Option Addr} {xs:List Value} (ho:o.op= .fieldAddr t x i) [h:FieldAt P t i fo] (hx:ev s x=some (x8 a k)) [hr:RdC G H a xs] (hk:k<xs.length):Yields P G n s H o (x8 a (k+fo)):=fun act w ha hw=>by
  obtain⟨b,off,rfl,-⟩:=At.someAt (hr.here w hw) (by omega)
  have e1:x8 (some ⟨b,off,none⟩) k= .pointer (some ⟨b,off+k,none⟩):=by simp only[x8,Option.map_some,Addr.add_mid]
  have e2:x8 (some ⟨b,off,none⟩) (k+fo)= .pointer (some ⟨b,off+k+fo,none⟩):=by simp only[x8,Option.map_some,Addr.add_mid,Nat.add_assoc]
  rw[e1] at hx
  rw[e2]
  exact w9 (P:=P) (G:=G) (H:=H) ho hx act w ha hw
/-- An element of several cells, or a part of one, is loaded. -/
theorem Y5 {t sz k:Nat} {K:Value→Prop} {a:Option Addr} {xs cs:List Value} [h:Ag P t sz] [hr:RdC G H a xs] (hn:take? (xs.drop k) sz=some cs) (hz:Nat.blt 0 sz=true) (hk:K (.agg cs.toArray)):LD P G H t (x8 a k) K:=by
  obtain⟨d,h1,h2,h3⟩:=h.here
  obtain⟨e1,e2⟩:=Aa2 hn
  rw[List.length_drop] at e2
  have hz':0<sz:=by simpa [Nat.blt_eq] using hz
  refine⟨_,fun w hw=>?_,hk⟩
  obtain⟨b,off,rfl,hc⟩:=At.someAt (hr.here w hw) (by omega)
  simp only[x8,Option.map_some,Addr.add_mid]
  refine AK3 h1 h2 (cs:=cs) (by rw[h3,←e1,List.length_take,List.length_drop,Nat.min_eq_left (by omega)]) fun j v hj=>?_
  rw[←e1] at hj
  have hlt:j<sz:=by
    have:=(List.getElem?_eq_some_iff.1 hj).1
    rw[List.length_take] at this;omega
  rw[List.getElem?_take,if_pos hlt,List.getElem?_drop] at hj
  rw[Nat.add_assoc]
  exact(hc (k+j) (List.getElem?_eq_some_iff.1 hj).1).trans hj
/-- A function value is made. -/
theorem Az4 {f:FuncId} {first captured:Array Operand} {v1 v2:List Value} (ho:o.op= .makeFunc (.func f) first captured) (h1:evs s first.toList=some v1) (h2:evs s captured.toList=some v2):Yields P G n s H o (.func (.func f) v1.toArray v2.toArray):=fun a w ha _=>by
  have e1:first.map a.eval=v1.toArray:=by rw[←(AM8 h1).map ha,←List.map_toArray,Array.toArray_toList]
  have e2:captured.map a.eval=v2.toArray:=by rw[←(AM8 h2).map ha,←List.map_toArray,Array.toArray_toList]
  unfold execOp;rw[ho]
  simp only[e1,e2,Instr.makeFunc]
  exact Y1 rfl
theorem A65 {f:FuncId} {first captured:Array Operand} {d:Nat} {v:Value} {ty:TypeId} {pos:String} {af:Array Edge} (hy:Yields P G n s H ⟨some d,.makeFunc (.func f) first captured,ty,pos,af,none⟩ v) (h2:Nat.blt d n.n=true) (h:SL P G n ops Q rest ((d,v)::s) H):SL P G n ops Q (⟨some d,.makeFunc (.func f) first captured,ty,pos,af,none⟩::rest) s H:=AB1 rfl hy rfl h2 h
end
end Go.Sx
namespace Go.Sx
open Go Go.RowKit Go.Fw
theorem B44 {w:World} {b:Nat} {xs:List Value} (h:At w (some ⟨b,0,none⟩) xs) (off:Nat) (ho:off<xs.length):At w (some ⟨b,off,none⟩) (xs.drop off):=by
  rcases h with h|⟨b',o,ha,hb,hc⟩
  · subst h;simp at ho
  · obtain⟨rfl,rfl⟩:b=b'∧o=0:=by
      simp only[Option.some.injEq,Addr.mk.injEq,and_true] at ha
      exact⟨ha.1,ha.2.symm⟩
    refine .inr ⟨b,off,rfl,hb,fun i hi=>?_⟩
    rw[List.length_drop] at hi
    have:=hc (off+i) (by omega)
    rw[Nat.zero_add] at this
    rw[this,List.getElem?_drop]
theorem B45 {w:World} {a:Option Addr} {xs ys:List Value} (h:At w a (xs++ys)):At w a xs:=by
  rcases h with h|⟨b,o,ha,hb,hc⟩
  · exact .inl (List.append_eq_nil_iff.1 h).1
  · refine .inr ⟨b,o,ha,hb,fun i hi=>?_⟩
    rw[hc i (by rw[List.length_append];omega),List.getElem?_append_left hi]
section
variable {P:Program} {G:Ctx} {n:Sz} {ops:Array Oper} {Q:Post} {s:Fm} {H:List Ent} {o:Oper} {rest:List Oper}
theorem A84 {e sz len c b:Nat} {xs ys zs us:List Value} (off:Nat) (h0:off=xs.length) (h1:0<ys.length):RdC G (.own e sz (some ⟨b,0,none⟩) len c (xs++ys++zs)::H) (some ⟨b,off,none⟩) (ys++zs):=⟨fun w hw=>by
  have h:=(Rd.mem (G:=G) (H:= .own e sz (some ⟨b,0,none⟩) len c (xs++ys++zs)::H) List.mem_cons_self) w hw
  have h2:=B44 h off (by rw[List.length_append,List.length_append];omega)
  rw[List.append_assoc,h0,List.drop_left] at h2
  rw[h0]
  exact h2⟩
theorem Ay0 {a:Option Addr} {xs ys:List Value} (h:RdC G H a (xs++ys)):RdC G H a xs:=⟨fun w hw=>B45 (h.here w hw)⟩
theorem BB6 (b off k:Nat):x8 (some ⟨b,off,none⟩) k=x8 (some ⟨b,0,none⟩) (off+k):=by
  simp only[x8,Option.map_some,Addr.add_mid,Nat.zero_add]
/-- Several cells, through a piece, into a row that the call holds. -/
theorem AR4 {t e sz sz2 len c b off k:Nat} {x y:Operand} {xs vs:List Value} {H':List Ent} (hg:o.guard=none) (ho:o.op= .store t x y) [h:Ag P t sz2] (hx:ev s x=some (x8 (some ⟨b,off,none⟩) k)) (hy:ev s y=some (.agg vs.toArray)) [hp:PickOwn H (some ⟨b,0,none⟩) e sz len c xs H'] (h1:vs.all (·.oneCell')=true)
    (hv:vs.length=sz2) (h0:0<sz2) (hl:off+k+sz2≤xs.length) (hd:o.dst=none) (hk:SL P G n ops Q rest s (.own e sz (some ⟨b,0,none⟩) len c (over xs (off+k) vs)::H')):SL P G n ops Q (o::rest) s H:=by
  rw[BB6] at hx
  exact BV7 hg ho hx hy h1 hv h0 hl hd hk
end
end Go.Sx
namespace Go.Sx
open Go Go.RowKit Go.Fw
instance (priority:=low) rdApp {G:Ctx} {A H:List Ent} {a:Option Addr} {xs:List Value} [h:RdC G H a xs]:RdC G (A++H) a xs:=⟨h.here.mono fun _ hw=>hw.sub (List.sublist_append_right A H)⟩
theorem Pick.app {x:Ent} {H H':List Ent} (h:Pick x H H'):∀A:List Ent,Pick x (A++H) (A++H')
  | []=>h
  | _::A=> .there (Pick.app h A)
instance (priority:=low) CJ9 {A H:List Ent} {b:Nat} {t:TypeId} {cs:List Value} [h:HasBlk H b t cs]:HasBlk (A++H) b t cs:=⟨List.mem_append_right _ h.here⟩
instance (priority:=low) CE9 {A H H':List Ent} {b:Nat} {t:TypeId} {cs:List Value} [h:PickBlk H b t cs H']:PickBlk (A++H) b t cs (A++H'):=⟨h.here.app A⟩
theorem A22 {G:Ctx} {H:List Ent} {e sz n c:Nat} {a:Option Addr} {xs:List Value} {w:World} (h:Holds G H w) (hm:Ent.own e sz a n c xs∈H) (hn:0<n):∃b,a=some ⟨b,0,none⟩∧n≤c:=by
  have ho:w.ownsRow G.B e sz (.slice a n c) n xs:=h.ok _ hm
  rcases ho.2 with ⟨hv,h0⟩|⟨g,cap,cur,hv,-,-,hc,-⟩
  · omega
  · injection hv with h1 h2 h3
    exact⟨g,h1,by omega⟩
/-- A slice's address, its room and what it holds. -/
abbrev Rx (α:Type):=Option Addr×Nat×List α
def rxV {α:Type} (x:Rx α):Value:= .slice x.1 x.2.2.length x.2.1
/-- It can be read, and has its room. -/
def Sl {α:Type} (f:List α→List Value) (G:Ctx) (H:List Ent) (x:Rx α):Prop:=∀w,Holds G H w→x.2.2.length≤x.2.1∧(x.2.2.length≤maxLen∧At w x.1 (f x.2.2))
/-- Each of these can be read. -/
def RdX {α:Type} (f:List α→List Value) (G:Ctx) (H:List Ent) (X:List (Rx α)):Prop:=∀x∈X,Sl f G H x
section
variable {α:Type} {f:List α→List Value} {G:Ctx} {H H' E:List Ent} {X Y:List (Rx α)} {x:Rx α}
theorem Sl.mono (h:Sl f G H x) (hs:∀w,Holds G H' w→Holds G H w):Sl f G H' x:=fun w hw=>h w (hs w hw)
theorem Sl.app (h:Sl f G H x):Sl f G (E++H) x:=h.mono fun _ hw=>hw.sub (List.sublist_append_right E H)
theorem Sl.cons {e:Ent} (h:Sl f G H x):Sl f G (e::H) x:=h.mono fun _ hw=>hw.drop
theorem Sl.rd (h:Sl f G H x):RdC G H x.1 (f x.2.2):=⟨fun w hw=>(h w hw).2.2⟩
theorem Sl.nil (hf:f []=[]):Sl f G H (none,0,[]):=fun w _=>⟨Nat.le_refl _,Nat.zero_le _,by rw[hf];exact .inl rfl⟩
theorem Sl.own {e sz:Nat} {a:Option Addr} {n c:Nat} {L:List α} {vs:List Value} (hm:Ent.own e sz a n c vs∈H) (hv:vs=f L) (hn:n=L.length):Sl f G H (a,c,L):=fun w hw=>by
  subst hv
  have ho:w.ownsRow G.B e sz (.slice a n c) n (f L):=hw.ok _ hm
  have hb:L.length≤c∧L.length≤maxLen:=by
    rcases ho.2 with ⟨hv,h0⟩|⟨g,cap,cur,hv,-,-,hn',hm',-⟩
    · omega
    · have:c=cap:=by injection hv
      omega
  exact⟨hb.1,hb.2,(Rd.mem hm) w hw⟩
theorem AI2 {P:Program} {g:FuncId} {args:List Value} {R R':Value→List Ent→Prop} (h:SC P G g args H R) (hi:∀v H',R v H'→R' v H'):SC P G g args H R':=⟨h.1,fun w hw=>(h.2 w hw).mono fun e w' ⟨v,H',h1,h2,h3⟩=>⟨v,H',h1,h2,hi v H' h3⟩⟩
theorem RdX.nil:RdX f G H []:=fun _ h=>nomatch h
theorem RdX.mono (h:RdX f G H X) (hs:∀w,Holds G H' w→Holds G H w):RdX f G H' X:=fun x hx=>(h x hx).mono hs
theorem RdX.app (h:RdX f G H X):RdX f G (E++H) X:=h.mono fun _ hw=>hw.sub (List.sublist_append_right E H)
theorem RdX.cons {e:Ent} (h:RdX f G H X):RdX f G (e::H) X:=h.mono fun _ hw=>hw.drop
theorem RdX.snoc (h:RdX f G H X) (h1:Sl f G H x):RdX f G H (X++[x]):=fun y hy=>by
  rcases List.mem_append.1 hy with hy|hy
  · exact h y hy
  · obtain rfl:=List.mem_singleton.1 hy
    exact h1
theorem RdX.sub (h:RdX f G H X) (hs:∀y∈Y,y∈X):RdX f G H Y:=fun y hy=>h y (hs y hy)
theorem RdX.at {k:Nat} (h:RdX f G H X) (hx:X[k]? =some x):Sl f G H x:=h x (List.mem_of_getElem? hx)
end
theorem B60 {α β:Type} (f:α→β) {X:List α} {k:Nat} {x:α} (h:X[k]? =some x):(X.map f)[k]? =some (f x):=by rw[List.getElem?_map,h];rfl
theorem AA3 {α:Type} {X:List α} {k:Nat} (h:k<X.length):∃x,X[k]? =some x:=⟨X[k],List.getElem?_eq_getElem h⟩
theorem Au6 {α:Type} {X:List α} {k:Nat} {x:α} (h:X[k]? =some x):X.take (k+1)=X.take k++[x]:=by
  obtain⟨hk,he⟩:=List.getElem?_eq_some_iff.1 h
  rw[List.take_succ_eq_append_getElem hk,he]
theorem drop_at {α:Type} {X:List α} {k:Nat} {x:α} (h:X[k]? =some x):X.drop k=x::X.drop (k+1):=by
  obtain⟨hk,he⟩:=List.getElem?_eq_some_iff.1 h
  rw[List.drop_eq_getElem_cons hk,he]
/-- Elements of so many cells each. -/
class En {α:Type} (en:α→List Value) (sz:outParam Nat):Prop where
  len:∀x,(en x).length=sz
theorem A79:∀{l:List Value} {k:Nat},k≤l.length→take? l k=some (l.take k)
  | _,0,_=>by simp [take?]
  | [],k+1,h=>by simp at h
  | x::l,k+1,h=>by
    simp only[List.length_cons] at h
    simp [take?,A79 (show k≤l.length by omega)]
section
variable {α:Type} {en:α→List Value} {sz:Nat} [he:En en sz]
theorem AQ0:∀L:List α,(L.flatMap en).length=L.length * sz
  | []=>by simp
  | x::L=>by rw[List.flatMap_cons,List.length_append,AQ0 L,he.len,List.length_cons,Nat.add_mul];omega
theorem Aq2:∀(k:Nat) (L:List α),(L.flatMap en).drop (k * sz)=(L.drop k).flatMap en
  | 0,L=>by simp
  | k+1,[]=>by simp
  | k+1,x::L=>by
    rw[List.flatMap_cons,show (k+1) * sz=(en x).length+k * sz from by rw[he.len,Nat.add_mul];omega,List.drop_length_add_append,Aq2 k L]
    rfl
theorem BE6 {L:List α} {k:Nat} {x:α} (j:Nat) (hx:L[k]? =some x) (hj:j<sz):(L.flatMap en)[k * sz+j]? =(en x)[j]? :=by
  rw[←List.getElem?_drop,Aq2,drop_at hx,List.flatMap_cons,List.getElem?_append_left (by rw[he.len];exact hj)]
theorem AX0 {L:List α} {k:Nat} {x:α} (hx:L[k]? =some x):take? ((L.flatMap en).drop (k * sz)) sz=some (en x):=by
  rw[Aq2,drop_at hx,List.flatMap_cons,A79 (by rw[List.length_append,he.len];omega),List.take_append_of_le_length (by rw[he.len];exact Nat.le_refl _),List.take_of_length_le (by rw[he.len];exact Nat.le_refl _)]
theorem BG3 (L:List α) (x:α):(L++[x]).flatMap en=L.flatMap en++en x:=by rw[List.flatMap_append];simp
theorem BZ2 (L:List α) (h:∀x,(en x).all (·.oneCell')=true):(L.flatMap en).all (·.oneCell')=true:=by
  rw[List.all_flatMap]
  exact List.all_eq_true.2 fun x _=>h x
end
theorem CD1 {α:Type} (g:α→Value) (L:List α):(L.flatMap fun x=>[g x])=L.map g:=by
  induction L with
  | nil=>rfl
  | cons x L ih=>rw[List.flatMap_cons,ih];rfl
theorem Ay8 (zc:List Value) (n sz:Nat) (hz:zc.length=sz) (h0:0<sz):(Array.range (n * sz)).map (fun x=>(zc.toArray)[x % zc.toArray.size]!)=((List.replicate n zc).flatten).toArray:=by
  have e:(List.replicate n zc).flatten=(List.range n).flatMap fun _=>zc:=by
    rw[List.flatMap_def]
    congr 1
    rw[List.map_const',List.length_range]
  haveI:En (fun _:Nat=>zc) sz:=⟨fun _=>hz⟩
  rw[e]
  apply Array.toList_inj.1
  apply List.ext_getElem?
  intro i
  simp only[Array.toList_map,Array.toList_range,List.getElem?_map]
  rcases Nat.lt_or_ge i (n * sz) with hi|hi
  · have hd:i / sz<n:=by rw[Nat.div_lt_iff_lt_mul h0];exact hi
    have h3:=BE6 (en:=fun _:Nat=>zc) (L:=List.range n) (k:=i / sz) (x:=i / sz) (i % sz) (List.getElem?_range hd) (Nat.mod_lt _ h0)
    rw[Nat.div_add_mod'] at h3
    rw[h3,List.getElem?_range hi]
    have hm:=Nat.mod_lt i h0
    simp only[Option.map_some,List.size_toArray,hz]
    rw[List.getElem?_eq_getElem (by omega)]
    simp [hz,hm]
  · rw[List.getElem?_eq_none (by rw[List.length_range];exact hi),List.getElem?_eq_none (by rw[AQ0,List.length_range];exact hi)]
    rfl
section
variable {P:Program} {G:Ctx} {n:Sz} {ops:Array Oper} {Q:Post} {s:Fm} {H:List Ent} {o:Oper} {rest:List Oper}
/-- A literal row whose elements are structs. -/
theorem Ae5 {t e sz bytes len d:Nat} {parts:Array (Nat×Operand)} {zc cs:List Value} {l:List (Nat×List Value)} (hg:o.guard=none) (ho:o.op= .buildSlice t len parts) [hT:SliceT P t e sz bytes] [hz:ZeroT P e zc] (hp:AV8 s parts.toList=some l) (hf:AB2 (AI6 len sz) (List.replicate len zc).flatten l=some cs)
    (hl:Nat.beq cs.length (len * sz)=true) (h0:Nat.blt 0 len=true) (hm:Nat.ble (len * sz) 1000=true) (h1d:o.dst=some d) (h2d:Nat.blt d n.n=true)
    (hk:∀b,SL P G n ops Q rest ((d,.slice (some ⟨b,0,none⟩) len len)::s) (.own e sz (some ⟨b,0,none⟩) len len cs::H)):SL P G n ops Q (o::rest) s H:=by
  obtain⟨hu,hsz,hby,z',hzi,hzs⟩:=hT.here
  obtain⟨z,hz1,hz2⟩:=hz.here
  obtain⟨ie,hi,hiz⟩:=Au5 hz1
  rw[hi] at hzi
  simp only[Option.map_some,Option.some.injEq,Prod.mk.injEq] at hzi
  obtain⟨e1,e2,e3⟩:=hzi
  rw[hiz] at e1
  obtain rfl:=Option.some.inj e1
  have hzl:zc.length=sz:=by rw[←hzs,hz2.cells];simp
  have hl':=Nat.eq_of_beq_eq_true hl
  have hm':=Nat.le_of_ble_eq_true hm
  have h0':0<len:=by simpa [Nat.blt_eq] using h0
  have hpos:0<len * sz:=Nat.mul_pos h0' hsz
  have hd:=okd (n:=n) h1d h2d
  simp only[←updd h1d] at hk
  refine AC4 (.inl hg) fun a w ha hw K hK=>?_
  obtain⟨q1,q2⟩:=Ad8 parts.toList l a ha hp
  have hb:builtSlice P e len ((parts.map fun (i,x)=>(i,a.eval x)).toList)=some cs.toArray:=by
    unfold builtSlice
    simp only[hi,hiz,e2]
    rw[if_neg (by omega),hz2.cells,Ay8 zc len sz hzl hsz]
    rw[Array.toList_map]
    exact Ae0 (AI6 len sz) (fun i=>some (i * sz,sz)) (fun i p h=>AK9 len sz i p h) l _ _ cs q1 q2 hf
  unfold Oper.wp execOp
  simp only[ho,Sem.run_bind,run_buildSlice w t e len _ cs.toArray hu hb,Result.andThen_ok]
  have hw2:=hw.alloc e cs
  have hlm:len≤len * sz:=Nat.le_mul_of_pos_right _ hsz
  have hw3:Holds G (.own e sz (some ⟨w.heap.size,0,none⟩) len len cs::H) (w.alloc (.cells cs.toArray e)):=by
    refine⟨hw2.below,hw2.base,fun x hx=>?_,List.pairwise_cons.2 ⟨fun y hy k hk=>(List.pairwise_cons.1 hw2.apart).1 y hy k hk,(List.pairwise_cons.1 hw2.apart).2⟩⟩
    rcases List.mem_cons.1 hx with rfl|hx
    · have:=hw2.ok _ List.mem_cons_self
      exact⟨hl',.inr ⟨w.heap.size,len,cs.toArray,rfl,this.1,this.2,Nat.le_refl _,by unfold maxLen;omega,by simpa using hl',by rw[←hl'];simp⟩⟩
    · exact hw2.ok x (List.mem_cons_of_mem _ hx)
  exact hK _ _ (hk _ _ _ (ha.put _ _ hd) hw3)
end
end Go.Sx
end
namespace Go.Proofs.YtmmnimagbnlcmaaGreatDoor
open Go Go.RowKit Go.Fw Go.Sx
set_option maxRecDepth 100000
section
open Go Go.RowKit Go.ChangeShapes Go.WideShapes Go.ChangeAt Go.Sx Go.Fw
/-- What a type's cells are, when they read. -/
class Tr (P:Program) (t:TypeId) (α:outParam Type) (en:outParam (α→List Value)) (ok:outParam (World→α→Prop)) (bk:outParam (α→Nat)):Prop where
  op:∀{H:Type} {enc:TypeId×Value→H} {W:World} {sp:Nat→Bool} {hd:Bool} {fuel:Nat} {cs:List Value} {x:DataW H×List MemPlace},DataW.trod enc P W 0 sp hd fuel t cs=some x→∃y:α,cs=en y∧ok W y∧bk y+1≤Rows.uptoBulk x.1
  sz:∀y,(en y).length=P.cellsOf t
section
variable {P:Program} {t:TypeId}
theorem Tr.int {k:IntKind} (ht:P.underlying t=some (.int k)) (hc:P.cellsOf t=1):Tr P t Int (fun z=>[.int k z]) (fun _ z=>(Lit.int k z).wf=true) (fun _=>0):=⟨fun h=>by
  obtain⟨n,h1,h2,h3⟩:=DataW.trod_int ht h
  exact⟨n,h1,h3,by rw[h2];exact Ak5 _⟩,fun _=>hc.symm⟩
theorem Tr.bool (ht:P.underlying t=some .bool) (hc:P.cellsOf t=1):Tr P t Bool (fun z=>[.bool z]) (fun _ _=>True) (fun _=>0):=⟨fun h=>by
  obtain⟨n,h1,h2⟩:=DataW.trod_bool ht h
  exact⟨n,h1,trivial,by rw[h2];exact Ak5 _⟩,fun _=>hc.symm⟩
theorem Tr.str (ht:P.underlying t=some .string) (hc:P.cellsOf t=1):Tr P t ByteArray (fun z=>[.string z]) (fun _ z=>z.size≤maxLen) (fun z=>z.size):=⟨fun h=>by
  obtain⟨n,h1,h2,h3⟩:=DataW.trod_string ht h
  refine⟨n,h1,h3,?_⟩
  rw[h2]
  have e:n.data.toList.length=n.size:=by rw[Array.length_toList];rfl
  simp only[Rows.uptoBulk]
  omega,fun _=>hc.symm⟩
theorem Ah3 {H:Type}:∀(l r:List (DataW H)),Rows.uptoBulkAll (l++r)=Rows.uptoBulkAll l+Rows.uptoBulkAll r
  | [],r=>by simp [Rows.uptoBulkAll]
  | x::l,r=>by rw[List.cons_append];simp only[Rows.uptoBulkAll];rw[Ah3 l r];omega
theorem Tr.slice {e:TypeId} {α:Type} {en:α→List Value} {ok:World→α→Prop} {bk:α→Nat} (he:Tr P e α en ok bk) (ht:P.underlying t=some (.slice e)) (hc:P.cellsOf t=1) (h0:0<P.cellsOf e):Tr P t (Rx α) (fun x=>[rxV x]) (fun W x=>x.2.2.length≤x.2.1∧x.2.2.length≤maxLen∧At W x.1 (x.2.2.flatMap en)∧∀y∈x.2.2,ok W y) (fun x=>(x.2.2.map fun y=>bk y+1).sum):=⟨fun {H enc W sp hd fuel cs x} h=>by
  rcases DataW.trod_slice ht h with ⟨hcs,hx⟩|⟨a,len,cap,elems,rest,n,-,hcs,hx,-,hl,hm,hlen,hel,-,-⟩
  · exact⟨(none,0,[]),hcs,⟨Nat.le_refl _,by simp [maxLen],.inl rfl,fun y hy=>nomatch hy⟩,by rw[hx];exact Ak5 _⟩
  · have each:∀i,i<len→∃q:α,(ok W q∧∃z,elems[i]? =some z∧bk q+1≤Rows.uptoBulk z.1)∧∀j,j<P.cellsOf e→W.cell? ((a.add (i * P.cellsOf e)).add j)=(en q)[j]? :=fun i hi=>by
      have h1:=hel i hi
      rw[List.getElem?_eq_getElem (by omega:i<elems.length),Option.bind_eq_some_iff] at h1
      obtain⟨cs',hc,ht⟩:=h1
      obtain⟨q,rfl,hq,hb⟩:=he.op ht
      obtain⟨_,hlen',hcell⟩:=World.cells?_some hc
      exact⟨q,⟨hq,_,List.getElem?_eq_getElem _,hb⟩,fun j hj=>hcell j hj⟩
    obtain⟨L,hL,hLe,hLb⟩:∃L:List α,L.length=len∧(∀i x,L[i]? =some x→ok W x∧∀j,j<P.cellsOf e→W.cell? ((a.add (i * P.cellsOf e)).add j)=(en x)[j]?)∧(L.map fun y=>bk y+1).sum≤Rows.uptoBulkAll ((elems.take len).map (·.1)):=by
      clear hel hcs hm hl h hx
      have hle:len≤elems.length:=by omega
      clear hlen
      induction len with
      | zero=>exact⟨[],rfl,fun i x hx=>by simp at hx,by simp⟩
      | succ m ih=>
        obtain⟨L,h1,h2,h3⟩:=ih (fun i hi=>each i (by omega)) (by omega)
        obtain⟨q,hq,hq2⟩:=each m (by omega)
        refine⟨L++[q],by simp [h1],fun i x hx=>?_,?_⟩
        · rcases Nat.lt_or_ge i L.length with hi|hi
          · rw[List.getElem?_append_left hi] at hx
            exact h2 i x hx
          · rw[List.getElem?_append_right hi] at hx
            rcases Nat.eq_zero_or_pos (i-L.length) with h0|h0
            · rw[h0] at hx
              obtain rfl:q=x:=by simpa using hx
              obtain rfl:i=m:=by omega
              exact⟨hq.1,hq2⟩
            · rw[List.getElem?_eq_none (by simp;omega)] at hx
              cases hx
        · rw[List.take_succ_eq_append_getElem (by omega),List.map_append,List.map_append,List.sum_append,Ah3]
          obtain⟨z,hz,this⟩:=hq.2
          rw[List.getElem?_eq_getElem (by omega)] at hz
          rw[Option.some.inj hz]
          simp only[List.map_cons,List.map_nil,List.sum_cons,List.sum_nil,Rows.uptoBulkAll]
          omega
    refine⟨(some a,cap,L),by rw[hcs];simp [rxV,hL],⟨by dsimp only;omega,by dsimp only;omega,?_,fun y hy=>?_⟩,?_⟩
    · dsimp only
      by_cases hz:len=0
      · left
        subst hz
        rw[List.eq_nil_of_length_eq_zero hL];rfl
      · right
        obtain⟨x0,hx0⟩:=AA3 (X:=L) (k:=0) (by omega)
        have hc0:=(hLe 0 x0 hx0).2 0 h0
        have hv0:∃u,(en x0)[0]? =some u:=⟨(en x0)[0]'(by rw[he.sz];exact h0),List.getElem?_eq_getElem _⟩
        obtain⟨u,hu⟩:=hv0
        rw[hu] at hc0
        obtain⟨b,o,sp'⟩:=a
        have hsp:sp'=none:=by
          cases sp' with
          | none=>rfl
          | some y=>
            exfalso
            simp only[World.cell?,Addr.add] at hc0
            split at hc0<;>simp_all
        subst hsp
        refine⟨b,o,rfl,World.block_lt_of_cell? W _ (u:=u) (by have:=hc0;simpa [Addr.add] using this),fun i hi=>?_⟩
        have hfl:(L.flatMap en).length=len * P.cellsOf e:=by
          haveI:En en (P.cellsOf e):=⟨he.sz⟩
          rw[AQ0,hL]
        rw[hfl] at hi
        have hdiv:i / P.cellsOf e<len:=by
          rw[Nat.div_lt_iff_lt_mul h0]
          exact hi
        obtain⟨y,hy⟩:=AA3 (X:=L) (k:=i / P.cellsOf e) (by omega)
        have h3:=(hLe _ y hy).2 (i % P.cellsOf e) (Nat.mod_lt _ h0)
        rw[Fw.add_plain,Fw.add_plain,Nat.add_assoc,Nat.div_add_mod'] at h3
        haveI:En en (P.cellsOf e):=⟨he.sz⟩
        have h4:=BE6 (en:=en) (L:=L) (i % P.cellsOf e) hy (Nat.mod_lt _ h0)
        rw[Nat.div_add_mod'] at h4
        rw[h3,h4]
    · obtain⟨i,hi,rfl⟩:=List.getElem_of_mem hy
      exact(hLe i _ (List.getElem?_eq_getElem hi)).1
    · rw[List.take_of_length_le (by omega)] at hLb
      rw[hx]
      simp only[Rows.uptoBulk]
      omega,fun _=>hc.symm⟩
/-- The fields of a struct, from one on. -/
structure TrS (P:Program) (l:List (Nat×TypeId)) (o n:Nat) (α:Type) (en:α→List Value) (ok:World→α→Prop) (bk:α→Nat):Prop where
  op:∀{H:Type} {enc:TypeId×Value→H} {W:World} {sp:Nat→Bool} {hd:Bool} {fuel:Nat} {cs:List Value} {xs:List (DataW H×List MemPlace)},cs.length=n→xs.length=l.length→(∀(i:Nat) (p:Nat×TypeId),l[i]? =some p→DataW.trod enc P W 0 sp hd fuel p.2 ((cs.drop p.1).take (P.cellsOf p.2))=xs[i]?)→∃y:α,cs.drop o=en y∧ok W y∧bk y≤Rows.uptoBulkAll (xs.map (·.1))
  sz:∀y,o+(en y).length=n
theorem TrS.one {o n:Nat} {α:Type} {en:α→List Value} {ok:World→α→Prop} {bk:α→Nat} (h:Tr P t α en ok bk) (hn:o+P.cellsOf t=n):TrS P [(o,t)] o n α en ok bk:=⟨fun {H enc W sp hd fuel cs xs} hl hx he=>by
  match xs,hx with
  | [x],_=>
    have h1:=he 0 _ rfl
    obtain⟨y,h2,h3,h4⟩:=h.op (x:=x) h1
    refine⟨y,?_,h3,?_⟩
    · rw[←h2,List.take_of_length_le (by rw[List.length_drop];show cs.length-o≤P.cellsOf t;omega)]
    · simp only[List.map_cons,List.map_nil,Rows.uptoBulkAll]
      omega,fun y=>by rw[h.sz,hn]⟩
theorem TrS.cons {o o' n:Nat} {α β:Type} {l:List (Nat×TypeId)} {en:α→List Value} {ok:World→α→Prop} {bk:α→Nat} {en2:β→List Value} {ok2:World→β→Prop} {bk2:β→Nat} (h:Tr P t α en ok bk) (ho:o+P.cellsOf t=o') (hr:TrS P l o' n β en2 ok2 bk2):
    TrS P ((o,t)::l) o n (α×β) (fun p=>en p.1++en2 p.2) (fun W p=>ok W p.1∧ok2 W p.2) (fun p=>bk p.1+bk2 p.2):=⟨fun {H enc W sp hd fuel cs xs} hl hx he=>by
  match xs,hx with
  | x::xs,hx=>
    obtain⟨y,h2,h3,h4⟩:=h.op (x:=x) (he 0 _ rfl)
    obtain⟨z,h5,h6,h7⟩:=hr.op (xs:=xs) hl (by simpa using hx) fun i p hp=>he (i+1) p (by simpa using hp)
    refine⟨(y,z),?_,⟨h3,h6⟩,?_⟩
    · dsimp only
      rw[←h2,←h5,←ho,←List.drop_drop]
      exact(List.take_append_drop _ _).symm
    · simp only[List.map_cons,Rows.uptoBulkAll]
      omega,fun y=>by rw[List.length_append,h.sz,←Nat.add_assoc,ho,hr.sz]⟩
theorem Tr.struct {fs:Array Field} {l:List (Nat×TypeId)} {n:Nat} {α:Type} {en:α→List Value} {ok:World→α→Prop} {bk:α→Nat} (hr:TrS P l 0 n α en ok bk) (ht:P.underlying t=some (.struct fs)) (hl:(fs.toList.map fun f=>(f.offset,f.type))=l) (hc:P.cellsOf t=n):Tr P t α en ok bk:=⟨fun {H enc W sp hd fuel cs x} h=>by
  obtain⟨xs,m,-,hx,hlen,hxs,hel⟩:=DataW.trod_struct ht h
  have hll:l.length=fs.size:=by rw[←hl];simp
  obtain⟨y,h2,h3,h4⟩:=hr.op (enc:=enc) (W:=W) (sp:=sp) (hd:=hd) (fuel:=m) (cs:=cs) (xs:=xs) (by rw[hlen,hc]) (by rw[hxs,hll]) fun i p hp=>by
    rw[←hl,List.getElem?_map] at hp
    cases hf:fs.toList[i]? with
    | none=>rw[hf] at hp;cases hp
    | some f=>
      rw[hf] at hp
      obtain rfl:=Option.some.inj hp
      exact hel i f (by simpa using hf)
  refine⟨y,by rw[←h2,List.drop_zero],h3,?_⟩
  rw[hx]
  simp only[Rows.uptoBulk]
  omega,fun y=>by have:=hr.sz y;rw[hc];omega⟩
theorem Tr.array {e:TypeId} {n:Nat} {α:Type} {en:α→List Value} {ok:World→α→Prop} {bk:α→Nat} (he:Tr P e α en ok bk) (ht:P.underlying t=some (.array n e)) (hc:P.cellsOf t=n * P.cellsOf e):Tr P t {L:List α // L.length=n} (fun L=>L.1.flatMap en) (fun W L=>∀y∈L.1,ok W y) (fun _=>0):=⟨fun {H enc W sp hd fuel cs x} h=>by
  obtain⟨xs,m,-,hx,hlen,hxs,hel⟩:=DataW.trod_array ht h
  have each:∀i,i<n→∃q:α,ok W q∧(cs.drop (i * P.cellsOf e)).take (P.cellsOf e)=en q:=fun i hi=>by
    have h1:=hel i hi
    rw[List.getElem?_eq_getElem (by omega:i<xs.length)] at h1
    obtain⟨q,h2,h3,-⟩:=he.op h1
    exact⟨q,h3,h2⟩
  have key:∀k,k≤n→∃L:List α,L.length=k∧(∀y∈L,ok W y)∧cs.take (k * P.cellsOf e)=L.flatMap en:=fun k=>by
    induction k with
    | zero=>exact fun _=>⟨[],rfl,fun y hy=>(nomatch hy),by simp⟩
    | succ k ih=>
      intro hk
      obtain⟨L,h1,h2,h3⟩:=ih (by omega)
      obtain⟨q,h4,h5⟩:=each k (by omega)
      refine⟨L++[q],by simp [h1],fun y hy=>?_,?_⟩
      · rcases List.mem_append.1 hy with hy|hy
        · exact h2 y hy
        · obtain rfl:=List.mem_singleton.1 hy
          exact h4
      · rw[List.flatMap_append,←h3,Nat.add_mul,Nat.one_mul,List.take_add,h5]
        simp
  obtain⟨L,h1,h2,h3⟩:=key n (Nat.le_refl _)
  refine⟨⟨L,h1⟩,?_,h2,by rw[hx];exact Ak5 _⟩
  dsimp only
  rw[←h3,List.take_of_length_le (by rw[hlen,hc];exact Nat.le_refl _)],fun L=>by
  haveI:En en (P.cellsOf e):=⟨he.sz⟩
  rw[hc,AQ0,L.2]⟩
/-- An argument that is a struct. -/
theorem B78 {H:Type} {enc:TypeId×Value→H} {W:World} {base:Nat} {v:Value} {d:DataW H} {ps:List MemPlace} {fs:Array Field} (ht:P.underlying t=some (.struct fs)) {α:Type} {en:α→List Value} {ok:World→α→Prop} {bk:α→Nat} (tr:Tr P t α en ok bk)
    (k:Value.okWide P W .any base t v) (h:DataW.Trod enc P W 0 (fun _=>true) true t v d ps):∃y:α,v= .agg (en y).toArray∧ok W y∧bk y+1≤Rows.uptoBulk d:=by
  obtain⟨cs,rfl,-⟩:=okWide_struct ht k
  obtain⟨fuel,hf⟩:=h
  rw[show (Value.agg cs).cells.toList=cs.toList from rfl] at hf
  obtain⟨y,h1,h2,h3⟩:=tr.op hf
  exact⟨y,by rw[←h1],h2,h3⟩
theorem CD0 {H:Type} {enc:TypeId×Value→H} {W:World} {base:Nat} {v:Value} {d:DataW H} {ps:List MemPlace} {ik:IntKind} (ht:P.underlying t=some (.int ik)) {ok:World→Int→Prop} {bk:Int→Nat} (tr:Tr P t Int (fun z=>[.int ik z]) ok bk)
    (k:Value.okWide P W .any base t v) (h:DataW.Trod enc P W 0 (fun _=>true) true t v d ps):∃y:Int,v= .int ik y∧ok W y∧bk y+1≤Rows.uptoBulk d:=by
  obtain⟨z,rfl⟩:=okWide_int ht k
  obtain⟨fuel,hf⟩:=h
  obtain⟨y,h1,h2,h3⟩:=tr.op hf
  simp only[Value.cells] at h1
  exact⟨y,by simpa using h1,h2,h3⟩
end
end
section
open Go
mutual
/-- The cells of a datum without places. -/
def AX5:DataW Unit→List Value
  | .lit (.int k z)=>[.int k z]
  | .lit (.bool b)=>[.bool b]
  | .agg parts=>As8 parts
  | _=>[]
def As8:List (DataW Unit)→List Value
  | []=>[]
  | d::r=>AX5 d++As8 r
end
end
end Go.Proofs.YtmmnimagbnlcmaaGreatDoor
