/- Texts of this claim, merged: RepQ SxD SxM SxN Scr1 Trm1 SanP Grid17 Grid18 Grid22 Grid15. -/
import Derived.Test.YtmmnimagbnlcmaaGreatDoorTy6
import Derived.WalkKit
import Derived.WalkSpells
import Derived.WalkLawsBesides
import Derived.Handy
import Derived.Lib.Hide
import Derived.Laws.BitsAllLaws
import Derived.Deep.MidRow
import Derived.Deep.WholeRow
import Derived.BigQuiet
import Derived.Laws.CopyOwn
import Derived.Deep.QuietTactic
import Derived.Laws.AppendOwnNone
import Derived.Laws.MakeOwn
import Derived.Laws.IdiomStrings
import Derived.OrdersHeld
import Derived.Lib.SliceRun
import Derived.ChangeKeysEq
import Derived.Laws.CopyRow
import Derived.Test.YtmmnimagbnlcmaaGreatDoorRows
import Derived.Lib.AppendStr
import Derived.ArgAppend
import Derived.Laws.RangeAny
import Derived.Maps.RangeRun
import Derived.StillTailTactics
import Derived.RegionTactic
import Derived.ChangeAlike
set_option maxRecDepth 100000
set_option maxHeartbeats 8000000
open Go Go.RowKit Go.Fw Go.Sx
namespace Go.Fw
theorem Bw7 (q:Qd) (k:Nat):(List.replicate k (qd q)).flatten=qds (List.replicate k q):=by
 induction k with
 | zero=>rfl
 | succ k ih=>rw[List.replicate_succ,List.flatten_cons,ih,List.replicate_succ,AJ6]
theorem Bf7 (k:Nat):(madeCells (#[.int .i64 0,.int .i64 0,.int .i64 0,.int .i64 0]:Array Value) (k * 4)).toList=qds (List.replicate k qz):=by
 have h:=A53 [.int .i64 0,.int .i64 0,.int .i64 0,.int .i64 0] k 4 rfl (by decide)
 have h2:=congrArg Array.toList h
 rw[←Bw7]
 exact h2
def rowP (q:Qd) (K m:Nat):List Qd:=List.replicate m q++List.replicate (K-m) qz
theorem Bk8 (q:Qd) {K m:Nat} (h:m≤K):(rowP q K m).length=K:=by simp [rowP];omega
theorem Av9 (q:Qd) {K m d:Nat} (h:d≤m):(rowP q K m).take d=List.replicate d q:=by
 unfold rowP
 rw[List.take_append_of_le_length (by simpa using h),List.take_replicate,Nat.min_eq_left h]
theorem Ac7 (C D:List Qd) (k:Nat):over (qds C) (k * 4) (qds D)=qds (C.take k++D++C.drop (k+D.length)):=by
 unfold over
 rw[AM0,X6,←Nat.add_mul,AO4,Z4,Z4]
theorem rowP_step (q:Qd) {K m d:Nat} (h:d≤m) (h2:m+d≤K):over (qds (rowP q K m)) (m * 4) ((qds (rowP q K m)).take (d * 4))=qds (rowP q K (m+d)):=by
 rw[AM0,Av9 q h,Ac7,Av9 q (Nat.le_refl m),List.length_replicate]
 congr 1
 unfold rowP
 rw[List.drop_append,List.length_replicate,List.drop_of_length_le (by simp),List.nil_append,show m+d-m=d from by omega,List.drop_replicate,List.replicate_append_replicate,show K-m-d=K-(m+d) from by omega]
theorem BM1 (q:Qd) (K:Nat):over (qds (List.replicate K qz)) 0 ((qd q).take (min 1 K * 4))=qds (rowP q K (min 1 K)):=by
 rcases Nat.eq_zero_or_pos K with h|h
 ·subst h;rfl
 ·rw[Nat.min_eq_left h,show (qd q).take (1 * 4)=qds [q] from by rfl]
  show over (qds (List.replicate K qz)) (0 * 4) (qds [q])=_
  rw[Ac7]
  congr 1
  unfold rowP
  simp
theorem Bp0 (q:Qd) (K:Nat):rowP q K K=List.replicate K q:=by simp [rowP]
end Go.Fw
namespace Go.Proofs.YtmmnimagbnlcmaaGreatDoor
section
attribute [local irreducible] SW SL SQ AtQ SV SC BB LD PK Yields SO SOT SOA SY SP SPT SPA
theorem Bq6 (G:Ctx) (H:List Ent) (q:Qd) (a:Option Addr) (c:Nat) (k:Int) {vs:List Value} (hk:0≤k∧k≤1000000) [hr:RdC G H a vs] (hv:vs=qd q):SC Tryz.prog G 192 [.slice a 1 c,.int .i64 k] H (fun v H'=>∃b,v= .slice (some ⟨b,0,none⟩) k.toNat k.toNat∧H'= .own 97 4 (some ⟨b,0,none⟩) k.toNat k.toNat (qds (List.replicate k.toNat q))::H):=by
 subst hv
 have cm:=fun H=>B96 G H k (by omega)
 obtain⟨K,rfl⟩:∃K:Nat,k=K:=⟨k.toNat,by omega⟩
 have hqone:∀d,((qd q).take d).all (·.oneCell')=true:=fun d=>by
  rw[List.all_eq_true]
  intro v hv
  have:=List.mem_of_mem_take hv
  simp [qd] at this
  rcases this with rfl|rfl|rfl|rfl<;>rfl
 refine I7 Tryz.func192 O O O O O ?_
 repeat' (first|(apply E8;first|(apply A8;refine A9 ?_)|(apply C8;refine D7 O O ?_)|(apply E5;refine F7 O O O ?_;refine F9 O ?_)|(apply D5;refine D9 O O ?_)|(apply I6;refine J4 O O ?_;apply M6;refine M7 O ?_)|(apply U7;refine X7 (M0 O O O) O ?_)|(apply AA3;first|refine AA8 (AC1 (k:= .i64) O O ⟨by omega,by omega⟩) O ?_ |refine AA8 (AC1 (k:= .u64) O O ⟨by omega,by omega⟩) O ?_)|(apply H5;refine H6 O O O (cm _) O O ?_)|(apply K5;refine s_call (S9 O O) O ?_)|(apply I5;refine J9 O O O O ?_;apply I1)|(refine Bq7 O O O O (by omega) (by omega) (by omega) O O (fun _=>?_)))|(apply D6)|(apply G8)|(apply A7)|(refine G5 O ?_;first|(apply H7)|(apply E9<;>intro hq<;>(try (exfalso;omega))))|(apply C9))
 rename_i b
 rw[Int.toNat_natCast,Bf7]
 repeat' (first|(apply E8;first|(apply A8;refine A9 ?_)|(apply D5;refine D9 O O ?_)|(apply K5;refine Ag8 (off:=0) (m:=min 1 K) O O O O O (by rw[AY1];omega) (by omega) (hqone _) O O ?_))|(apply D6)|(apply F3)|(apply C9))
 rw[BM1]
 refine R7 (α:=Nat) (fun m=>[(7,.slice (some ⟨b,0,none⟩) K K),(8,.int .i64 m)]) (fun m=> .own 97 4 (some ⟨b,0,none⟩) K K (qds (rowP q K m))::H)
  (fun m=>m≤K∧(m=0→K=0)) (fun m=>K-m) (min 1 K) ⟨Nat.min_le_right _ _,fun h=>by omega⟩ Q7 J3 ?_
 rintro m ⟨hm,h0⟩
 by_cases hlt:(m:Int)<K
 ·have hrl:=Bk8 q hm
  have hql:(qds (rowP q K m)).length=K * 4:=by rw[X6,hrl]
  have hst:=rowP_step q (K:=K) (m:=m) (d:=min m (K-m)) (Nat.min_le_left _ _) (by omega)
  have hon:((qds (rowP q K m)).take (min m (K-m) * 4)).all (·.oneCell')=true:=by rw[AM0];exact Ah6 _
  repeat' (first|(apply E8;first|(apply A8;refine A9 ?_)|(apply C8;refine D7 O O ?_)|(apply E5;refine F7 O O O ?_;refine F9 O ?_)|(apply K5;first|(refine Ag8 (m:=min m (K-m)) O O O O O (by rw[hql];omega) (by omega) hon O O ?_)|refine s_call (S9 O O) O ?_))|(apply Q0;refine N8 (k:=0) J3 ?_)|(apply U3;first|(refine L8 O ?_)|(refine O4 O O O O (by kernel_rfl) (by decide+kernel) (by decide+kernel) ?_;first|(apply O1;refine G9 (P9 O O) ?_)|(apply AG6;refine AG7 O O ?_;apply K9;refine L6 ⟨by omega,by omega⟩ ?_)|(apply AA4;refine G9 (o6 O O) ?_)|(apply Aa7;first|(refine G9 (Bo7 O O O (by omega) (by omega)) ?_)|(refine G9 (Af1 O O O O (by omega) (by omega) (by omega) (by omega)) ?_)))|(refine O5 O ?_)|(refine N9 (by decide+kernel) ?_)|(refine Q6 (by kernel_rfl) ?_))|(apply V3;first|(refine Q5 O)|(refine U1 (by decide+kernel) ?_)|(refine Q3 O ?_ ?_))|(apply D6)|(apply G8)|(apply F3)|(apply A7)|(refine G5 O ?_;apply E9<;>intro hq<;>(try (exfalso;omega)))|(apply C9)|(apply H9)|(refine J5 (id:=9) ?_;refine Z6 (H) J3 ?_))
  rw[show (m:Int).toNat * 4=m * 4 from rfl,hst]
  refine J6 (m+min m (K-m)) ⟨⟨by omega,fun h=>by omega⟩,by omega⟩ Q7 J3
 ·obtain rfl:m=K:=by omega
  repeat' (first|(apply E8;first|(apply A8;refine A9 ?_)|(apply C8;refine D7 O O ?_)|(apply E5;refine F7 O O O ?_;refine F9 O ?_)|(apply D5;refine D9 O O ?_)|(apply K5;refine s_call (S9 O O) O ?_))|(apply D6)|(apply I4)|(apply O7)|(apply A7)|(refine G5 O ?_;apply E9<;>intro hq<;>(try (exfalso;omega)))|(apply C9)|(apply K3)|(apply K4))
  rw[Bp0]
  refine AI9 _ (.inr O) O (List.Sublist.refl _) ?_
  exact⟨_,O,O⟩
theorem Am7 (G:Ctx) (H:List Ent) (w h:Nat) (x y z:Int) (hw:1≤w∧w≤160) (hh:1≤h∧h≤60):SC Tryz.prog G 141 [.int .i64 w,.int .i64 h,penV x y z] H fun v H'=>∃b,v=gridV w h (some ⟨b,0,none⟩) (w * h) (w * h)∧H'= .own 97 4 (some ⟨b,0,none⟩) (w * h) (w * h) (qds (List.replicate (w * h) (32,x,y,z)))::H:=by
 have cB:=fun H=>AZ7 G H x y z
 have hb:w * h≤160 * 60:=Nat.mul_le_mul (by omega) (by omega)
 have e1:(w:Int) * (h:Int)=((w * h:Nat):Int):=by simp
 have cR:=fun (H:List Ent) (a:Option Addr) {vs:List Value} [RdC G H a vs] (hv:vs=qd (32,x,y,z))=>Bq6 G H (32,x,y,z) a 1 ((w:Int) * (h:Int)) (by rw[e1];omega) hv
 rw[e1,Int.toNat_natCast] at cR
 generalize hp:w * h=p at *
 refine U4 Tryz.func141 O O O O O ?_
 repeat' (first|(apply E8;first|(apply A8;refine A9 ?_)|(apply C8;refine D7 O O ?_)|(apply E5;refine F7 O O O ?_;refine AS7 ⟨by omega,by omega⟩ ?_;rw[e1])|(apply F5;refine F8 O O ?_;refine M5 O ?_)|(apply U0;refine U6 (Q9 O O O) O ?_)|(apply H5;first|refine H6 O O O (cB _) O O ?_ |(refine c_call O O O (cR _ _ O) O O ?_;rintro _ _ ⟨b,rfl,rfl⟩))|(apply H8;refine Q8 O O O O O O O O ?_)|(apply K6;refine L9 O O O O O O (fun _=>?_))|(apply O6;refine Q4 O O O O (fun _=>?_))|(apply j3;refine AX2 O O O O O O O O O (fun _=>?_)))|(apply D6)|(apply I4)|(apply A7)|(apply C9))
 rename_i b1 b2 b3
 refine AB4 (.own 97 4 (some ⟨b,0,none⟩) p p (qds (List.replicate p (32,x,y,z)))::H) (by (exact .inr O)) O O O J3 ?_
 exact⟨b,O,O⟩
theorem CA7 (G:Ctx) (H:List Ent) (w h:Nat) (x y z:Int) (hw:1≤w∧w≤160) (hh:1≤h∧h≤60) (hp:penB x y z=true):SC Tryz.prog G 84 [.int .i64 w,.int .i64 h,penV x y z] H fun v H'=>∃b,v= .tuple #[gridV w h (some ⟨b,0,none⟩) (w * h) (w * h),.int .i64 0]∧H'= .own 97 4 (some ⟨b,0,none⟩) (w * h) (w * h) (qds (List.replicate (w * h) (32,x,y,z)))::H:=by
 have cS:=fun H=>Aj5 G H w h
 have cP:=fun H=>AN8 G H x y z
 have cB:=fun H=>Am7 G H w h x y z hw hh
 have h1:sizeE w h=0:=by rcases Ac6 (w:Int) (h:Int) with ⟨h1,_⟩|⟨_,h1⟩;exact h1;omega
 rw[h1] at cS
 rw[hp] at cP
 generalize w * h=p at *
 refine U4 Tryz.func84 O O O O O ?_
 repeat' (first|(apply E8;first|(apply A8;refine A9 ?_)|(apply C8;refine D7 O O ?_)|(apply E5;refine F7 O O O ?_;refine F9 O ?_)|(apply F5;refine F8 O O ?_;refine M5 O ?_)|(apply D5;refine D9 O O ?_)|(apply H5;first|refine H6 O O O (cS _) O O ?_ |refine H6 O O O (cP _) O O ?_ |(refine c_call O O O (cB _) O O ?_;rintro _ _ ⟨b,rfl,rfl⟩))|(apply H8;refine Q8 O O O O O O O O ?_)|(apply K6;refine L9 O O O O O O (fun _=>?_))|(apply O6;refine Q4 O O O O (fun _=>?_)))|(apply D6)|(apply G8)|(apply I4)|(apply A7)|(refine G5 O ?_;apply H7)|(apply C9))
 refine AB4 (.own 97 4 (some ⟨b,0,none⟩) p p (qds (List.replicate p (32,x,y,z)))::H) (by (exact .inr O)) O O O J3 ?_
 exact⟨b,O,O⟩
end
end Go.Proofs.YtmmnimagbnlcmaaGreatDoor
namespace Go.Sx
theorem Holds.setObj {G:Ctx} {H:List Ent} {w:World} {b:Nat} {o:Obj} (h:Holds G (.obj b o::H) w) (o':Obj):Holds G (.obj b o'::H) {w with heap:=w.heap.setIfInBounds b o'}:=by
 obtain⟨hB,hb⟩:G.B≤b∧w.heap[b]? =some o:=h.ok _ List.mem_cons_self
 obtain⟨hap,hapH⟩:=List.pairwise_cons.1 h.apart
 have hlt:b<w.heap.size:=AW6 hb
 have ho:∀k,k≠b→(w.heap.setIfInBounds b o')[k]? =w.heap[k]? :=fun k hk=>by
  rw[Array.getElem?_setIfInBounds,if_neg (fun e=>hk e.symm)]
 have hn:(w.heap.setIfInBounds b o')[b]? =some o':=by
  rw[Array.getElem?_setIfInBounds,if_pos rfl,if_pos hlt]
 refine⟨h.below.trans ⟨O,O,O,Nat.le_of_eq (by simp),fun k hk=>ho k (by omega)⟩,by simpa using h.base,fun x hx=>?_,List.pairwise_cons.2 ⟨fun y hy k hk=>hap y hy k hk,hapH⟩⟩
 rcases List.mem_cons.1 hx with rfl|hx
 ·exact⟨hB,hn⟩
 ·exact Ent.ok_of (h.ok x (List.mem_cons_of_mem _ hx)) fun k hk=>ho k (fun e=>hap x hx b O (e▸hk))
def flatB:TypeDesc→Bool
 | .int _| .string| .bool=>true
 | _=>false
class MapT (P:Program) (t:TypeId) (k e:outParam TypeId) (kd:outParam TypeDesc):Prop where
 here:P.underlying t=some (.map k e)
 key:P.underlying k=some kd
 flat:flatB kd=true
section
variable {P:Program}
theorem AN3 {k:TypeId} {kd:TypeDesc} (hk:P.underlying k=some kd) (hf:flatB kd=true) (em:Bool) (m:Nat) (v:Value) (w:World):(Instr.checkKey em (m+1) k v).run P w= .ok () w:=by
 unfold Instr.checkKey
 simp only[Sem.run_bind,run_underlying hk,Result.andThen_ok]
 cases kd<;>(first|(simp [flatB] at hf;done)|rfl)
theorem Ar6 {t k e:TypeId} {kd:TypeDesc} {w:World} {r clock:Nat} {es:Array MapEntry} {key v:Value} (h:MapT P t k e kd) (hb:w.heap[r]? =some (.map es clock)) (hn:Instr.findNow kd key es.toList 0=some none):
 (Instr.mapUpdate t (.map (some r)) key v).run P w= .ok () {w with heap:=w.heap.setIfInBounds r (.map (es.push ⟨key,v,clock⟩) (clock+1))}:=by
 simp [Instr.mapUpdate,run_underlying h.here,run_underlying h.key,MapKept.run_getObj_map hb,AN3 h.key h.flat,Instr.findKey,hn,Result.andThen,setObj,Sem.run,hb]
theorem As6 {t k e:TypeId} {kd:TypeDesc} {w:World} {r clock i:Nat} {es:Array MapEntry} {key v:Value} (h:MapT P t k e kd) (hb:w.heap[r]? =some (.map es clock)) (hn:Instr.findNow kd key es.toList 0=some (some (i,v))) (ok:Bool):
 (Instr.lookup t (.map (some r)) key ok).run P w= .ok (if ok then .tuple #[v,.bool true] else v) w:=by
 simp [Instr.lookup,run_underlying h.here,run_underlying h.key,MapKept.run_getObj_map hb,AN3 h.key h.flat,Instr.findKey,hn,Result.andThen]
theorem Az8 {t k e:TypeId} {kd:TypeDesc} {w:World} {r clock:Nat} {es:Array MapEntry} {key z:Value} (h:MapT P t k e kd) (hb:w.heap[r]? =some (.map es clock)) (hn:Instr.findNow kd key es.toList 0=some none) (hz:still P (zeroValue e)=some z) (ok:Bool):
 (Instr.lookup t (.map (some r)) key ok).run P w= .ok (if ok then .tuple #[z,.bool false] else z) w:=by
 simp [Instr.lookup,run_underlying h.here,run_underlying h.key,MapKept.run_getObj_map hb,AN3 h.key h.flat,Instr.findKey,hn,Result.andThen,AJ2 _ _ hz w]
end
section
variable {P:Program} {G:Ctx} {n:Sz} {ops:Array Oper} {Q:Post} {s:Fm} {H:List Ent} {o:Oper} {rest:List Oper}
theorem Ad6 {t d:Nat} (hg:o.guard=none) (ho:o.op= .makeMap t none) (h1:o.dst=some d) (h2:Nat.blt d n.n=true)
 (hk:∀r,SL P G n ops Q rest ((d,.map (some r))::s) (.obj r (.map #[] 0)::H)):SL P G n ops Q (o::rest) s H:=by
 have hd:=okd (n:=n) h1 h2
 simp only[←updd h1] at hk
 refine AE6 (.inl hg) fun act w ha hw K hK=>?_
 have hrun:(Instr.makeMap t none).run P w= .ok (.map (some w.heap.size)) (w.alloc (.map #[] 0)):=by
  simp [Instr.makeMap,newObj,Sem.run_bind,Sem.run,Result.andThen,World.alloc,-World.alloc_eq]
 unfold Oper.wp execOp
 simp only[ho,Option.map_none,Sem.run_bind,hrun,Result.andThen_ok]
 refine hK _ _ (hk _ _ _ (ha.put _ _ hd) (hw.obj (o:= .map #[] 0) (by simp [World.alloc,-World.alloc_eq]) (by simp [World.alloc,-World.alloc_eq]) (fun k hk=>?_) O O O))
 exact heap_alloc_old w _ hk
class HasObj (H:List Ent) (b:Nat) (o:outParam Obj):Prop where
 here:Ent.obj b o∈H
instance (priority:=low) CD0 {H:List Ent} {b:Nat} {o:Obj} {x:Ent} [h:HasObj H b o]:HasObj (x::H) b o:=⟨List.mem_cons_of_mem _ h.here⟩
instance CD5 {H:List Ent} {b:Nat} {o:Obj}:HasObj (.obj b o::H) b o:=⟨List.mem_cons_self⟩
theorem A78 {t k e r clock i:Nat} {kd:TypeDesc} {m x:Operand} {es:Array MapEntry} {key v:Value} {ok:Bool} (ho:o.op= .lookup t m x ok) [h:MapT P t k e kd] (hm:ev s m=some (.map (some r))) (hx:ev s x=some key) [hp:HasObj H r (.map es clock)]
 (hn:Instr.findNow kd key es.toList 0=some (some (i,v))):Yields P G n s H o (if ok then .tuple #[v,.bool true] else v):=fun a w ha hw=>by
 have hb:w.heap[r]? =some (.map es clock):=(hw.ok _ hp.here).2
 unfold execOp
 simp only[ho,ha.ev hm,ha.ev hx]
 exact Y0 (As6 h hb hn ok)
theorem BC9 {t k e r clock:Nat} {kd:TypeDesc} {m x:Operand} {es:Array MapEntry} {key z:Value} {ok:Bool} (ho:o.op= .lookup t m x ok) [h:MapT P t k e kd] (hm:ev s m=some (.map (some r))) (hx:ev s x=some key) [hp:HasObj H r (.map es clock)]
 (hn:Instr.findNow kd key es.toList 0=some none) (hz:still P (zeroValue e)=some z):Yields P G n s H o (if ok then .tuple #[z,.bool false] else z):=fun a w ha hw=>by
 have hb:w.heap[r]? =some (.map es clock):=(hw.ok _ hp.here).2
 unfold execOp
 simp only[ho,ha.ev hm,ha.ev hx]
 exact Y0 (Az8 h hb hn hz ok)
theorem BM4 {t k e d bm clock:Nat} {kd:TypeDesc} {x:Operand} {es:Array MapEntry} (hg:o.guard=none) (ho:o.op= .range t x) [h:MapT P t k e kd] (hx:ev s x=some (.map (some bm))) [hp:HasObj H bm (.map es clock)] (h1:o.dst=some d) (h2:Nat.blt d n.n=true)
 (hk:∀r,SL P G n ops Q rest ((d,.pointer (some ⟨r,0,none⟩))::s) (.obj r (.mapIter (some bm) clock #[] clock)::H)):SL P G n ops Q (o::rest) s H:=by
 have hd:=okd (n:=n) h1 h2
 simp only[←updd h1] at hk
 refine AE6 (.inl hg) fun act w ha hw K hK=>?_
 have hb:w.heap[bm]? =some (.map es clock):=(hw.ok _ hp.here).2
 have hrun:=run_range_map (P:=P) w t k e bm es clock h.here hb
 unfold Oper.wp execOp
 simp only[ho,ha.ev hx,Sem.run_bind,hrun,Result.andThen_ok]
 refine hK _ _ (hk _ _ _ (ha.put _ _ hd) (hw.obj (o:= .mapIter (some bm) clock #[] clock) (by simp [World.alloc,-World.alloc_eq]) (by simp [World.alloc,-World.alloc_eq]) (fun k hk=>?_) O O O))
 exact heap_alloc_old w _ hk
theorem BU7 {d r bm since c0 clock:Nat} {seen:Array Nat} {es:Array MapEntry} {x:Operand} {H':List Ent} (hg:o.guard=none) (ho:o.op= .next x false) (hx:ev s x=some (.pointer (some ⟨r,0,none⟩))) [hp:PickObj H r (.mapIter (some bm) since seen c0) H'] [hb:HasObj H' bm (.map es clock)] (h1:o.dst=some d) (h2:Nat.blt d n.n=true)
 (hold:∀y∈es.toList,y.born<since) (hsc:since≤c0)
 (hy:∀y∈(leftOf es seen).toList,SL P G n ops Q rest ((d,.tuple #[.bool true,y.key,y.val])::s) (.obj r (.mapIter (some bm) since (seen.push y.born) clock)::H'))
 (hn:(leftOf es seen).size=0→SL P G n ops Q rest ((d,.tuple #[.bool false])::s) (.obj r (.mapIter (some bm) since seen c0)::H')):SL P G n ops Q (o::rest) s H:=by
 have hd:=okd (n:=n) h1 h2
 simp only[←updd h1] at hy hn
 refine AE6 (.inl hg) fun act w ha hw K hK=>?_
 have hw1:=hw.pick hp.here
 have hr:w.heap[r]? =some (.mapIter (some bm) since seen c0):=(hw1.ok _ List.mem_cons_self).2
 have hbm:w.heap[bm]? =some (.map es clock):=(hw1.ok _ (List.mem_cons_of_mem _ hb.here)).2
 unfold Oper.wp execOp
 simp only[ho,ha.ev hx]
 rcases run_next_at (P:=P) w o.type r bm since c0 seen es clock hr hbm hold hsc with ⟨h0,hrun⟩|⟨y,hym,w1,hw1',hrun⟩
 ·simp only[Sem.run_bind,hrun,Result.andThen_ok]
  exact hK _ _ (hn h0 _ _ (ha.put _ _ hd) hw1)
 ·simp only[Sem.run_bind,hrun,Result.andThen_ok]
  refine hK _ _ (hy y hym _ _ (ha.put _ _ hd) ?_)
  rcases hw1' with rfl|rfl
  ·exact hw1.setObj _
  ·exact hw1.drew.setObj _
end
class Len (N:List Value) (m:outParam Nat):Prop where
 here:N.length=m
def big (a N c:List Value):List Value:=a++(N++c)
section
variable {a N c:List Value}
theorem AG5 {m k:Nat} [h:Len N m] (hk:Nat.beq (a.length+(m+c.length)) k=true):(big a N c).length=k:=by
 have:=h.here;have:=Nat.eq_of_beq_eq_true hk;simp [big];omega
theorem BG8 {off:Nat} {v:Value} (h:a[off]? =some v):(big a N c)[off]? =some v:=by
 unfold big;rw[List.getElem?_append_left (List.getElem?_eq_some_iff.1 h).1];exact h
theorem AN0 {off:Nat} {v:Value} (h2:a.length≤off) (h:N[off-a.length]? =some v):(big a N c)[off]? =some v:=by
 unfold big
 rw[List.getElem?_append_right h2,List.getElem?_append_left (List.getElem?_eq_some_iff.1 h).1];exact h
theorem o5 {off m:Nat} {v:Value} [hN:Len N m] (h2:Nat.ble (a.length+m) off=true) (h:c[off-(a.length+m)]? =some v):(big a N c)[off]? =some v:=by
 have h2:=Nat.le_of_ble_eq_true h2
 have hN:=hN.here
 unfold big
 rw[List.getElem?_append_right (by omega),List.getElem?_append_right (by omega),hN,Nat.sub_sub];exact h
theorem Aq4:∀{l:List Value} {n:Nat} {r:List Value},take? l n=some r→r.length=n∧l.take n=r
 | l,0,r,h=>by simp only[take?,Option.some.injEq] at h;subst h;simp
 | [],n+1,r,h=>by simp [take?] at h
 | x::l,n+1,r,h=>by
   unfold take? at h
   split at h
   ·cases h
   ·rename_i l1 h1
    simp only[Option.some.injEq] at h
    subst h
    obtain⟨e1,e2⟩:=Aq4 h1
    simp [e1,e2]
theorem AM1:∀{l:List Value} {n:Nat} {r:List Value},r.length=n→l.take n=r→take? l n=some r
 | l,0,r,h,h2=>by have:=List.eq_nil_of_length_eq_zero h;subst this;unfold take?;rfl
 | [],n+1,r,h,h2=>by simp at h2;subst h2;simp at h
 | x::l,n+1,r,h,h2=>by
   rw[List.take_succ_cons] at h2
   subst h2
   unfold take?
   rw[AM1 (r:=l.take n) (by simpa using h) rfl]
theorem AZ9 {off sz:Nat} {r:List Value} (h:take? (a.drop off) sz=some r):take? ((big a N c).drop off) sz=some r:=by
 obtain⟨e1,e2⟩:=Aq4 h
 by_cases h0:sz=0
 ·subst h0;simp at e2;subst e2;unfold take?;rfl
 have h1:off+sz≤a.length:=by
  have:((a.drop off).take sz).length=sz:=by rw[e2,e1]
  simp at this;omega
 refine AM1 e1 ?_
 unfold big
 rw[List.drop_append_of_le_length (by omega),List.take_append_of_le_length (by simp;omega)];exact e2
theorem AI2 {off m:Nat} [hN:Len N m] (h:a.length=off):take? ((big a N c).drop off) m=some N:=by
 refine AM1 hN.here ?_
 unfold big
 rw[←h,List.drop_left,←hN.here,List.take_left]
theorem AD8 {off m sz:Nat} {r:List Value} [hN:Len N m] (h2:Nat.ble (a.length+m) off=true) (h:take? (c.drop (off-(a.length+m))) sz=some r):take? ((big a N c).drop off) sz=some r:=by
 have h2:=Nat.le_of_ble_eq_true h2
 have hN:=hN.here
 rw[show (big a N c).drop off=c.drop (off-(a.length+m)) from ?_]
 ·exact h
 unfold big
 rw[List.drop_append,List.drop_eq_nil_of_le (by omega),List.nil_append,List.drop_append,List.drop_eq_nil_of_le (by omega),List.nil_append,hN,Nat.sub_sub]
theorem Bx1 {off:Nat} {v:Value} {a':List Value} (h:set? a off v=some a'):(big a N c).set off v=big a' N c:=by
 obtain⟨e1,e2⟩:=AU4 h
 subst e1
 unfold big
 rw[List.set_append_left _ _ e2]
theorem Be7 {off m:Nat} {v:Value} {c':List Value} [hN:Len N m] (h2:Nat.ble (a.length+m) off=true) (h:set? c (off-(a.length+m)) v=some c'):(big a N c).set off v=big a N c':=by
 obtain⟨e1,e2⟩:=AU4 h
 have h2:=Nat.le_of_ble_eq_true h2
 have hN:=hN.here
 subst e1
 unfold big
 rw[List.set_append_right _ _ (by omega),List.set_append_right _ _ (by omega),hN,Nat.sub_sub]
theorem A40:∀(vs l:List Value) (k:Nat),k+vs.length≤l.length→putL? l k vs=some (l.take k++(vs++l.drop (k+vs.length)))
 | [],l,k,h=>by unfold putL?;simp
 | v::vs,l,k,h=>by
   rw[List.length_cons] at h
   have hk:k<l.length:=by omega
   have hs:set? l k v=some (l.set k v):=by
    have key:∀(l:List Value) (k:Nat),k<l.length→set? l k v=some (l.set k v):=by
     intro l
     induction l with
     | nil=>intro k h;simp at h
     | cons x l ih=>
       intro k h
       cases k with
       | zero=>rfl
       | succ k=>unfold set?;rw[ih k (by simpa using h)];rfl
    exact key l k hk
   unfold putL?
   rw[hs]
   dsimp only
   rw[A40 vs (l.set k v) (k+1) (by rw[List.length_set];omega)]
   congr 1
   have e1:(l.set k v).take (k+1)=l.take k++[v]:=by
    rw[List.take_set,List.take_succ_eq_append_getElem hk,List.set_append_right _ _ (by rw[List.length_take];omega),List.length_take,show k-min k l.length=0 from by omega]
    rfl
   have e2:(l.set k v).drop (k+1+vs.length)=l.drop (k+(v::vs).length):=by
    rw[List.drop_set_of_lt (by omega),List.length_cons]
    congr 1
    omega
   rw[e1,e2,List.append_assoc]
   rfl
theorem B57 {offs:List (Nat×Nat)} {l cs:List Value} {i off sz:Nat} {r:List (Nat×List Value)} (h1:offs[i]? =some (off,sz)) (h2:cs.length=sz) (h3:0<sz) (h4:off+sz≤l.length):AB6 offs l ((i,cs)::r)=AB6 offs (l.take off++(cs++l.drop (off+sz))) r:=by
 conv=>lhs;unfold AB6
 rw[h1]
 dsimp only
 rw[show Nat.beq cs.length sz=true from by rw[h2];exact Nat.beq_refl _,show Nat.blt 0 sz=true from by rw[Nat.blt_eq];exact h3]
 subst h2
 rw[A40 cs l off h4]
 rfl
theorem Aw4 {l l' vs:List Value} {off:Nat} (h:putL? l off vs=some l') (h0:vs≠[]):over l off vs=l'∧off+vs.length≤l.length:=by
 obtain⟨e1,e2,-⟩:=Ac8 vs l l' off 0 h
 have h0':vs.length≠0:=fun e=>h0 (List.eq_nil_of_length_eq_zero e)
 have e2:off+vs.length≤l.length:=by omega
 refine⟨?_,e2⟩
 have:=A40 vs l off e2
 rw[h] at this
 rw[Option.some.inj this]
 simp [over]
theorem Am5 {off:Nat} {vs a':List Value} (h:putL? a off vs=some a') (h0:vs≠[]):over (big a N c) off vs=big a' N c:=by
 obtain⟨e1,e2⟩:=Aw4 h h0
 rw[←e1]
 unfold over big
 rw[List.take_append_of_le_length (by omega),List.drop_append_of_le_length (by omega)]
 simp only[List.append_assoc]
theorem AI1 {vs:List Value} {m off:Nat} [hN:Len N m] (ho:a.length=off) (h:vs.length=m):over (big a N c) off vs=big a vs c:=by
 subst ho
 unfold over big
 rw[List.take_left,←List.drop_drop,List.drop_left,h,←hN.here,List.drop_left,List.append_assoc]
end
section
variable {P:Program} {G:Ctx} {n:Sz} {ops:Array Oper} {Q:Post} {s:Fm} {H:List Ent} {o:Oper} {rest:List Oper}
theorem AF4 {t t' sz:Nat} {x y:Operand} {b off:Nat} {cs cs' vs:List Value} {H':List Ent} (hg:o.guard=none) (ho:o.op= .store t x y) [h:Ag P t sz] (hx:ev s x=some (.pointer (some ⟨b,off,none⟩))) (hy:ev s y=some (.agg vs.toArray)) [hp:PickBlk H b t' cs H'] (h1:vs.all (·.oneCell')=true)
 (hv:vs.length=sz) (hl:off+sz≤cs.length) (hs:over cs off vs=cs') (hd:o.dst=none) (hk:SL P G n ops Q rest s (.blk b t' cs'::H')):SL P G n ops Q (o::rest) s H:=by
 subst hs
 exact AQ9 hg ho hx hy h1 hv hl hd hk
theorem AH2 {t t' sz:Nat} {x y:Operand} {b off:Nat} {cs cs' vs:List Value} {H':List Ent} (hg:o.guard=none) (ho:o.op= .store t x y) [h:Ag P t sz] (hx:ev s x=some (.pointer (some ⟨b,off,none⟩))) (hy:ev s y=some (.agg vs.toArray)) [hp:PickBlk H b t' cs H'] (h1:vs.all (·.oneCell')=true)
 (hv:vs.length=sz) (hz:Nat.blt 0 sz=true) (hs:putL? cs off vs=some cs') (hd:o.dst=none) (hk:SL P G n ops Q rest s (.blk b t' cs'::H')):SL P G n ops Q (o::rest) s H:=by
 have h0:vs≠[]:=fun e=>by subst e;subst hv;simp at hz
 obtain⟨e1,e2⟩:=Aw4 hs h0
 exact AF4 hg ho hx hy h1 hv (by omega) e1 hd hk
theorem y8 {t t' sz:Nat} {x y:Operand} {b:Nat} {cs cs':List Value} {H':List Ent} (hg:o.guard=none) (ho:o.op= .store t x y) [h:Ag P t sz] (hx:ev s x=some (.pointer (some ⟨b,0,none⟩))) (hy:ev s y=some (.agg cs'.toArray)) [hp:PickBlk H b t' cs H'] (h1:cs'.all (·.oneCell')=true)
 (hl':cs'.length=sz) (hl2':cs.length=sz) (hd:o.dst=none) (hk:SL P G n ops Q rest s (.blk b t' cs'::H')):SL P G n ops Q (o::rest) s H:=by
 obtain⟨d,-,-,h3⟩:=h.here
 exact AZ5 hg ho hx hy hp.here h1 (by rw[h3,hl']) (by rw[hl',hl2']) hd hk
theorem Al5 {t k e r clock:Nat} {kd:TypeDesc} {m x y:Operand} {es:Array MapEntry} {key v:Value} {H':List Ent} (hg:o.guard=none) (ho:o.op= .insert t m x y) [h:MapT P t k e kd] (hm:ev s m=some (.map (some r))) (hx:ev s x=some key) (hy:ev s y=some v) [hp:PickObj H r (.map es clock) H']
 (hn:Instr.findNow kd key es.toList 0=some none) (hd:o.dst=none) (hk:SL P G n ops Q rest s (.obj r (.map (es.push ⟨key,v,clock⟩) (clock+1))::H')):SL P G n ops Q (o::rest) s H:=by
 refine AE6 (.inl hg) fun act w ha hw K hK=>?_
 have hw1:=hw.pick hp.here
 have hb:w.heap[r]? =some (.map es clock):=(hw1.ok _ List.mem_cons_self).2
 have hrun:=Ar6 h hb (v:=v) hn
 unfold Oper.wp execOp
 simp only[ho,ha.ev hm,ha.ev hx,ha.ev hy,Sem.run_bind,hrun,Result.andThen_ok]
 exact hK _ _ (hk _ _ (by rw[hd];exact ha) (hw1.setObj _))
theorem Bu7 {x:Operand} {r bm since clock:Nat} {seen:Array Nat} {es:Array MapEntry} {y:MapEntry} (ho:o.op= .entry x) (hx:ev s x=some (.pointer (some ⟨r,0,none⟩))) [h1:HasObj H r (.mapIter (some bm) since (seen.push y.born) clock)] [h2:HasObj H bm (.map es clock)] (he:y∈es.toList) (hn:(es.toList.map (·.born)).Nodup):Yields P G n s H o (.tuple #[y.key,y.val]):=fun a w ha hw=>by
 have hr:w.heap[r]? =_:=(hw.ok _ h1.here).2
 have hb:w.heap[bm]? =_:=(hw.ok _ h2.here).2
 unfold execOp
 simp only[ho,ha.ev hx]
 exact Y0 (run_entry_at w r bm since seen es clock y hr hb he hn)
end
end Go.Sx
namespace Go.Proofs.YtmmnimagbnlcmaaGreatDoor
structure Scr where
 w:Nat
 h:Nat
 row:Int
 col:Int
 late:Bool
 top:Int
 bot:Int
 pf:Int
 pr:Int
 pb:Int
 modes:Int
 st:Nat→Nat
 p0:Int
 p1:Int
 sh:Int
 sr:Int
 sc:Int
 spf:Int
 spr:Int
 spb:Int
 so:Bool
 sp0:Int
 sp1:Int
 ssh:Int
 ti:ByteArray
 C:List Qd
 D:List Qd
 past:List (List Qd)
def scnC (s:Scr) (ga:Option Addr) (gn gc:Nat) (oa:Option Addr) (on oc:Nat) (pa:Option Addr) (pn pc:Nat):List Value:=
 (.int .i64 s.w:: .int .i64 s.h:: .slice ga gn gc:: .int .i64 s.row:: .int .i64 s.col:: .bool s.late:: .int .i64 s.top:: .int .i64 s.bot:: .int .i64 s.pf:: .int .i64 s.pr:: .int .i64 s.pb:: .int .i64 s.modes:: .int .u64 (s.st 0):: .int .u64 (s.st 1):: .int .u64 (s.st 2):: .int .u64 (s.st 3):: .int .i64 s.p0:: .int .i64 s.p1:: .int .i64 s.sh:: .int .i64 s.sr:: .int .i64 s.sc:: .int .i64 s.spf:: .int .i64 s.spr:: .int .i64 s.spb:: .bool s.so:: .int .i64 s.sp0:: .int .i64 s.sp1:: .int .i64 s.ssh:: .int .i64 s.w:: .int .i64 s.h:: .slice oa on oc:: .string s.ti:: .slice pa pn pc::[])
def newS (w h:Nat):Scr:=⟨w,h,0,0,false,0,h,0,0,0,12,usF 31,1,1,0,0,0,0,0,0,false,1,1,0,⟨#[]⟩,List.replicate (w * h) (32,0,0,0),List.replicate (w * h) (32,0,0,0),[]⟩
def scnZ:List Value:=(.int .i64 0:: .int .i64 0:: .slice none 0 0:: .int .i64 0:: .int .i64 0:: .bool false:: .int .i64 0:: .int .i64 0:: .int .i64 0:: .int .i64 0:: .int .i64 0:: .int .i64 0:: .int .u64 0:: .int .u64 0:: .int .u64 0:: .int .u64 0:: .int .i64 0:: .int .i64 0:: .int .i64 0:: .int .i64 0:: .int .i64 0:: .int .i64 0:: .int .i64 0:: .int .i64 0:: .bool false:: .int .i64 0:: .int .i64 0:: .int .i64 0:: .int .i64 0:: .int .i64 0:: .slice none 0 0:: .string .empty:: .slice none 0 0::[])
section
attribute [local irreducible] SW SL SQ AtQ SV SC BB LD PK Yields SO SOT SOA SY SP SPT SPA usF
theorem Ax7 (G:Ctx) (H:List Ent) (w h:Nat) (hw:1≤w∧w≤160) (hh:1≤h∧h≤60):SC Tryz.prog G 45 [.int .i64 w,.int .i64 h] H fun v H'=>∃ga oa c,v= .tuple #[.agg (scnC (newS w h) ga (w * h) (w * h) oa (w * h) c none 0 0).toArray,.int .i64 0]∧H'= .own 97 4 oa (w * h) c (qds (newS w h).D):: .own 97 4 ga (w * h) (w * h) (qds (newS w h).C)::H:=by
 have hp:w * h≤100000:=Nat.le_trans (Nat.mul_le_mul hw.2 hh.2) (by decide)
 have cN:=fun H=>CA7 G H w h 0 0 0 hw hh (by decide+kernel)
 have cC:=fun (H:List Ent) {vs:List Value} (a:Option Addr) [RdC G H a vs] (hv:vs=qds (List.replicate (w * h) (32,0,0,0)))=>AV6 G H (List.replicate (w * h) (32,0,0,0)) (w:Int) (h:Int) a (w * h) (w * h) hv (by simp) hp
 have cU:=fun H=>Bh3 G H
 have hC:(newS w h).C=List.replicate (w * h) (32,0,0,0):=rfl
 have hD:(newS w h).D=List.replicate (w * h) (32,0,0,0):=rfl
 rw[hC,hD]
 have hscr:∀ga oa c p,p=w * h→scnC (newS w h) ga p p oa p c none 0 0=(.int .i64 w:: .int .i64 h:: .slice ga p p:: .int .i64 0:: .int .i64 0:: .bool false:: .int .i64 0:: .int .i64 h:: .int .i64 0:: .int .i64 0:: .int .i64 0:: .int .i64 12:: .int .u64 (usF 31 0):: .int .u64 (usF 31 1):: .int .u64 (usF 31 2):: .int .u64 (usF 31 3):: .int .i64 1:: .int .i64 1:: .int .i64 0:: .int .i64 0:: .int .i64 0:: .int .i64 0:: .int .i64 0:: .int .i64 0:: .bool false:: .int .i64 1:: .int .i64 1:: .int .i64 0:: .int .i64 w:: .int .i64 h:: .slice oa p c:: .string ⟨#[]⟩:: .slice none 0 0::[]):=fun _ _ _ _ _=>rfl
 generalize hP:w * h=p at *
 generalize List.replicate p ((32,0,0,0):Qd)=L at *
 refine I7 Tryz.func45 O O O O O ?_
 repeat' (first|(apply E8;first|(apply A8;refine A9 ?_)|(apply C8;refine D7 O O ?_)|(apply E5;refine F7 O O O ?_;refine F9 O ?_)|(apply D5;refine D9 O O ?_)|(apply U7;refine X7 (M0 O O O) O ?_)|(apply U0;refine U6 (Q9 O O O) O ?_)|(apply H5;refine c_call O O O (cN _) O O ?_;rintro _ _ ⟨b,rfl,rfl⟩)|(apply H8;refine Q8 O O O O O O O O ?_)|(apply O6;refine Q4 O O O O (fun _=>?_)))|(apply D6)|(apply G8)|((fail_if_success (refine J5 (id:=5) ?_));apply A7)|(refine G5 O ?_;apply H7)|(apply C9))
 rename_i b1 b2 b3
 repeat' (first|(apply E8;first|(apply A8;refine A9 ?_)|(apply H5;first|refine H6 O O O (cU _) O O ?_ |(refine c_call O O O (cC _ _ O) O O ?_;rintro _ _ ⟨oa,c,rfl,rfl⟩))|(apply H8;refine Q8 O O O O O O O O ?_))|(apply Q0;refine N8 (k:=0) J3 ?_)|(apply U3;first|(refine L8 O ?_)|(refine O4 O O O O (by kernel_rfl) (by decide+kernel) (by decide+kernel) ?_;first|(apply O1;refine G9 (P9 O O) ?_)|(apply R9;refine R6 O ?_;refine M5 O ?_)|(apply AA4;refine G9 (o6 O O) ?_)|(apply AM5;refine G9 (Q9 O O O) ?_))|(refine O5 O ?_)|(refine N9 (by decide+kernel) ?_)|(refine Q6 (by kernel_rfl) ?_))|(apply V3;first|(refine Q5 O)|(refine U1 (by decide+kernel) ?_)|(refine Q3 O ?_ ?_))|(apply I4)|(apply C9)|(refine J5 (id:=5) ?_;refine Z6 (.blk b3 36 [.int .i64 1,.int .i64 1]:: .blk b2 29 [.int .i64 w,.int .i64 h,.slice (some ⟨b,0,none⟩) p p]:: .own 97 4 (some ⟨b,0,none⟩) p p (qds L)::H) J3 ?_))
 refine AB4 (.own 97 4 oa p c (qds L):: .own 97 4 (some ⟨b,0,none⟩) p p (qds L)::H) (by (exact .inr O)) O (by (rfl)) O J3 ?_
 exact⟨some ⟨b,0,none⟩,oa,c,by rw[hscr _ _ _ _ rfl];rfl,rfl⟩
end
def trmC (s:Scr) (ga:Option Addr) (gn gc:Nat) (oa:Option Addr) (on oc:Nat) (pa:Option Addr) (pn pc:Nat) (t:ByteArray):List Value:=
 (.int .i64 s.w:: .int .i64 s.h:: .slice ga gn gc:: .int .i64 s.row:: .int .i64 s.col:: .bool s.late:: .int .i64 s.top:: .int .i64 s.bot:: .int .i64 s.pf:: .int .i64 s.pr:: .int .i64 s.pb:: .int .i64 s.modes::
  .int .u64 (s.st 0):: .int .u64 (s.st 1):: .int .u64 (s.st 2):: .int .u64 (s.st 3):: .int .i64 s.p0:: .int .i64 s.p1:: .int .i64 s.sh:: .int .i64 s.sr:: .int .i64 s.sc:: .int .i64 s.spf:: .int .i64 s.spr:: .int .i64 s.spb:: .bool s.so:: .int .i64 s.sp0:: .int .i64 s.sp1:: .int .i64 s.ssh::
  .int .i64 s.w:: .int .i64 s.h:: .slice oa on oc:: .string s.ti:: .slice pa pn pc:: .string t::[])
def AI7 (n lo hi:Int):Int:=max lo (min n hi)
section
attribute [local irreducible] SW SL SQ AtQ SV SC BB LD PK Yields SO SOT SOA SY SP SPT SPA
theorem Ak4 (G:Ctx) (H:List Ent) (n lo hi:Int):SV Tryz.prog G 207 [.int .i64 n,.int .i64 lo,.int .i64 hi] H (.int .i64 (AI7 n lo hi)):=by
 refine AF2 Tryz.func207 O O O O O ?_
 repeat' (first|(apply E8;first|(apply A8;refine A9 ?_)|(apply C8;refine D7 O O ?_)|(apply D5;refine D9 O O ?_)|(apply K5;first|(refine s_call (AS6 O O O) O ?_)|refine s_call (B75 O O O O) O ?_))|(apply D6)|(apply I4)|(apply A7)|(apply C9))
 have e:(if hi<n then hi else n)=min n hi:=by split<;>omega
 rw[e]
 refine N7 (by (exact .inr O)) O O0 ?_
 rfl
theorem AJ5 (G:Ctx) (H:List Ent) (s:Scr) (tb:Nat) (ga:Option Addr) (gn gc:Nat) (oa:Option Addr) (on oc:Nat) (pa:Option Addr) (pn pc:Nat) (t:ByteArray) [hb:HasBlk H tb 158 (trmC s ga gn gc oa on oc pa pn pc t)]:SV Tryz.prog G 156 [.pointer (some ⟨tb,0,none⟩)] H (penV 0 0 s.pb):=by
 refine P8 Tryz.func156 O O O O O ?_
 repeat' (first|(apply E8;first|(apply A8;refine A9 ?_)|(apply C8;refine D7 O O ?_)|(apply F5;refine F8 O O ?_;refine F4 O ?_)|(apply G6;first|refine G7 (D8 O O) O ?_ |refine G7 (AB5 O O) O ?_)|(apply U0;refine U6 (Q9 O O O) O ?_)|(apply I9;refine J7 (F6 O O) O ?_)|(apply H8;refine Q8 O O O O O O O O ?_)|(apply O6;refine Q4 O O O O (fun _=>?_)))|(apply D6)|(apply I4)|(apply A7)|(apply C9))
 refine AB4 (H) (by (exact .inr O)) O (by (rfl)) O J3 ?_
 exact⟨O,O⟩
def setM (modes m:Int) (on:Bool):Int:=if on then ior (iclr modes m) m else iclr modes m
theorem As4 (G:Ctx) (H:List Ent) (s:Scr) (m:Int) (on':Bool) (tb:Nat) (ga:Option Addr) (gn gc:Nat) (oa:Option Addr) (on oc:Nat) (pa:Option Addr) (pn pc:Nat) (t:ByteArray) (h1:0≤s.modes∧s.modes≤2047) (h2:0≤m∧m≤2047):SC Tryz.prog G 163 [.pointer (some ⟨tb,0,none⟩),.int .i64 m,.bool on'] (.blk tb 158 (trmC s ga gn gc oa on oc pa pn pc t)::H) fun v H'=>v=resV []∧H'= .blk tb 158 (trmC {s with modes:=setM s.modes m on'} ga gn gc oa on oc pa pn pc t)::H:=by
 unfold trmC setM
 cases on'
 all_goals
  refine U4 Tryz.func163 O O O O O ?_
  repeat' (first|(apply E8;first|(apply A8;refine A9 ?_)|(apply C8;refine D7 O O ?_)|(apply E5;refine F7 O O O ?_;first|(apply Bp6;refine Bp5 (by (apply BE8)) (by (apply BZ9<;>omega)) (by (omega)) (by (omega)) ?_)|(apply Af5;refine Ae5 (by (omega)) (by (omega)) (by (omega)) (by (omega)) ?_))|(apply F5;refine F8 O O ?_;refine F4 O ?_)|(apply G6;refine G7 (D8 O O) O ?_)|(apply I9;refine J7 (F6 O O) O ?_)|(apply H8;refine M9 O O O O O O O ?_))|(apply D6)|(apply G8)|(apply A7)|(refine G5 O ?_;first|(apply I1)|(apply H7))|(apply C9))
  refine AI9 (_::H) (by (exact .inl O)) O (List.Sublist.cons_cons _ O0) ?_
  exact⟨O,O⟩
theorem AP0 (G:Ctx) (H:List Ent) (s:Scr) (c:Int) (tb:Nat) (ga:Option Addr) (gn gc:Nat) (oa:Option Addr) (on oc:Nat) (pa:Option Addr) (pn pc:Nat) (t:ByteArray) (hw:s.w≤1000):SC Tryz.prog G 152 [.pointer (some ⟨tb,0,none⟩),.int .i64 c] (.blk tb 158 (trmC s ga gn gc oa on oc pa pn pc t)::H) fun v H'=>v=resV []∧H'= .blk tb 158 (trmC {s with late:=false,col:=AI7 c 0 ((s.w:Int)-1)} ga gn gc oa on oc pa pn pc t)::H:=by
 have cL:=fun H n lo hi=>Ak4 G H n lo hi
 unfold trmC
 refine I7 Tryz.func152 O O O O O ?_
 repeat' (first|(apply E8;first|(apply A8;refine A9 ?_)|(apply C8;refine D7 O O ?_)|(apply E5;refine F7 O O O ?_;apply U8;refine V4 ⟨by omega,by omega⟩ ?_)|(apply F5;refine F8 O O ?_;refine F4 O ?_)|(apply G6;refine G7 (D8 O O) O ?_)|(apply I9;refine J7 (F6 O O) O ?_)|(apply H5;refine H6 O O O (cL _ _ _ _) O O ?_)|(apply H8;refine M9 O O O O O O O ?_))|(apply D6)|(apply A7)|(apply C9))
 refine AI9 (_::H) (by (exact .inl O)) O (List.Sublist.cons_cons _ O0) ?_
 exact⟨O,O⟩
end
end Go.Proofs.YtmmnimagbnlcmaaGreatDoor
namespace Go.Fw
def rowOk (wd:Int→Int) (R:List Qd):Prop:=∀i,i<R.length→loneB wd R i=false
theorem AH0 (wd:Int→Int) (R:List Qd):(mendQ wd R).length=R.length:=AA9 _ _ _
theorem An6 (wd:Int→Int) (R:List Qd) (i:Nat) (hi:i<R.length):(mendQ wd R).getD i qz=mendC wd R i:=by
 unfold mendQ;rw[AI0 _ _ _ _ hi,if_pos hi]
theorem Bp1 {wd:Int→Int} (h32:wd 32=1) (h0:wd 0≠2) (R:List Qd):rowOk wd (mendQ wd R):=by
 intro i hi
 rw[AH0] at hi
 have g:=An6 wd R
 --a cell behind the mending:its rune,its pen
 have pen:∀j,j<R.length→((mendQ wd R).getD j qz).2=(R.getD j qz).2:=fun j hj=>by rw[g j hj];unfold mendC;split<;>rfl
 have rl:∀j,j<R.length→loneB wd R j=true→((mendQ wd R).getD j qz).1=32:=fun j hj h=>by rw[g j hj];unfold mendC;rw[if_pos h]
 have rn:∀j,j<R.length→loneB wd R j=false→(mendQ wd R).getD j qz=R.getD j qz:=fun j hj h=>by rw[g j hj];unfold mendC;rw[if_neg (by rw[h];simp)]
 cases hl:loneB wd R i with
 | true=>
   have h1:=rl i hi hl
   unfold loneB
   rw[if_neg (by rw[h1];decide),h1,decide_eq_false]
   rintro ⟨h2,-⟩
   rw[h32] at h2
   cases h2
 | false=>
   have e:=rn i hi hl
   unfold loneB
   rw[e]
   unfold loneB at hl
   by_cases hz:(R.getD i qz).1=0
   ·rw[if_pos hz] at hl ⊢
    have hl:=of_decide_eq_false hl
    have hi0:i≠0:=fun h=>hl (.inl h)
    have hw:wd (R.getD (i-1) qz).1=2:=Classical.byContradiction fun h=>hl (.inr (.inl h))
    have ht:tailP R i:=Classical.byContradiction fun h=>hl (.inr (.inr h))
    --its head is no half of nothing
    have hz1:(R.getD (i-1) qz).1≠0:=fun h=>h0 (h▸hw)
    have hh:loneB wd R (i-1)=false:=by
     unfold loneB
     rw[if_neg hz1,decide_eq_false]
     rintro ⟨-,h⟩
     rw[show i-1+1=i from by omega] at h
     exact h ht
    have e1:=rn (i-1) (by omega) hh
    rw[e1,decide_eq_false]
    rintro (h|h|h)
    ·exact hi0 h
    ·exact h hw
    ·apply h
     obtain⟨t1,t2,t3⟩:=ht
     refine⟨by rw[AH0];exact t1,by rw[e];exact t2,by rw[e,e1];exact t3⟩
   ·rw[if_neg hz] at hl ⊢
    have hl:=of_decide_eq_false hl
    rw[decide_eq_false]
    rintro ⟨h1,h2⟩
    have ht:tailP R (i+1):=Classical.byContradiction fun h=>hl ⟨h1,h⟩
    apply h2
    obtain⟨t1,t2,t3⟩:=ht
    have hh:loneB wd R (i+1)=false:=by
     unfold loneB
     rw[if_pos t2,decide_eq_false]
     rintro (h|h|h)
     ·omega
     ·rw[show i+1-1=i from by omega] at h;exact h h1
     ·exact h ⟨t1,t2,t3⟩
    have e1:=rn (i+1) t1 hh
    refine⟨by rw[AH0];exact t1,by rw[e1];exact t2,?_⟩
    rw[e1,show i+1-1=i from by omega,e]
    rw[show i+1-1=i from by omega] at t3
    exact t3
end Go.Fw
namespace Go.Proofs.YtmmnimagbnlcmaaGreatDoor
def celOk (q:Qd):Bool:=penB q.2.1 q.2.2.1 q.2.2.2&&(decide (q.1=0)||!decide (J2 q.1=0))
theorem AT8 (R:List Qd) (i:Nat):AB3 R i=true↔celOk (R.getD i qz)=true∧loneB J2 R i=false:=by
 unfold AB3 celOk
 simp only[Bool.and_eq_true,Bool.not_eq_true']
 exact⟨fun ⟨a,b,c⟩=>⟨⟨a,b⟩,c⟩,fun ⟨⟨a,b⟩,c⟩=>⟨a,b,c⟩⟩
theorem w32:J2 32=1:=by decide+kernel
theorem w0:J2 0≠2:=by decide+kernel
theorem Bm3 {R:List Qd} (h:∀i,i<R.length→penB (R.getD i qz).2.1 (R.getD i qz).2.2.1 (R.getD i qz).2.2.2=true∧((R.getD i qz).1=0∨J2 (R.getD i qz).1≠0)):∀i,i<R.length→AB3 (mendQ J2 R) i=true:=fun i hi=>by
 rw[AT8]
 refine⟨?_,Bp1 w32 w0 R i (by rw[AH0];exact hi)⟩
 rw[An6 _ _ _ hi]
 obtain⟨h1,h2⟩:=h i hi
 unfold mendC celOk
 split
 ·dsimp only
  rw[h1,show decide (J2 32=0)=false from by rw[w32];rfl]
  simp
 ·rw[h1]
  rcases h2 with h2|h2
  ·rw[decide_eq_true h2];rfl
  ·rw[decide_eq_false h2];simp
def AV4 (R:List Qd):Prop:=∀q∈R,celOk q=true
theorem AL5 (q:Qd):celOk q=true↔penB q.2.1 q.2.2.1 q.2.2.2=true∧(q.1=0∨J2 q.1≠0):=by
 unfold celOk
 rw[Bool.and_eq_true,Bool.or_eq_true,decide_eq_true_eq,Bool.not_eq_true',decide_eq_false_iff_not]
theorem Bh9 {R:List Qd} {i:Nat} (hi:i<R.length):R.getD i qz∈R:=by
 rw[List.getD_eq_getElem?_getD,List.getElem?_eq_getElem hi];exact List.getElem_mem hi
theorem Bb5 {R:List Qd} (h:AV4 R):∀i,i<R.length→AB3 (mendQ J2 R) i=true:=
 Bm3 fun i hi=>(AL5 _).1 (h _ (Bh9 hi))
theorem Al7 {R:List Qd} {i:Nat} {q:Qd} (h:AV4 R) (hq:celOk q=true):AV4 (R.set i q):=fun x hx=>by
 rcases List.mem_or_eq_of_mem_set hx with h1|h1
 ·exact h x h1
 ·rw[h1];exact hq
theorem BT1 {R:List Qd} {c:Nat} {r x y z:Int} (h:AV4 R) (hp:penB x y z=true) (hr:J2 r≠0):AV4 (putQ J2 R c r x y z):=by
 unfold putQ
 split
 ·exact Al7 (Al7 h ((AL5 _).2 ⟨hp,.inr hr⟩)) ((AL5 _).2 ⟨hp,.inl O⟩)
 ·exact Al7 h ((AL5 _).2 ⟨hp,.inr hr⟩)
structure GrOk (w h:Nat) (C:List Qd):Prop where
 size:(1≤w∧w≤160)∧(1≤h∧h≤60)
 len:C.length=w * h
 cell:∀k,k<h→∀i,i<w→AB3 (rowQ w C k) i=true
theorem GrOk.e {w h:Nat} {C:List Qd} (g:GrOk w h C):gridE w h C=0:=by
 refine An1 ?_ g.len g.cell
 rcases Ac6 (w:Int) (h:Int) with ⟨h1,_⟩|⟨_,h1⟩
 ·exact h1
 ·have:=g.size;omega
theorem GrOk.len1 {w h:Nat} {C:List Qd} (g:GrOk w h C):C.length≤100000:=by
 rw[g.len];exact Nat.le_trans (Nat.mul_le_mul g.size.1.2 g.size.2.2) (by decide)
theorem GrOk.cels {w h:Nat} {C:List Qd} (g:GrOk w h C) {k:Nat} (hk:k<h):AV4 (rowQ w C k):=fun q hq=>by
 obtain⟨i,hi,rfl⟩:=List.mem_iff_getElem.1 hq
 rw[j6 hk g.len] at hi
 have:=(AT8 _ _).1 (g.cell k hk i hi)
 rw[List.getD_eq_getElem?_getD,List.getElem?_eq_getElem (by rw[j6 hk g.len];exact hi)] at this
 exact this.1
theorem GrOk.put {w h:Nat} {C:List Qd} (g:GrOk w h C) {k:Nat} (hk:k<h) {A R B R':List Qd} (hC:C=A++R++B) (hA:A.length=k * w) (hR:R.length=w) (hR':R'.length=w) (ho:∀i,i<w→AB3 R' i=true):GrOk w h (A++R'++B):=by
 have hl:(A++R'++B).length=w * h:=by rw[←g.len,hC];simp [hR,hR']
 refine⟨g.size,hl,fun j hj i hi=>?_⟩
 by_cases e:j=k
 ·subst e
  have:rowQ w (A++R'++B) j=R':=by
   unfold rowQ
   rw[←hA,List.append_assoc,List.drop_left,←hR',List.take_left]
  rw[this]
  exact ho i hi
 ·have:rowQ w (A++R'++B) j=rowQ w C j:=by
   have hm:∀x y:Nat,x<y→x * w+w≤y * w:=fun x y h=>by
    have:=Nat.mul_le_mul_right w h
    rw[Nat.succ_mul] at this
    exact this
   subst hC
   unfold rowQ
   rcases Nat.lt_or_ge j k with h1|h1
   ·have:=hm j k h1
    rw[List.append_assoc,List.append_assoc,List.drop_append_of_le_length (by omega),List.drop_append_of_le_length (by omega),List.take_append_of_le_length (by simp;omega),List.take_append_of_le_length (by simp;omega)]
   ·have:=hm k j (by omega)
    have d1:∀X:List Qd,X.length=w→(A++X++B).drop (j * w)=B.drop (j * w-(k * w+w)):=fun X hX=>by
     have hl:(A++X).length=k * w+w:=by rw[List.length_append,hA,hX]
     rw[List.drop_append,List.drop_eq_nil_of_le (by omega),List.nil_append,hl]
    rw[d1 R' hR',d1 R hR]
  rw[this]
  exact g.cell j hj i hi
end Go.Proofs.YtmmnimagbnlcmaaGreatDoor
namespace Go.Fw
section
variable {α:Type} (d:α)
def genL (L:List α) (f t:Nat) (g:Nat→α):List α:=(List.range L.length).map fun i=>if f≤i∧i<t then g i else L.getD i d
theorem AC4 (L:List α) (f t:Nat) (g:Nat→α):(genL d L f t g).length=L.length:=by simp [genL]
theorem AU1 {L:List α} {f t i:Nat} {g:Nat→α} (hi:i<L.length):(genL d L f t g)[i]? =some (if f≤i∧i<t then g i else L.getD i d):=by
 unfold genL
 rw[List.getElem?_map,List.getElem?_range hi,Option.map_some]
theorem getD_some {L:List α} {i:Nat} (hi:i<L.length):L[i]? =some (L.getD i d):=by
 rw[List.getD_eq_getElem?_getD,List.getElem?_eq_getElem hi,Option.getD_some]
theorem A47 {L:List α} {f t:Nat} {g:Nat→α} (h:t≤f):genL d L f t g=L:=by
 apply List.ext_getElem?
 intro i
 rcases Nat.lt_or_ge i L.length with hi|hi
 ·rw[AU1 d hi,if_neg (by omega),getD_some d hi]
 ·rw[List.getElem?_eq_none (by rw[AC4];exact hi),List.getElem?_eq_none hi]
theorem A49 {L:List α} {f t:Nat} {g:Nat→α} (hf:f≤t):(genL d L f t g).set t (g t)=genL d L f (t+1) g:=by
 apply List.ext_getElem?
 intro i
 rcases Nat.lt_or_ge i L.length with hi|hi
 ·rw[List.getElem?_set,AU1 d hi,AU1 d hi,AC4]
  by_cases e:t=i
  ·subst e
   rw[if_pos rfl,if_pos hi,if_pos (by omega)]
  ·rw[if_neg e]
   by_cases h:f≤i∧i<t
   ·rw[if_pos h,if_pos (by omega)]
   ·rw[if_neg h,if_neg (by omega)]
 ·rw[List.getElem?_eq_none (by rw[List.length_set,AC4];exact hi),List.getElem?_eq_none (by rw[AC4];exact hi)]
end
end Go.Fw
namespace Go.Proofs.YtmmnimagbnlcmaaGreatDoor
section
attribute [local irreducible] SW SL SQ AtQ SV SC BB LD PK Yields SO SOT SOA SY SP SPT SPA
theorem AV3 (G:Ctx) (H:List Ent) (b w h n c k p:Nat) (hp:(k:Int) * (w:Int)=(p:Int)) (hp2:((k:Int)+1) * (w:Int)=((p+w:Nat):Int)) (hm:n≤100000) (hn:p+w≤n) (hnc:n≤c) (hw:1≤w) (hk:k≤1000):SV Tryz.prog G 65 [gridV w h (some ⟨b,0,none⟩) n c,.int .i64 k] H (.slice (some ⟨b,p * 4,none⟩) w (c-p)):=by
 have e:Value.slice (some ⟨b,p * 4,none⟩) w (c-p)= .slice (some ⟨b,((k:Int) * (w:Int)).toNat * 4,none⟩) ((((k:Int)+1) * (w:Int)).toNat-((k:Int) * (w:Int)).toNat) (c-((k:Int) * (w:Int)).toNat):=by
  rw[hp,hp2,Int.toNat_natCast,Int.toNat_natCast,Nat.add_sub_cancel_left]
 rw[e]
 refine R3 Tryz.func65 O O O O O ?_
 repeat' (first|(apply E8;first|(apply A8;refine A9 ?_)|(apply C8;refine D7 O O ?_)|(apply E5;refine F7 O O O ?_;first|(refine AS7 ⟨by omega,by omega⟩ ?_)|(apply K9;refine L6 ⟨by omega,by omega⟩ ?_))|(apply F5;refine F8 O O ?_;refine F4 O ?_)|(apply D5;refine D9 O O ?_)|(apply G6;refine G7 (D8 O O) O ?_)|(apply K6;refine L9 O O O O O O (fun _=>?_))|(apply r9;refine AL0 (Af1 O O O O (by omega) (by omega) (by omega) (by omega)) O ?_))|(apply D6)|(apply I4)|(apply A7)|(apply C9))
 all_goals (refine N7 (by (exact .inr O)) O O0 ?_;rfl)
theorem BX8 (G:Ctx) (H:List Ent) (A R B:List Qd) (b w h n c k f t:Nat) (x y z:Int) (hA:A.length=k * w) (hR:R.length=w) (hn:n=(A++R++B).length) (hm:n≤100000) (hnc:n≤c) (hw:1≤w) (hk:k≤1000) (hft:f≤t) (ht:t≤w):SC Tryz.prog G 254 [gridV w h (some ⟨b,0,none⟩) n c,.int .i64 k,.int .i64 f,.int .i64 t,penV x y z] (.own 97 4 (some ⟨b,0,none⟩) n c (qds A++qds R++qds B)::H) fun v H'=>v= .tuple #[]∧H'= .own 97 4 (some ⟨b,0,none⟩) n c (qds A++qds (mendQ J2 (genL qz R f t fun _=>(32,x,y,z)))++qds B)::H:=by
 have e1:(k:Int) * (w:Int)=((k * w:Nat):Int):=by simp
 have e2:((k:Int)+1) * (w:Int)=((k * w+w:Nat):Int):=by rw[Int.add_mul];simp
 have hpn:k * w+w≤n:=by rw[hn,List.length_append,List.length_append];omega
 have cR:=fun H=>AV3 G H b w h n c k (k * w) e1 e2 hm hpn hnc hw hk
 have cP:=fun (H:List Ent) (R':List Qd) (hR':R'.length=w)=>Ae8 G H A R' B b (k * w * 4) w n c (c-k * w) (by rw[hA]) hR'.symm ⟨hw,by omega⟩
 have cB:=fun H=>AZ7 G H x y z
 have hrd:=fun (R':List Qd) (h:R'.length=w) (H:List Ent)=>Af2 (Ad9 (G:=G) (e:=97) (sz:=4) (len:=n) (c:=c) (b:=b) (xs:=qds A) (ys:=qds R') (zs:=qds B) (us:=[]) (H:=H) (k * w * 4) (by rw[X6,hA]) (by rw[X6];omega))
 have hov:=fun (R':List Qd) (hR':R'.length=w) (i:Int) (q:Qd) (hi:i.toNat<w)=>show over (qds A++qds R'++qds B) (k * w * 4+i.toNat * 4) (qd q)=qds A++qds (R'.set i.toNat q)++qds B from by
  rw[←hA];exact AI1 q (by rw[hR'];exact hi)
 have hll:=fun (R':List Qd) (hR':R'.length=w) (i:Int) (hi:i.toNat<w)=>show k * w * 4+i.toNat * 4+4≤(qds A++qds R'++qds B).length from by
  rw[List.length_append,List.length_append,X6,X6,hA,hR'];omega
 have hgl:=fun j=>(AC4 qz R f j fun _=>((32,x,y,z):Qd)).trans hR
 generalize k * w=p at *
 clear e1 e2 hn hA
 haveI:=hrd R hR
 refine AR9 Tryz.func254 O O O O O ?_
 repeat' (first|(apply E8;first|(apply A8;refine A9 ?_)|(apply C8;refine D7 O O ?_)|(apply F5;refine F8 O O ?_;refine M5 O ?_)|(apply D5;refine D9 O O ?_)|(apply H5;refine H6 O O O (cR _) O O ?_)|(apply K6;refine L9 O O O O O O (fun _=>?_)))|(apply D6)|(apply F3)|(apply A7)|(apply C9))
 rename_i b5 b9
 refine R7 (α:=Nat) (fun j=>[(3,.int .i64 t),(9,.pointer (some ⟨b9,0,none⟩)),(10,.slice (some ⟨b,p * 4,none⟩) w (c-p)),(11,.int .i64 j)]) (fun j=> .own 97 4 (some ⟨b,0,none⟩) n c (qds A++qds (genL qz R f j fun _=>(32,x,y,z))++qds B):: .blk b9 31 [.int .i64 x,.int .i64 y,.int .i64 z]::H)
  (fun j=>f≤j∧j≤t) (fun j=>t-j) f ⟨Nat.le_refl _,hft⟩ Q7 (by rw[A47 qz (Nat.le_refl _)];exact J3) ?_
 rintro j ⟨hfj,hjt⟩
 by_cases hlt:(j:Int)<t
 ·have hgj:=hgl j
  have hl1:(qds (genL qz R f j fun _=>((32,x,y,z):Qd))).length=w * 4:=by rw[X6,hgj]
  have l1:=hll _ hgj (j:Int) (by omega)
  have o1:over (qds A++qds (genL qz R f j fun _=>((32,x,y,z):Qd))++qds B) (p * 4+(j:Int).toNat * 4) (qd (32,x,y,z))=qds A++qds (genL qz R f (j+1) fun _=>(32,x,y,z))++qds B:=by
   rw[hov _ hgj (j:Int) (32,x,y,z) (by omega),Int.toNat_natCast,←A49 qz hfj]
  haveI:=hrd _ hgj
  clear hov hll hgl hrd cR cP
  repeat' (first|(apply E8;first|(apply A8;refine A9 ?_)|(apply C8;refine D7 O O ?_)|(apply E5;refine F7 O O O ?_;first|(apply K9;refine L6 ⟨by omega,by omega⟩ ?_)|refine F9 O ?_)|(apply F5;refine F8 O O ?_;refine M5 O ?_)|(apply D5;refine D9 O O ?_)|(apply M4;refine M8 (K7 O O O hl1 (by omega) (by omega)) O ?_)|(apply H5;refine H6 O O O (cB _) O O ?_)|(apply H8;refine AP4 O O O O O O (Nat.zero_lt_succ 3) l1 O ?_;rw[o1]))|(apply D6)|(apply G8)|(apply F3)|(apply A7)|(refine G5 O ?_;apply E9<;>intro hq<;>(try (exfalso;omega)))|(apply C9)|(apply H9))
  exact J6 (j+1) ⟨⟨by omega,by omega⟩,by omega⟩ Q7 J3
 ·obtain rfl:j=t:=by omega
  have cPj:=fun H=>cP H _ (hgl j)
  clear hov hll hrd cR cP
  repeat' (first|(apply E8;first|(apply A8;refine A9 ?_)|(apply C8;refine D7 O O ?_)|(apply E5;refine F7 O O O ?_;refine F9 O ?_)|(apply H5;refine c_call O O O (o7 PickOwn.here (cPj _)) O O ?_;rintro _ _ ⟨rfl,rfl⟩))|(apply D6)|(apply O7)|(apply A7)|(refine G5 O ?_;apply E9<;>intro hq<;>(try (exfalso;omega)))|(apply C9)|(apply K3)|(apply K4))
  refine AI9 (_::H) (by (exact .inl O)) O (List.Sublist.cons_cons _ O0) ?_
  exact⟨O,O⟩
theorem Bw0 (C:List Qd) (p w:Nat):qds C=qds (C.take p)++qds ((C.drop p).take w)++qds (C.drop (p+w)):=by
 rw[←Z4,←Z4,List.append_assoc,←List.drop_drop,List.take_append_drop,List.take_append_drop]
def rowC (C:List Qd) (w k:Nat) (M:List Qd):List Qd:=C.take (k * w)++M++C.drop (k * w+w)
end
end Go.Proofs.YtmmnimagbnlcmaaGreatDoor
namespace Go.Fw
section
variable {α:Type} (d:α)
def movAt (L:List α) (n:Int) (q:α) (i:Nat):α:=if 0≤(i:Int)-n∧(i:Int)-n<L.length then L.getD ((i:Int)-n).toNat d else q
def movL (L:List α) (n:Int) (q:α):List α:=(List.range L.length).map (movAt d L n q)
theorem AW4 (L:List α) (n:Int) (q:α):(movL d L n q).length=L.length:=by simp [movL]
theorem Au3 {L:List α} {n:Int} {q:α} {i:Nat} (hi:i<L.length):(movL d L n q).take (i+1)=(movL d L n q).take i++[movAt d L n q i]:=by
 rw[List.take_succ_eq_append_getElem (by rw[AW4];exact hi)]
 congr 2
 simp [movL]
theorem BK7 {L:List α} {f t:Nat} {g:Nat→α} (hft:f≤t) (ht:t≤L.length):genL d L f t g=L.take f++(List.range (t-f)).map (fun i=>g (f+i))++L.drop t:=by
 apply List.ext_getElem?
 intro i
 rcases Nat.lt_or_ge i f with h1|h1
 ·rw[AU1 d (by omega),if_neg (by omega),List.append_assoc,List.getElem?_append_left (by rw[List.length_take];omega),List.getElem?_take_of_lt h1,getD_some d (by omega)]
 ·rcases Nat.lt_or_ge i t with h2|h2
  ·rw[AU1 d (by omega),if_pos ⟨h1,h2⟩,List.getElem?_append_left (by simp;omega),List.getElem?_append_right (by simp;omega),List.getElem?_map,List.length_take,Nat.min_eq_left (by omega),List.getElem?_range (by omega),Option.map_some,show f+(i-f)=i from by omega]
  ·rw[List.getElem?_append_right (by simp;omega),List.getElem?_drop]
   have e:t+(i-(List.take f L++List.map (fun i=>g (f+i)) (List.range (t-f))).length)=i:=by simp;omega
   rw[e]
   rcases Nat.lt_or_ge i L.length with h3|h3
   ·rw[AU1 d h3,if_neg (by omega),getD_some d h3]
   ·rw[List.getElem?_eq_none (by rw[AC4];exact h3),List.getElem?_eq_none h3]
def shG (L:List α) (f t:Nat) (n:Int) (q:α) (i:Nat):α:=if (f:Int)≤(i:Int)-n∧(i:Int)-n<t then L.getD ((i:Int)-n).toNat d else q
theorem BK5 {L:List α} {f t j:Nat} (hj:j<t-f):((L.drop f).take (t-f)).getD j d=L.getD (f+j) d:=by
 rw[List.getD_eq_getElem?_getD,List.getD_eq_getElem?_getD,List.getElem?_take_of_lt hj,List.getElem?_drop]
theorem Ay1 {L:List α} {f t:Nat} {n:Int} {q:α} (hft:f≤t) (ht:t≤L.length):movL d ((L.drop f).take (t-f)) n q=(List.range (t-f)).map (fun i=>shG d L f t n q (f+i)):=by
 have hl:((L.drop f).take (t-f)).length=t-f:=by simp;omega
 unfold movL
 rw[hl]
 apply List.map_congr_left
 intro i hi
 have hi:=List.mem_range.1 hi
 unfold movAt shG
 rw[hl]
 by_cases h:0≤(i:Int)-n∧(i:Int)-n<(t-f:Nat)
 ·rw[if_pos h,if_pos (by omega),BK5 d (by omega)]
  congr 1
  omega
 ·rw[if_neg h,if_neg (by omega)]
end
theorem BL6 {A R B:List Qd} {f t:Nat} {n:Int} {q:Qd} (hft:f≤t) (ht:t≤R.length):over (qds A++qds R++qds B) (A.length * 4+f * 4) (qds (movL qz ((R.drop f).take (t-f)) n q))=qds A++qds (genL qz R f t (shG qz R f t n q))++qds B:=by
 have hl:((R.drop f).take (t-f)).length=t-f:=by simp;omega
 rw[←Z4,←Z4,←Nat.add_mul,Ac7,AW4,hl,←Z4,←Z4,Ay1 qz hft ht,BK7 qz hft ht]
 congr 1
 generalize (List.range (t-f)).map (fun i=>shG qz R f t n q (f+i))=M
 have h1:(A++R++B).take (A.length+f)=A++R.take f:=by
  rw[List.append_assoc,List.take_append,List.take_of_length_le (by omega),Nat.add_sub_cancel_left,List.take_append_of_le_length (by omega)]
 have h2:(A++R++B).drop (A.length+f+(t-f))=R.drop t++B:=by
  rw[show A.length+f+(t-f)=A.length+t from by omega,List.append_assoc,List.drop_append,List.drop_of_length_le (by omega),Nat.add_sub_cancel_left,List.nil_append,List.drop_append_of_le_length ht]
 rw[h1,h2]
 simp [List.append_assoc]
end Go.Fw
namespace Go.Proofs.YtmmnimagbnlcmaaGreatDoor
section
attribute [local irreducible] SW SL SQ AtQ SV SC BB LD PK Yields SO SOT SOA SY SP SPT SPA
theorem Bg0 (G:Ctx) (H:List Ent) (R:List Qd) {vs:List Value} (a:Option Addr) (n c:Nat) (s:Int) (f:Nat) (cap:List Value) (q:Qd) [h1:RdC G H a vs] (hv:vs=qds R) (hn:n=R.length) (hm:n≤100000) (hb: -100000≤s∧s≤100000) (hF:∀E,SV Tryz.prog G f cap (E++H) (.agg (qd q).toArray)):SC Tryz.prog G 209 [.slice a n c,.int .i64 s,.func (.func f) #[] cap.toArray] H fun v H'=>∃a' c',v= .slice a' n c'∧H'= .own 97 4 a' n c' (qds (movL qz R s q))::H:=by
 subst hv
 have hqn:(qds R).length=n * 4:=by rw[X6,hn]
 have hl:=AW4 qz R s q
 have hsn:=fun i (hi:i<n)=>Au3 qz (L:=R) (n:=s) (q:=q) (i:=i) (by omega)
 have Hsn:=Lib.hid hsn
 have Hl:=Lib.hid hl
 have HF:=Lib.hid hF
 have Hn:=Lib.hid hn
 clear hsn hl hn hF
 refine U4 Tryz.func209 O O O O O ?_
 repeat' (first|(apply E8;first|(apply A8;refine A9 ?_)|(apply C8;refine D7 O O ?_)|(apply D5;refine D9 O O ?_)|(apply K5;refine s_call (S9 O O) O ?_))|(apply D6)|(apply F3)|(apply A7)|(apply C9))
 refine R7 (α:=Nat×Option Addr×Nat) (fun g=>[(0,.slice a n c),(1,.int .i64 s),(2,.func (.func f) #[] cap.toArray),(7,.slice g.2.1 g.1 g.2.2),(11,.int .i64 n),(12,.int .i64 g.1)]) (fun g=> .own 97 4 g.2.1 g.1 g.2.2 (qds ((movL qz R s q).take g.1))::H)
  (fun g=>g.1≤n) (fun g=>n-g.1) (0,none,0) (Nat.zero_le _) Q7 (fun _ hw=>(hw.nilrow _ _).subs (by repeat (first|refine Subs.cons (by repeat constructor) ?_ |exact Subs.sub O0))) ?_
 rintro ⟨i,ai,ci⟩ hi
 dsimp only at hi ⊢
 by_cases hlt:(i:Int)<n
 ·have hq:(qds ((movL qz R s q).take i)).length=i * 4:=by rw[X6,List.length_take,Hl.out,←Hn.out];omega
  by_cases hin:0≤(i:Int)-s∧(i:Int)-s<n
  ·have hel:=A46 (C:=R) (k:=((i:Int)-s).toNat) (by rw[←Hn.out];omega)
   have hst:=Hsn.out i (by omega)
   have hat:movAt qz R s q i=R.getD ((i:Int)-s).toNat qz:=by unfold movAt;rw[if_pos (by rw[←Hn.out];exact hin)]
   rw[hat] at hst
   generalize R.getD ((i:Int)-s).toNat qz=u at *
   have Hst:=Lib.hid hst
   clear hst hat
   obtain⟨hin1,hin2⟩:=hin
   repeat' (first|(apply E8;first|(apply A8;refine A9 ?_)|(apply C8;refine D7 O O ?_)|(apply E5;refine F7 O O O ?_;first|(apply K9;refine L6 ⟨by omega,by omega⟩ ?_)|(apply U8;refine V4 ⟨by omega,by omega⟩ ?_)|refine F9 O ?_)|(apply F5;refine F8 O O ?_;refine l6 hel O ?_)|(apply D5;refine D9 O O ?_)|(apply I6;refine J4 O O ?_;apply P7;refine P6 O ?_)|(apply M4;refine M8 (K7 O O O hqn (by omega) (by omega)) O ?_)|(apply K5;first|(refine U9 O O O O O O (by omega) O O (fun _ _=>?_))|refine s_call (S9 O O) O ?_)|(apply j3;refine AX2 O O O O O O O O O (fun _=>?_))|(apply I5;refine J9 O O O O ?_;first|(apply I1)|(apply E9<;>intro hq<;>(try (exfalso;omega)))))|(apply D6)|(apply G8)|(apply F3)|(apply A7)|(refine G5 O ?_;apply E9<;>intro hq<;>(try (exfalso;omega)))|(apply C9)|(apply H9))
   rename_i x1 a2 c2
   have e9:qds ((movL qz R s q).take (i+1))=qds ((movL qz R s q).take i)++qd u:=by rw[Hst.out,Z4];simp [qds]
   refine J6 (i+1,a2,c2) ⟨by dsimp only;omega,by dsimp only;omega⟩ Q7 ?_
   dsimp only
   rw[e9]
   exact J3
  ·have hst:=Hsn.out i (by omega)
   have hat:movAt qz R s q i=q:=by unfold movAt;rw[if_neg (by rw[←Hn.out];exact hin)]
   rw[hat] at hst
   have Hst:=Lib.hid hst
   clear hst hat
   have cF:=HF.out
   obtain hin1|hin2:(i:Int)-s<0∨n≤(i:Int)-s:=by omega
   all_goals
    repeat' (first|(apply E8;first|(apply A8;refine A9 ?_)|(apply C8;refine D7 O O ?_)|(apply E5;refine F7 O O O ?_;first|(apply K9;refine L6 ⟨by omega,by omega⟩ ?_)|(apply U8;refine V4 ⟨by omega,by omega⟩ ?_)|refine F9 O ?_)|(apply D5;refine D9 O O ?_)|(apply I6;refine J4 O O ?_;first|(apply P7;refine P6 O ?_)|(apply M6;refine M7 O ?_))|(apply K5;first|(refine U9 O O O O O O (by omega) O O (fun _ _=>?_))|refine s_call (S9 O O) O ?_)|(apply j3;refine AX2 O O O O O O O O O (fun _=>?_))|(apply I5;refine J9 O O O O ?_;first|(apply I1)|(apply H7)|(apply E9<;>intro hq<;>(try (exfalso;omega))))|(refine AH8 O O O O (cF [_]) O O ?_))|(apply D6)|(apply G8)|(apply F3)|(apply A7)|(refine G5 O ?_;first|(apply H7)|(apply E9<;>intro hq<;>(try (exfalso;omega))))|(apply C9)|(apply H9))
    rename_i x1 a2 c2
    have e9:qds ((movL qz R s q).take (i+1))=qds ((movL qz R s q).take i)++qd q:=by rw[Hst.out,Z4];simp [qds]
    refine J6 (i+1,a2,c2) ⟨by dsimp only;omega,by dsimp only;omega⟩ Q7 ?_
    dsimp only
    rw[e9]
    exact J3
 ·obtain rfl:i=n:=by omega
  rw[List.take_of_length_le (by rw[Hl.out,←Hn.out];exact Nat.le_refl _)]
  repeat' (first|(apply E8;first|(apply A8;refine A9 ?_)|(apply C8;refine D7 O O ?_)|(apply E5;refine F7 O O O ?_;refine F9 O ?_)|(apply D5;refine D9 O O ?_))|(apply D6)|(apply I4)|(apply O7)|(apply A7)|(refine G5 O ?_;apply E9<;>intro hq<;>(try (exfalso;omega)))|(apply C9)|(apply K3)|(apply K4))
  refine AI9 _ (.inr O) O (List.Sublist.refl _) ?_
  exact⟨_,_,O,O⟩
theorem B51 (G:Ctx) (H:List Ent) (b:Nat) (x y z:Int) [HasBlk H b 31 [.int .i64 x,.int .i64 y,.int .i64 z]]:SV Tryz.prog G 210 [.pointer (some ⟨b,0,none⟩)] H (.agg (qd (32,x,y,z)).toArray):=by
 have cB:=fun H=>AZ7 G H x y z
 refine P8 Tryz.func210 O O O O O ?_
 repeat' (first|(apply E8;first|(apply A8;refine A9 ?_)|(apply F5;refine F8 O O ?_;refine M5 O ?_)|(apply H5;refine H6 O O O (cB _) O O ?_)|(apply H8;refine Q8 O O O O O O O O ?_)|(apply O6;refine Q4 O O O O (fun _=>?_)))|(apply D6)|(apply I4)|(apply A7)|(apply C9))
 refine AB4 H (by (exact .inr O)) O O O J3 ?_
 exact⟨O,O⟩
theorem BJ3 (G:Ctx) (H:List Ent) (A R B:List Qd) (b w h n c k f t:Nat) (s x y z:Int) (hA:A.length=k * w) (hR:R.length=w) (hn:n=(A++R++B).length) (hm:n≤100000) (hnc:n≤c) (hw:1≤w) (hk:k≤1000) (hft:f≤t) (ht:t≤w) (hs: -16383≤s∧s≤16383):SC Tryz.prog G 155 [gridV w h (some ⟨b,0,none⟩) n c,.int .i64 k,.int .i64 f,.int .i64 t,.int .i64 s,penV x y z] (.own 97 4 (some ⟨b,0,none⟩) n c (qds A++qds R++qds B)::H) fun v H'=>v= .tuple #[]∧H'= .own 97 4 (some ⟨b,0,none⟩) n c (qds A++qds (mendQ J2 (genL qz R f t (shG qz R f t s (32,x,y,z))))++qds B)::H:=by
 have e1:(k:Int) * (w:Int)=((k * w:Nat):Int):=by simp
 have e2:((k:Int)+1) * (w:Int)=((k * w+w:Nat):Int):=by rw[Int.add_mul];simp
 have hpn:k * w+w≤n:=by rw[hn,List.length_append,List.length_append];omega
 have cR:=fun H=>AV3 G H b w h n c k (k * w) e1 e2 hm hpn hnc hw hk
 have hgl:=(AC4 qz R f t (shG qz R f t s ((32,x,y,z):Qd))).trans hR
 have cP:=fun (H:List Ent)=>Ae8 G H A (genL qz R f t (shG qz R f t s (32,x,y,z))) B b (k * w * 4) w n c (c-k * w) (by rw[hA]) hgl.symm ⟨hw,by omega⟩
 have hpl:((R.drop f).take (t-f)).length=t-f:=by simp;omega
 have hrd:∀H,RdC G (.own 97 4 (some ⟨b,0,none⟩) n c (qds A++qds R++qds B)::H) (some ⟨b,offO (k * w * 4) f (c-k * w) 4,none⟩) (qds ((R.drop f).take (t-f))):=fun H=>by
  rcases Nat.eq_or_lt_of_le hft with e|e
  ·have:(R.drop f).take (t-f)=[]:=List.length_eq_zero_iff.1 (by rw[hpl];omega)
   rw[this]
   exact⟨fun w _=>At.nil w _⟩
  ·have e3:offO (k * w * 4) f (c-k * w) 4=k * w * 4+f * 4:=by unfold offO;rw[if_neg (by omega)]
   have e4:qds A++qds R++qds B=qds (A++R.take f)++qds ((R.drop f).take (t-f))++qds (R.drop t++B):=by
    rw[←Z4,←Z4,←Z4,←Z4]
    congr 1
    rw[List.append_assoc A,List.append_assoc,List.append_assoc]
    congr 1
    rw[←List.append_assoc,←List.append_assoc]
    congr 1
    have e5:R.drop t=(R.drop f).drop (t-f):=by rw[List.drop_drop];congr 1;omega
    rw[List.append_assoc,e5,List.take_append_drop,List.take_append_drop]
   rw[e3,e4]
   exact Af2 (Ad9 (G:=G) (e:=97) (sz:=4) (len:=n) (c:=c) (b:=b) (us:=[]) (H:=H) (k * w * 4+f * 4) (by rw[X6,List.length_append,List.length_take,hA];omega) (by rw[X6,hpl];omega))
 have hov:=BL6 (A:=A) (R:=R) (B:=B) (f:=f) (t:=t) (n:=s) (q:=(32,x,y,z)) hft (by omega)
 have hml:=(AW4 qz ((R.drop f).take (t-f)) s ((32,x,y,z):Qd)).trans hpl
 have cM:=fun (H:List Ent) (a:Option Addr) (cc:Nat) {vs:List Value} [RdC G H a vs] (hv:vs=qds ((R.drop f).take (t-f))) (b11:Nat) (hF:∀E,SV Tryz.prog G 210 [.pointer (some ⟨b11,0,none⟩)] (E++H) (.agg (qd (32,x,y,z)).toArray))=>Bg0 G H ((R.drop f).take (t-f)) a (t-f) cc s 210 [.pointer (some ⟨b11,0,none⟩)] (32,x,y,z) hv hpl.symm (by omega) ⟨by omega,by omega⟩ hF
 have hov2:over (qds A++qds R++qds B) (offO (k * w * 4) f (c-k * w) 4) ((qds (movL qz ((R.drop f).take (t-f)) s (32,x,y,z))).take ((t-f) * 4))=qds A++qds (genL qz R f t (shG qz R f t s (32,x,y,z)))++qds B:=by
  rw[List.take_of_length_le (by rw[X6,hml];exact Nat.le_refl _)]
  rcases Nat.eq_or_lt_of_le hft with e|e
  ·have h0:movL qz ((R.drop f).take (t-f)) s (32,x,y,z)=[]:=List.length_eq_zero_iff.1 (by rw[hml];omega)
   rw[h0,A47 qz (by omega)]
   simp [over,qds]
  ·have e3:offO (k * w * 4) f (c-k * w) 4=k * w * 4+f * 4:=by unfold offO;rw[if_neg (by omega)]
   rw[e3,←hA]
   exact hov
 have hfit:offO (k * w * 4) f (c-k * w) 4+(t-f) * 4≤n * 4:=by unfold offO;split<;>omega
 have hone:((qds (movL qz ((R.drop f).take (t-f)) s (32,x,y,z))).take ((t-f) * 4)).all (·.oneCell')=true:=by rw[AM0];exact Ah6 _
 have hyl:(t-f) * 4≤(qds (movL qz ((R.drop f).take (t-f)) s (32,x,y,z))).length:=by rw[X6,hml];exact Nat.le_refl _
 generalize genL qz R f t (shG qz R f t s (32,x,y,z))=M at *
 generalize movL qz ((R.drop f).take (t-f)) s (32,x,y,z)=V at *
 generalize hO:offO (k * w * 4) f (c-k * w) 4=Oq at *
 have ec:w≤c-k * w:=by omega
 generalize k * w=p at *
 clear e1 e2 hn hA hov hml hgl
 refine BP2 Tryz.func155 O O O O O ?_
 repeat' (first|(apply E8;first|(apply A8;refine A9 ?_)|(apply C8;refine D7 O O ?_)|(apply F5;refine F8 O O ?_;refine M5 O ?_)|(apply D5;refine D9 O O ?_)|(apply H5;first|refine H6 O O O (cR _) O O ?_ |(refine c_call O O O (cM _ _ _ O _ (fun _=>B51 _ _ _ _ _ _)) O O ?_;rintro _ _ ⟨a2,c2,rfl,rfl⟩)|(refine c_call O O O (o7 PickOwn.here (cP _)) O O ?_;rintro _ _ ⟨rfl,rfl⟩))|(apply K5;refine Ag8 (m:=t-f) O O O O (by omega) (by (exact hyl)) (by (exact hfit)) hone O O ?_;rw[hov2])|(apply K6;refine L9 O O O O O O (fun _=>?_)))|(apply Q0;refine N8 (k:=0) J3 ?_)|(apply U3;first|(refine L8 O ?_)|(refine O4 O O O O (by kernel_rfl) (by decide+kernel) (by decide+kernel) ?_;first|(apply O1;refine G9 (P9 O O) ?_)|(apply Aa7;refine G9 (Ae7 hO O O O O (by omega) (by omega) (by omega)) ?_)|(refine G9 (Ap2 O O O) ?_))|(refine O5 O ?_)|(refine N9 (by decide+kernel) ?_)|(refine Q6 (by kernel_rfl) ?_))|(apply V3;first|(refine Q5 O)|(refine U1 (by decide+kernel) ?_)|(refine Q3 O ?_ ?_))|(apply D6)|(apply A7)|(apply C9)|(refine J5 (id:=2) ?_;refine Z6 (H) J3 ?_))
 all_goals
  refine AI9 (_::H) (by (exact .inl O)) O (List.Sublist.cons_cons _ O0) ?_
  exact⟨O,O⟩
theorem Bd9 (G:Ctx) (H Hr:List Ent) (X:List Rw) {vs:List Value} (a:Option Addr) (n c:Nat) (s:Int) (f:Nat) (cap:List Value) (q:List Qd) (m:Nat) [h1:RdC G H a vs] (hv:vs=X.map rwV) (hn:n=X.length) (hm:n≤100000) (hb: -100000≤s∧s≤100000) (hX:RdX qds G Hr X) (hql:m=q.length)
 (hF:∀E,SC Tryz.prog G f cap (E++H) fun v H'=>∃b,v= .slice (some ⟨b,0,none⟩) m m∧H'= .own 97 4 (some ⟨b,0,none⟩) m m (qds q)::(E++H)):SC Tryz.prog G 252 [.slice a n c,.int .i64 s,.func (.func f) #[] cap.toArray] H fun v H'=>∃(Y:List Rw) (E:List Ent) (a':Option Addr) (c':Nat),v= .slice a' n c'∧Y.length=n∧Y.map (·.2.2)=movL [] (X.map (·.2.2)) s q∧RdX qds G (E++Hr) Y∧H'= .own 27 1 a' n c' (Y.map rwV)::(E++H):=by
 subst hv
 have hqn:(X.map rwV).length=n * 1:=by simp [hn]
 have hPl:(X.map (·.2.2)).length=n:=by simp [hn]
 have hl:=(AW4 [] (X.map (·.2.2)) s q).trans hPl
 have hsn:=fun i (hi:i<n)=>Au3 [] (L:=X.map (·.2.2)) (n:=s) (q:=q) (i:=i) (by omega)
 have Hsn:=Lib.hid hsn
 have Hl:=Lib.hid hl
 have HF:=Lib.hid hF
 have Hn:=Lib.hid hn
 have HP:=Lib.hid hPl
 clear hsn hl hn hF hPl
 refine U4 Tryz.func252 O O O O O ?_
 repeat' (first|(apply E8;first|(apply A8;refine A9 ?_)|(apply C8;refine D7 O O ?_)|(apply D5;refine D9 O O ?_)|(apply K5;refine s_call (S9 O O) O ?_))|(apply D6)|(apply F3)|(apply A7)|(apply C9))
 refine R7 (α:=List Rw×List Ent×Option Addr×Nat) (fun g=>[(0,.slice a n c),(1,.int .i64 s),(2,.func (.func f) #[] cap.toArray),(7,.slice g.2.2.1 g.1.length g.2.2.2),(11,.int .i64 n),(12,.int .i64 g.1.length)]) (fun g=> .own 27 1 g.2.2.1 g.1.length g.2.2.2 (g.1.map rwV)::(g.2.1++H))
  (fun g=>g.1.length≤n∧g.1.map (·.2.2)=(movL [] (X.map (·.2.2)) s q).take g.1.length∧RdX qds G (g.2.1++Hr) g.1) (fun g=>n-g.1.length) ([],[],none,0) ⟨Nat.zero_le _,rfl,RdX.nil⟩ Q7 (fun _ hw=>hw.nilrow _ _) ?_
 rintro ⟨Y,E,ai,ci⟩ ⟨hi,hY,hYr⟩
 dsimp only at hi hY hYr ⊢
 generalize hYl:Y.length=i at *
 have hone:=BH8 Y
 by_cases hlt:(i:Int)<n
 ·have fin:∀(x:Rw) (l:Nat),x.2.2=movAt [] (X.map (·.2.2)) s q i→x.2.2.length=l→(Y++[x]).length=i+1∧(Y++[x]).map rwV=Y.map rwV++[.slice x.1 l x.2.1]∧(Y++[x]).map (·.2.2)=(movL [] (X.map (·.2.2)) s q).take (i+1):=by
   intro x l hx hxl
   refine⟨by rw[List.length_append,hYl];rfl,?_,?_⟩
   ·rw[List.map_append]
    simp only[List.map_cons,List.map_nil,rwV,hxl]
   ·rw[List.map_append,hY,Hsn.out i (by omega),List.map_cons,List.map_nil,hx]
  by_cases hin:0≤(i:Int)-s∧(i:Int)-s<n
  ·obtain⟨⟨a1,c1,R1⟩,hx⟩:=AC3 (X:=X) (k:=((i:Int)-s).toNat) (by rw[←Hn.out];omega)
   have hcell:=BX6 hx
   dsimp only at hcell
   have hcell':(X.map rwV)[((i:Int)-s).toNat * 1]? =some (.slice a1 R1.length c1):=by rw[Nat.mul_one];exact hcell
   have hat:R1=movAt [] (X.map (·.2.2)) s q i:=by
    unfold movAt
    rw[if_pos (by rw[HP.out];exact hin),List.getD_eq_getElem?_getD,List.getElem?_map,hx]
    rfl
   obtain⟨f1,f2,f3⟩:=fin (a1,c1,R1) _ hat rfl
   have hXx:=hX.at hx
   obtain⟨hin1,hin2⟩:=hin
   repeat' (first|(apply E8;first|(apply A8;refine A9 ?_)|(apply C8;refine D7 O O ?_)|(apply E5;refine F7 O O O ?_;first|(apply K9;refine L6 ⟨by omega,by omega⟩ ?_)|(apply U8;refine V4 ⟨by omega,by omega⟩ ?_)|refine F9 O ?_)|(apply F5;refine F8 O O ?_;refine X8 hcell' ?_)|(apply D5;refine D9 O O ?_)|(apply I6;refine J4 O O ?_;apply P7;refine P6 O ?_)|(apply M4;refine M8 (K7 O O O hqn (by omega) (by omega)) O ?_)|(apply K5;first|(refine U9 O O O O O O (by omega) O O (fun _ _=>?_))|refine s_call (S9 O O) O ?_)|(apply j3;refine R8 O O O O O O O O O O (fun _=>?_))|(apply I5;refine J9 O O O O ?_;first|(apply I1)|(apply E9<;>intro hq<;>(try (exfalso;omega)))))|(apply D6)|(apply G8)|(apply F3)|(apply A7)|(refine G5 O ?_;apply E9<;>intro hq<;>(try (exfalso;omega)))|(apply C9)|(apply H9))
   rename_i _ a2 c2
   refine J6 (Y++[(a1,c1,R1)],E,a2,c2) ⟨⟨by dsimp only;rw[f1];omega,by dsimp only;rw[f1];exact f3,hYr.snoc hXx.app⟩,by dsimp only;rw[f1];omega⟩ ?_ ?_
   ·dsimp only
    rw[f1]
    exact Q7
   ·dsimp only
    rw[f1,f2]
    exact fun _ hw=>hw.sub (List.Sublist.cons_cons _ (List.Sublist.cons _ (List.Sublist.refl _)))
  ·have hat:q=movAt [] (X.map (·.2.2)) s q i:=by unfold movAt;rw[if_neg (by rw[HP.out];exact hin)]
   have cF:=HF.out
   obtain hin1|hin2:(i:Int)-s<0∨n≤(i:Int)-s:=by omega
   all_goals
    repeat' (first|(apply E8;first|(apply A8;refine A9 ?_)|(apply C8;refine D7 O O ?_)|(apply E5;refine F7 O O O ?_;first|(apply K9;refine L6 ⟨by omega,by omega⟩ ?_)|(apply U8;refine V4 ⟨by omega,by omega⟩ ?_)|refine F9 O ?_)|(apply D5;refine D9 O O ?_)|(apply I6;refine J4 O O ?_;first|(apply P7;refine P6 O ?_)|(apply M6;refine M7 O ?_))|(apply K5;first|(refine U9 O O O O O O (by omega) O O (fun _ _=>?_))|refine s_call (S9 O O) O ?_)|(apply j3;refine R8 O O O O O O O O O O (fun _=>?_))|(apply I5;refine J9 O O O O ?_;first|(apply I1)|(apply H7)|(apply E9<;>intro hq<;>(try (exfalso;omega))))|(refine BH6 O O O O (cF (_::E)) O O ?_;rintro _ _ ⟨b,rfl,rfl⟩;dsimp only[List.cons_append]))|(apply D6)|(apply G8)|(apply F3)|(apply A7)|(refine G5 O ?_;first|(apply H7)|(apply E9<;>intro hq<;>(try (exfalso;omega))))|(apply C9)|(apply H9))
    rename_i _ a2 c2
    obtain⟨f1,f2,f3⟩:=fin (some ⟨b,0,none⟩,m,q) m hat hql.symm
    refine J6 (Y++[(some ⟨b,0,none⟩,m,q)],.own 97 4 (some ⟨b,0,none⟩) m m (qds q)::E,a2,c2) ⟨⟨by dsimp only;rw[f1];omega,by dsimp only;rw[f1];exact f3,hYr.cons.snoc (Sl.own List.mem_cons_self O hql)⟩,by dsimp only;rw[f1];omega⟩ ?_ ?_
    ·dsimp only
     rw[f1]
     exact Q7
    ·dsimp only
     rw[f1,f2]
     exact fun _ hw=>hw.sub (List.Sublist.cons_cons _ (List.Sublist.cons _ (List.Sublist.refl _)))
 ·obtain rfl:i=n:=by omega
  repeat' (first|(apply E8;first|(apply A8;refine A9 ?_)|(apply C8;refine D7 O O ?_)|(apply E5;refine F7 O O O ?_;refine F9 O ?_)|(apply D5;refine D9 O O ?_))|(apply D6)|(apply I4)|(apply O7)|(apply A7)|(refine G5 O ?_;apply E9<;>intro hq<;>(try (exfalso;omega)))|(apply C9)|(apply K3)|(apply K4))
  refine AI9 _ (.inr O) O (List.Sublist.refl _) ?_
  exact⟨Y,E,ai,ci,O,hYl,by rw[hY,List.take_of_length_le (by rw[Hl.out];exact Nat.le_refl _)],hYr,rfl⟩
theorem B86 (G:Ctx) (H:List Ent) (b b2:Nat) (w h:Nat) (a:Option Addr) (n c:Nat) (x y z:Int) [HasBlk H b 29 [.int .i64 w,.int .i64 h,.slice a n c]] [HasBlk H b2 31 [.int .i64 x,.int .i64 y,.int .i64 z]] (hw:1≤w∧w≤160):SC Tryz.prog G 253 [.pointer (some ⟨b,0,none⟩),.pointer (some ⟨b2,0,none⟩)] H fun v H'=>∃b,v= .slice (some ⟨b,0,none⟩) w w∧H'= .own 97 4 (some ⟨b,0,none⟩) w w (qds (List.replicate w (32,x,y,z)))::H:=by
 have cB:=fun H=>Am7 G H w 1 x y z hw ⟨Nat.le_refl _,by omega⟩
 rw[Nat.mul_one] at cB
 refine I7 Tryz.func253 O O O O O ?_
 repeat' (first|(apply E8;first|(apply A8;refine A9 ?_)|(apply F5;refine F8 O O ?_;first|refine F4 O ?_ |refine M5 O ?_)|(apply D5;refine D9 O O ?_)|(apply G6;refine G7 (D8 O O) O ?_)|(apply H5;refine c_call O O O (cB _) O O ?_;rintro _ _ ⟨b9,rfl,rfl⟩)|(refine AA2 O (Bt1 (v:= .slice (some ⟨b9,0,none⟩) w w) O O (by kernel_rfl)) O O ?_))|(apply D6)|(apply I4)|(apply A7)|(apply C9))
 refine AI9 _ (by (exact .inr O)) O (List.Sublist.refl _) ?_
 exact⟨b9,O,O⟩
end
end Go.Proofs.YtmmnimagbnlcmaaGreatDoor
namespace Go.Sx
section
variable {P:Program} {G:Ctx} {n:Nat} {s:Fm} {H:List Ent} {o:Oper}
theorem Bb2 {x y:Operand} {ats:Array TypeId} {k k':IntKind} {p q:Int} (ho:o.op= .call {callee:= .builtin .min,args:=#[x,y],argTypes:=ats}) (hx:ev s x=some (.int k p)) (hy:ev s y=some (.int k' q)):Yields P G n s H o (.int k (min p q)):=fun a w ha _=>by
 have e:min p q=if q<p then q else p:=by split<;>omega
 unfold execOp;rw[ho,e]
 simp only[resolve,invoke,Sem.run_bind,Sem.run_pure,Result.andThen_ok,builtin,List.map_toArray,List.map_cons,List.map_nil,ha.ev hx,ha.ev hy,run_min_int2]
end
end Go.Sx
namespace Go.Fw
theorem Ao5 {L:List (List Qd)} {k:Nat} {R:List Qd} (h:L[k]? =some R):L.flatten=(L.take k).flatten++R++(L.drop (k+1)).flatten:=by
 obtain⟨hk,rfl⟩:=List.getElem?_eq_some_iff.1 h
 rw[List.append_assoc,←List.flatten_cons,←List.drop_eq_getElem_cons hk,←List.flatten_append,List.take_append_drop]
theorem Bd1 {L:List (List Qd)} {k:Nat} (R:List Qd) (hk:k<L.length):(L.set k R).flatten=(L.take k).flatten++R++(L.drop (k+1)).flatten:=by
 rw[List.set_eq_take_append_cons_drop,if_pos hk,List.flatten_append,List.flatten_cons,List.append_assoc]
theorem Am2 {w:Nat}:∀{L:List (List Qd)},(∀r∈L,r.length=w)→L.flatten.length=L.length * w
 | [],_=>by simp
 | R::L,h=>by
   rw[List.flatten_cons,List.length_append,h R List.mem_cons_self,Am2 fun r hr=>h r (List.mem_cons_of_mem _ hr),List.length_cons,Nat.succ_mul,Nat.add_comm]
theorem Av4 {w:Nat} {L:List (List Qd)} (h:∀r∈L,r.length=w) {k:Nat} (hk:k≤L.length):(L.take k).flatten.length=k * w:=by
 rw[Am2 fun r hr=>h r (List.mem_of_mem_take hr),List.length_take,Nat.min_eq_left hk]
end Go.Fw
