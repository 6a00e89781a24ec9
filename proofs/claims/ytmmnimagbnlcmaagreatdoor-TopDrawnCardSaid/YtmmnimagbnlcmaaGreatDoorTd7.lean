/- Texts of this claim, merged: RepQ SxD SxM SxN Scr1 Trm1 SanP Grid17 Grid18 Grid22 Grid15 Grid23 SanQ. -/
import Derived.Test.YtmmnimagbnlcmaaGreatDoorTd6
import Derived.WalkKit
import Derived.WalkSpells
import Derived.WalkLawsBesides
import Derived.Handy
import Derived.Lib.Hide
import Derived.Laws.BitsAllLaws
import Derived.Deep.MidRow
import Derived.Deep.WholeRow
import Derived.BigQuiet
import Derived.Laws.CopyOwn
import Derived.Deep.QuietTactic
import Derived.Laws.AppendOwnNone
import Derived.Laws.MakeOwn
import Derived.Laws.IdiomStrings
import Derived.OrdersHeld
import Derived.Lib.SliceRun
import Derived.ChangeKeysEq
import Derived.Laws.CopyRow
import Derived.Test.YtmmnimagbnlcmaaGreatDoorRows
import Derived.Lib.AppendStr
import Derived.ArgAppend
import Derived.Laws.RangeAny
import Derived.Maps.RangeRun
import Derived.StillTailTactics
import Derived.RegionTactic
import Derived.ChangeAlike
section
namespace Go.Fw
open Go Go.RowKit Go.Sx
theorem Bt3 (q:Qd) (k:Nat):(List.replicate k (qd q)).flatten=qds (List.replicate k q):=by
  induction k with
  | zero=>rfl
  | succ k ih=>rw[List.replicate_succ,List.flatten_cons,ih,List.replicate_succ,AH4]
theorem Bc7 (k:Nat):(madeCells (#[.int .i64 0,.int .i64 0,.int .i64 0,.int .i64 0]:Array Value) (k * 4)).toList=qds (List.replicate k qz):=by
  have h:=Ay8 [.int .i64 0,.int .i64 0,.int .i64 0,.int .i64 0] k 4 rfl (by decide)
  have h2:=congrArg Array.toList h
  rw[←Bt3]
  exact h2
/-- A row of which the first m places are written. -/
def rowP (q:Qd) (K m:Nat):List Qd:=List.replicate m q++List.replicate (K-m) qz
theorem Bi7 (q:Qd) {K m:Nat} (h:m≤K):(rowP q K m).length=K:=by simp [rowP];omega
theorem Au9 (q:Qd) {K m d:Nat} (h:d≤m):(rowP q K m).take d=List.replicate d q:=by
  unfold rowP
  rw[List.take_append_of_le_length (by simpa using h),List.take_replicate,Nat.min_eq_left h]
theorem Ah8 (C D:List Qd) (k:Nat):over (qds C) (k * 4) (qds D)=qds (C.take k++D++C.drop (k+D.length)):=by
  unfold over
  rw[AL6,Z4,←Nat.add_mul,AL9,AE2,AE2]
theorem rowP_step (q:Qd) {K m d:Nat} (h:d≤m) (h2:m+d≤K):over (qds (rowP q K m)) (m * 4) ((qds (rowP q K m)).take (d * 4))=qds (rowP q K (m+d)):=by
  rw[AL6,Au9 q h,Ah8,Au9 q (Nat.le_refl m),List.length_replicate]
  congr 1
  unfold rowP
  rw[List.drop_append,List.length_replicate,List.drop_of_length_le (by simp),List.nil_append,show m+d-m=d from by omega,List.drop_replicate,List.replicate_append_replicate,show K-m-d=K-(m+d) from by omega]
theorem BJ6 (q:Qd) (K:Nat):over (qds (List.replicate K qz)) 0 ((qd q).take (min 1 K * 4))=qds (rowP q K (min 1 K)):=by
  rcases Nat.eq_zero_or_pos K with h|h
  · subst h;rfl
  · rw[Nat.min_eq_left h,show (qd q).take (1 * 4)=qds [q] from by rfl]
    show over (qds (List.replicate K qz)) (0 * 4) (qds [q])=_
    rw[Ah8]
    congr 1
    unfold rowP
    simp
theorem Bc1 (q:Qd) (K:Nat):rowP q K K=List.replicate K q:=by simp [rowP]
end Go.Fw
namespace Go.Proofs.YtmmnimagbnlcmaaGreatDoor
open Go Go.RowKit Go.Fw Go.Sx
set_option maxRecDepth 100000
set_option maxHeartbeats 1000000
attribute [local irreducible] SW SL SQ AtQ SV SC BB LD PK Yields SO SOT SOA SY
theorem By0 (G:Ctx) (H:List Ent) (q:Qd) (a:Option Addr) (c:Nat) (k:Int) {vs:List Value} (hk:0≤k∧k≤1000000) [hr:RdC G H a vs] (hv:vs=qd q):SC Tryz.prog G 192 [.slice a 1 c,.int .i64 k] H (fun v H'=>∃b,v= .slice (some ⟨b,0,none⟩) k.toNat k.toNat∧H'= .own 97 4 (some ⟨b,0,none⟩) k.toNat k.toNat (qds (List.replicate k.toNat q))::H):=by
  subst hv
  have cm:=fun H=>B85 G H k (by omega)
  obtain⟨K,rfl⟩:∃K:Nat,k=K:=⟨k.toNat,by omega⟩
  have hqone:∀d,((qd q).take d).all (·.oneCell')=true:=fun d=>by
    rw[List.all_eq_true]
    intro v hv
    have:=List.mem_of_mem_take hv
    simp [qd] at this
    rcases this with rfl|rfl|rfl|rfl<;>rfl
  refine J3 Tryz.func192 rfl rfl rfl rfl rfl ?_
  repeat' (first|(apply F3;first|(apply C8;refine A8 ?_)|(apply C9;refine D8 rfl rfl ?_)|(apply E5;refine F5 rfl rfl rfl ?_;refine F7 rfl ?_)|(apply D6;refine D9 rfl rfl ?_)|(apply I6;refine I9 rfl rfl ?_;apply O1;refine O3 rfl ?_)|(apply Q6;refine U2 (K7 rfl rfl rfl) rfl ?_)|(apply p8;first|refine x9 (AA5 (k:= .i64) rfl rfl ⟨by omega,by omega⟩) rfl ?_ |refine x9 (AA5 (k:= .u64) rfl rfl ⟨by omega,by omega⟩) rfl ?_)|(apply H6;refine F9 rfl rfl rfl (cm _) rfl rfl ?_)|(apply J5;refine s_call (Q5 rfl rfl) rfl ?_)|(apply I1;refine J9 rfl rfl rfl rfl ?_;apply I7)|(refine B14 rfl rfl rfl rfl (by omega) (by omega) (by omega) rfl rfl (fun _=>?_)))|(apply D7)|(apply G9)|(apply A7)|(refine G5 rfl ?_;first|(apply I5)|(apply E9<;>intro hq<;>(try (exfalso;omega))))|(apply D5))
  rename_i b
  rw[Int.toNat_natCast,Bc7]
  repeat' (first|(apply F3;first|(apply C8;refine A8 ?_)|(apply D6;refine D9 rfl rfl ?_)|(apply J5;refine Ap3 (off:=0) (m:=min 1 K) rfl rfl rfl rfl rfl (by rw[AY2];omega) (by omega) (hqone _) rfl rfl ?_))|(apply D7)|(apply F6)|(apply D5))
  rw[BJ6]
  refine R9 (α:=Nat) (fun m=>[(7,.slice (some ⟨b,0,none⟩) K K),(8,.int .i64 m)]) (fun m=> .own 97 4 (some ⟨b,0,none⟩) K K (qds (rowP q K m))::H)
    (fun m=>m≤K∧(m=0→K=0)) (fun m=>K-m) (min 1 K) ⟨Nat.min_le_right _ _,fun h=>by omega⟩ (by repeat (first|exact Le.nil _|refine Le.cons (by (rfl)) ?_)) I8 ?_
  rintro m ⟨hm,h0⟩
  by_cases hlt:(m:Int)<K
  · have hrl:=Bi7 q hm
    have hql:(qds (rowP q K m)).length=K * 4:=by rw[Z4,hrl]
    have hst:=rowP_step q (K:=K) (m:=m) (d:=min m (K-m)) (Nat.min_le_left _ _) (by omega)
    have hon:((qds (rowP q K m)).take (min m (K-m) * 4)).all (·.oneCell')=true:=by rw[AL6];exact Aq6 _
    repeat' (first|(apply F3;first|(apply C8;refine A8 ?_)|(apply C9;refine D8 rfl rfl ?_)|(apply E5;refine F5 rfl rfl rfl ?_;refine F7 rfl ?_)|(apply J5;first|(refine Ap3 (m:=min m (K-m)) rfl rfl rfl rfl rfl (by rw[hql];omega) (by omega) hon rfl rfl ?_)|refine s_call (Q5 rfl rfl) rfl ?_))|(apply U4;refine R5 (k:=0) I8 ?_)|(apply V6;first|(refine O9 rfl ?_)|(refine P8 rfl rfl rfl rfl (by kernel_rfl) (by decide+kernel) (by decide+kernel) ?_;first|(apply U5;refine I4 (V4 rfl rfl) ?_)|(apply Ae4;refine Ad4 rfl rfl ?_;apply M0;refine L9 ⟨by omega,by omega⟩ ?_)|(apply Z0;refine I4 (X7 rfl rfl) ?_)|(apply Ai1;first|(refine I4 (Bk1 rfl rfl rfl (by omega) (by omega)) ?_)|(refine I4 (Ac6 rfl rfl rfl rfl (by omega) (by omega) (by omega) (by omega)) ?_)))|(refine P9 rfl ?_)|(refine R4 (by decide+kernel) ?_)|(refine S9 (by kernel_rfl) ?_))|(apply X4;first|(refine T9 rfl)|(refine U7 (by decide+kernel) ?_)|(refine U0 rfl ?_ ?_))|(apply D7)|(apply G9)|(apply F6)|(apply A7)|(refine G5 rfl ?_;apply E9<;>intro hq<;>(try (exfalso;omega)))|(apply D5)|(apply J2)|(refine K3 (id:=9) ?_;refine V3 (H) I8 ?_))
    rw[show (m:Int).toNat * 4=m * 4 from rfl,hst]
    refine J6 (m+min m (K-m)) ⟨⟨by omega,fun h=>by omega⟩,by omega⟩ (by repeat (first|exact Le.nil _|refine Le.cons (by (rfl)) ?_)) I8
  · obtain rfl:m=K:=by omega
    repeat' (first|(apply F3;first|(apply C8;refine A8 ?_)|(apply C9;refine D8 rfl rfl ?_)|(apply E5;refine F5 rfl rfl rfl ?_;refine F7 rfl ?_)|(apply D6;refine D9 rfl rfl ?_)|(apply J5;refine s_call (Q5 rfl rfl) rfl ?_))|(apply D7)|(apply H7)|(apply N8)|(apply A7)|(refine G5 rfl ?_;apply E9<;>intro hq<;>(try (exfalso;omega)))|(apply D5)|(apply J7)|(apply J8))
    rw[Bc1]
    refine AG7 _ (.inr rfl) rfl (List.Sublist.refl _) ?_
    exact⟨_,rfl,rfl⟩
theorem Am9 (G:Ctx) (H:List Ent) (w h:Nat) (x y z:Int) (hw:1≤w∧w≤160) (hh:1≤h∧h≤60):SC Tryz.prog G 141 [.int .i64 w,.int .i64 h,penV x y z] H fun v H'=>∃b,v=gridV w h (some ⟨b,0,none⟩) (w * h) (w * h)∧H'= .own 97 4 (some ⟨b,0,none⟩) (w * h) (w * h) (qds (List.replicate (w * h) (32,x,y,z)))::H:=by
  have cB:=fun H=>A62 G H x y z
  have hb:w * h≤160 * 60:=Nat.mul_le_mul (by omega) (by omega)
  have e1:(w:Int) * (h:Int)=((w * h:Nat):Int):=by simp
  have cR:=fun (H:List Ent) (a:Option Addr) {vs:List Value} [RdC G H a vs] (hv:vs=qd (32,x,y,z))=>By0 G H (32,x,y,z) a 1 ((w:Int) * (h:Int)) (by rw[e1];omega) hv
  rw[e1,Int.toNat_natCast] at cR
  generalize hp:w * h=p at *
  refine AH0 Tryz.func141 rfl rfl rfl rfl rfl ?_
  repeat' (first|(apply F3;first|(apply C8;refine A8 ?_)|(apply C9;refine D8 rfl rfl ?_)|(apply E5;refine F5 rfl rfl rfl ?_;refine AQ7 ⟨by omega,by omega⟩ ?_;rw[e1])|(apply F4;refine F8 rfl rfl ?_;refine K5 rfl ?_)|(apply P5;refine R7 (O6 rfl rfl rfl) rfl ?_)|(apply H6;first|refine F9 rfl rfl rfl (cB _) rfl rfl ?_ |(refine c_call rfl rfl rfl (cR _ _ rfl) rfl rfl ?_;rintro _ _ ⟨b,rfl,rfl⟩))|(apply H9;refine M6 rfl rfl rfl rfl rfl rfl rfl rfl ?_)|(apply K9;refine O5 rfl rfl rfl rfl rfl rfl (fun _=>?_))|(apply L6;refine O0 rfl rfl rfl rfl (fun _=>?_))|(apply V8;refine Ae5 rfl rfl rfl rfl rfl rfl rfl rfl rfl (fun _=>?_)))|(apply D7)|(apply H7)|(apply A7)|(apply D5))
  rename_i b1 b2 b3
  refine d9 (.own 97 4 (some ⟨b,0,none⟩) p p (qds (List.replicate p (32,x,y,z)))::H) (by (exact .inr rfl)) rfl rfl rfl I8 ?_
  exact⟨b,rfl,rfl⟩
theorem CI7 (G:Ctx) (H:List Ent) (w h:Int) (x y z e:Int) (he:(sizeE w h=1∧e=1)∨(sizeE w h=0∧penB x y z=false∧e=4)):SV Tryz.prog G 84 [.int .i64 w,.int .i64 h,penV x y z] H (.tuple #[gridZ,.int .i64 e]):=by
  have cS:=fun H=>AV4 G H w h
  have cP:=fun H=>AC3 G H x y z
  rcases he with ⟨h1,rfl⟩|⟨h1,h2,rfl⟩
  · rw[h1] at cS
    refine AC6 Tryz.func84 rfl rfl rfl rfl rfl ?_
    repeat' (first|(apply F3;first|(apply C8;refine A8 ?_)|(apply C9;refine D8 rfl rfl ?_)|(apply E5;refine F5 rfl rfl rfl ?_;refine F7 rfl ?_)|(apply D6;refine D9 rfl rfl ?_)|(apply P5;refine R7 (O6 rfl rfl rfl) rfl ?_)|(apply H6;refine F9 rfl rfl rfl (cS _) rfl rfl ?_)|(apply H9;refine M6 rfl rfl rfl rfl rfl rfl rfl rfl ?_)|(apply K9;refine O5 rfl rfl rfl rfl rfl rfl (fun _=>?_))|(apply L6;refine O0 rfl rfl rfl rfl (fun _=>?_)))|(apply D7)|(apply H7)|(apply A7)|(refine G5 rfl ?_;apply I7)|(apply D5)|(apply J4))
    all_goals (refine d9 H (by (exact .inr rfl)) rfl rfl rfl I8 ?_;exact⟨rfl,rfl⟩)
  · rw[h1] at cS
    rw[h2] at cP
    refine AC6 Tryz.func84 rfl rfl rfl rfl rfl ?_
    repeat' (first|(apply F3;first|(apply C8;refine A8 ?_)|(apply C9;refine D8 rfl rfl ?_)|(apply E5;refine F5 rfl rfl rfl ?_;refine F7 rfl ?_)|(apply F4;refine F8 rfl rfl ?_;refine K5 rfl ?_)|(apply D6;refine D9 rfl rfl ?_)|(apply P5;refine R7 (O6 rfl rfl rfl) rfl ?_)|(apply H6;first|refine F9 rfl rfl rfl (cS _) rfl rfl ?_ |refine F9 rfl rfl rfl (cP _) rfl rfl ?_)|(apply H9;refine M6 rfl rfl rfl rfl rfl rfl rfl rfl ?_)|(apply K9;refine O5 rfl rfl rfl rfl rfl rfl (fun _=>?_))|(apply L6;refine O0 rfl rfl rfl rfl (fun _=>?_)))|(apply D7)|(apply G9)|(apply H7)|(apply A7)|(refine G5 rfl ?_;first|(apply I7)|(apply I5))|(apply D5)|(apply J4))
    all_goals (refine d9 H (by (exact .inr rfl)) rfl rfl rfl I8 ?_;exact⟨rfl,rfl⟩)
theorem B79 (G:Ctx) (H:List Ent) (w h:Nat) (x y z:Int) (hw:1≤w∧w≤160) (hh:1≤h∧h≤60) (hp:penB x y z=true):SC Tryz.prog G 84 [.int .i64 w,.int .i64 h,penV x y z] H fun v H'=>∃b,v= .tuple #[gridV w h (some ⟨b,0,none⟩) (w * h) (w * h),.int .i64 0]∧H'= .own 97 4 (some ⟨b,0,none⟩) (w * h) (w * h) (qds (List.replicate (w * h) (32,x,y,z)))::H:=by
  have cS:=fun H=>AV4 G H w h
  have cP:=fun H=>AC3 G H x y z
  have cB:=fun H=>Am9 G H w h x y z hw hh
  have h1:sizeE w h=0:=by rcases AL5 (w:Int) (h:Int) with ⟨h1,_⟩|⟨_,h1⟩;exact h1;omega
  rw[h1] at cS
  rw[hp] at cP
  generalize w * h=p at *
  refine AH0 Tryz.func84 rfl rfl rfl rfl rfl ?_
  repeat' (first|(apply F3;first|(apply C8;refine A8 ?_)|(apply C9;refine D8 rfl rfl ?_)|(apply E5;refine F5 rfl rfl rfl ?_;refine F7 rfl ?_)|(apply F4;refine F8 rfl rfl ?_;refine K5 rfl ?_)|(apply D6;refine D9 rfl rfl ?_)|(apply H6;first|refine F9 rfl rfl rfl (cS _) rfl rfl ?_ |refine F9 rfl rfl rfl (cP _) rfl rfl ?_ |(refine c_call rfl rfl rfl (cB _) rfl rfl ?_;rintro _ _ ⟨b,rfl,rfl⟩))|(apply H9;refine M6 rfl rfl rfl rfl rfl rfl rfl rfl ?_)|(apply K9;refine O5 rfl rfl rfl rfl rfl rfl (fun _=>?_))|(apply L6;refine O0 rfl rfl rfl rfl (fun _=>?_)))|(apply D7)|(apply G9)|(apply H7)|(apply A7)|(refine G5 rfl ?_;apply I5)|(apply D5))
  refine d9 (.own 97 4 (some ⟨b,0,none⟩) p p (qds (List.replicate p (32,x,y,z)))::H) (by (exact .inr rfl)) rfl rfl rfl I8 ?_
  exact⟨b,rfl,rfl⟩
end Go.Proofs.YtmmnimagbnlcmaaGreatDoor
end
section
namespace Go.Sx
open Go Go.RowKit Go.Fw
/-- A thing that is no cells is changed. -/
theorem Holds.setObj {G:Ctx} {H:List Ent} {w:World} {b:Nat} {o:Obj} (h:Holds G (.obj b o::H) w) (o':Obj):Holds G (.obj b o'::H) {w with heap:=w.heap.setIfInBounds b o'}:=by
  obtain⟨hB,hb⟩:G.B≤b∧w.heap[b]? =some o:=h.ok _ List.mem_cons_self
  obtain⟨hap,hapH⟩:=List.pairwise_cons.1 h.apart
  have hlt:b<w.heap.size:=Ae2 hb
  have ho:∀k,k≠b→(w.heap.setIfInBounds b o')[k]? =w.heap[k]? :=fun k hk=>by
    rw[Array.getElem?_setIfInBounds,if_neg (fun e=>hk e.symm)]
  have hn:(w.heap.setIfInBounds b o')[b]? =some o':=by
    rw[Array.getElem?_setIfInBounds,if_pos rfl,if_pos hlt]
  refine⟨h.below.trans ⟨rfl,rfl,rfl,Nat.le_of_eq (by simp),fun k hk=>ho k (by omega)⟩,by simpa using h.base,fun x hx=>?_,List.pairwise_cons.2 ⟨fun y hy k hk=>hap y hy k hk,hapH⟩⟩
  rcases List.mem_cons.1 hx with rfl|hx
  · exact⟨hB,hn⟩
  · exact Ent.ok_of (h.ok x (List.mem_cons_of_mem _ hx)) fun k hk=>ho k (fun e=>hap x hx b rfl (e▸hk))
section
variable {P:Program} {G:Ctx} {n:Sz} {ops:Array Oper} {Q:Post} {s:Fm} {H:List Ent} {o:Oper} {rest:List Oper}
theorem BH9 {t d:Nat} {x:Operand} {b:ByteArray} (hg:o.guard=none) (ho:o.op= .range t x) [hs:StrT P t] (hx:ev s x=some (.string b)) (h1:o.dst=some d) (h2:Nat.blt d n.n=true)
    (hk:∀r,SL P G n ops Q rest ((d,.pointer (some ⟨r,0,none⟩))::s) (.obj r (.stringIter b 0)::H)):SL P G n ops Q (o::rest) s H:=by
  have hd:=okd (n:=n) h1 h2
  simp only[←updd h1] at hk
  refine AC4 (.inl hg) fun act w ha hw K hK=>?_
  have hrun:=run_range_string (P:=P) w t b hs.here
  unfold Oper.wp execOp
  simp only[ho,ha.ev hx,Sem.run_bind,hrun,Result.andThen_ok]
  refine hK _ _ (hk _ _ _ (ha.put _ _ hd) (hw.obj (o:= .stringIter b 0) (by simp [World.iter,World.alloc,-World.alloc_eq]) (by simp [World.iter,World.alloc,-World.alloc_eq]) (fun k hk=>?_) rfl rfl rfl))
  exact Below.heap_alloc w _ k hk
theorem Au8 {d r pos:Nat} {x:Operand} {b:ByteArray} {H':List Ent} (hg:o.guard=none) (ho:o.op= .next x true) (hx:ev s x=some (.pointer (some ⟨r,0,none⟩))) [hp:PickObj H r (.stringIter b pos) H'] (h1:o.dst=some d) (h2:Nat.blt d n.n=true)
    (hy:pos<b.size→SL P G n ops Q rest ((d,.tuple #[.bool true,.int .i64 pos,.int .i32 (Utf8.decode b pos).1])::s) (.obj r (.stringIter b (pos+(Utf8.decode b pos).2))::H'))
    (hn:¬pos<b.size→SL P G n ops Q rest ((d,.tuple #[.bool false])::s) (.obj r (.stringIter b pos)::H')):SL P G n ops Q (o::rest) s H:=by
  have hd:=okd (n:=n) h1 h2
  simp only[←updd h1] at hy hn
  refine AC4 (.inl hg) fun act w ha hw K hK=>?_
  have hw1:=hw.pick hp.here
  have hb:w.heap[r]? =some (.stringIter b pos):=(hw1.ok _ List.mem_cons_self).2
  unfold Oper.wp execOp
  simp only[ho,ha.ev hx]
  by_cases h:pos<b.size
  · have hrun:(Instr.next (.pointer (some ⟨r,0,none⟩)) true o.type).run P w= .ok (.tuple #[.bool true,.int .i64 pos,.int .i32 (Utf8.decode b pos).1]) {w with heap:=w.heap.setIfInBounds r (.stringIter b (pos+(Utf8.decode b pos).2))}:=by
      simp [Instr.next,getObj,setObj,Sem.run_bind,Sem.run,hb,Result.andThen,h,goInt]
    simp only[Sem.run_bind,hrun,Result.andThen_ok]
    exact hK _ _ (hy h _ _ (ha.put _ _ hd) (hw1.setObj _))
  · have hrun:(Instr.next (.pointer (some ⟨r,0,none⟩)) true o.type).run P w= .ok (.tuple #[.bool false]) w:=by
      simp [Instr.next,getObj,Sem.run_bind,Sem.run,hb,Result.andThen,h]
    simp only[Sem.run_bind,hrun,Result.andThen_ok]
    exact hK _ _ (hn h _ _ (ha.put _ _ hd) hw1)
/-- The next rune, by what it is. -/
theorem B06 {d r pos pos' cn wd:Nat} {x:Operand} {b:ByteArray} {H':List Ent} {v:Int} (hg:o.guard=none) (ho:o.op= .next x true) (hx:ev s x=some (.pointer (some ⟨r,0,none⟩))) [hp:PickObj H r (.stringIter b pos) H'] (h1:o.dst=some d) (h2:Nat.blt d n.n=true)
    (hlt:pos<b.size) (hd:Utf8.decode b pos=(cn,wd)) (hv:(cn:Int)=v) (hq:pos+wd=pos')
    (hy:SL P G n ops Q rest ((d,.tuple #[.bool true,.int .i64 pos,.int .i32 v])::s) (.obj r (.stringIter b pos')::H')):SL P G n ops Q (o::rest) s H:=
  Au8 (pos:=pos) hg ho hx h1 h2 (fun _=>by rw[hd];dsimp only;rw[hv,hq];exact hy) (fun h=>absurd hlt h)
theorem By3 {d r pos:Nat} {x:Operand} {b:ByteArray} {H':List Ent} (hg:o.guard=none) (ho:o.op= .next x true) (hx:ev s x=some (.pointer (some ⟨r,0,none⟩))) [hp:PickObj H r (.stringIter b pos) H'] (h1:o.dst=some d) (h2:Nat.blt d n.n=true)
    (hlt:¬pos<b.size) (hn:SL P G n ops Q rest ((d,.tuple #[.bool false])::s) (.obj r (.stringIter b pos)::H')):SL P G n ops Q (o::rest) s H:=
  Au8 (pos:=pos) hg ho hx h1 h2 (fun h=>absurd h hlt) (fun _=>hn)
end
end Go.Sx
end
section
namespace Go.Sx
open Go Go.RowKit Go.Fw
def flatB:TypeDesc→Bool
  | .int _| .string| .bool=>true
  | _=>false
/-- A map's type: its keys are flat. -/
class MapT (P:Program) (t:TypeId) (k e:outParam TypeId) (kd:outParam TypeDesc):Prop where
  here:P.underlying t=some (.map k e)
  key:P.underlying k=some kd
  flat:flatB kd=true
section
variable {P:Program}
theorem Ag5 {k:TypeId} {kd:TypeDesc} (hk:P.underlying k=some kd) (hf:flatB kd=true) (em:Bool) (m:Nat) (v:Value) (w:World):(Instr.checkKey em (m+1) k v).run P w= .ok () w:=by
  unfold Instr.checkKey
  simp only[Sem.run_bind,run_underlying hk,Result.andThen_ok]
  cases kd<;>(first|(simp [flatB] at hf;done)|rfl)
theorem Ap1 {t k e:TypeId} {kd:TypeDesc} {w:World} {r clock:Nat} {es:Array MapEntry} {key v:Value} (h:MapT P t k e kd) (hb:w.heap[r]? =some (.map es clock)) (hn:Instr.findNow kd key es.toList 0=some none):
    (Instr.mapUpdate t (.map (some r)) key v).run P w= .ok () {w with heap:=w.heap.setIfInBounds r (.map (es.push ⟨key,v,clock⟩) (clock+1))}:=by
  simp [Instr.mapUpdate,run_underlying h.here,run_underlying h.key,MapKept.run_getObj_map hb,Ag5 h.key h.flat,Instr.findKey,hn,Result.andThen,setObj,Sem.run,hb]
end
section
variable {P:Program} {G:Ctx} {n:Sz} {ops:Array Oper} {Q:Post} {s:Fm} {H:List Ent} {o:Oper} {rest:List Oper}
theorem BW3 {t d:Nat} (hg:o.guard=none) (ho:o.op= .makeMap t none) (h1:o.dst=some d) (h2:Nat.blt d n.n=true)
    (hk:∀r,SL P G n ops Q rest ((d,.map (some r))::s) (.obj r (.map #[] 0)::H)):SL P G n ops Q (o::rest) s H:=by
  have hd:=okd (n:=n) h1 h2
  simp only[←updd h1] at hk
  refine AC4 (.inl hg) fun act w ha hw K hK=>?_
  have hrun:(Instr.makeMap t none).run P w= .ok (.map (some w.heap.size)) (w.alloc (.map #[] 0)):=by
    simp [Instr.makeMap,newObj,Sem.run_bind,Sem.run,Result.andThen,World.alloc,-World.alloc_eq]
  unfold Oper.wp execOp
  simp only[ho,Option.map_none,Sem.run_bind,hrun,Result.andThen_ok]
  refine hK _ _ (hk _ _ _ (ha.put _ _ hd) (hw.obj (o:= .map #[] 0) (by simp [World.alloc,-World.alloc_eq]) (by simp [World.alloc,-World.alloc_eq]) (fun k hk=>?_) rfl rfl rfl))
  exact heap_alloc_old w _ hk
class HasObj (H:List Ent) (b:Nat) (o:outParam Obj):Prop where
  here:Ent.obj b o∈H
instance (priority:=low) CG0 {H:List Ent} {b:Nat} {o:Obj} {x:Ent} [h:HasObj H b o]:HasObj (x::H) b o:=⟨List.mem_cons_of_mem _ h.here⟩
instance CF7 {H:List Ent} {b:Nat} {o:Obj}:HasObj (.obj b o::H) b o:=⟨List.mem_cons_self⟩
theorem BI2 {t k e d bm clock:Nat} {kd:TypeDesc} {x:Operand} {es:Array MapEntry} (hg:o.guard=none) (ho:o.op= .range t x) [h:MapT P t k e kd] (hx:ev s x=some (.map (some bm))) [hp:HasObj H bm (.map es clock)] (h1:o.dst=some d) (h2:Nat.blt d n.n=true)
    (hk:∀r,SL P G n ops Q rest ((d,.pointer (some ⟨r,0,none⟩))::s) (.obj r (.mapIter (some bm) clock #[] clock)::H)):SL P G n ops Q (o::rest) s H:=by
  have hd:=okd (n:=n) h1 h2
  simp only[←updd h1] at hk
  refine AC4 (.inl hg) fun act w ha hw K hK=>?_
  have hb:w.heap[bm]? =some (.map es clock):=(hw.ok _ hp.here).2
  have hrun:=run_range_map (P:=P) w t k e bm es clock h.here hb
  unfold Oper.wp execOp
  simp only[ho,ha.ev hx,Sem.run_bind,hrun,Result.andThen_ok]
  refine hK _ _ (hk _ _ _ (ha.put _ _ hd) (hw.obj (o:= .mapIter (some bm) clock #[] clock) (by simp [World.alloc,-World.alloc_eq]) (by simp [World.alloc,-World.alloc_eq]) (fun k hk=>?_) rfl rfl rfl))
  exact heap_alloc_old w _ hk
theorem BO6 {d r bm since c0 clock:Nat} {seen:Array Nat} {es:Array MapEntry} {x:Operand} {H':List Ent} (hg:o.guard=none) (ho:o.op= .next x false) (hx:ev s x=some (.pointer (some ⟨r,0,none⟩))) [hp:PickObj H r (.mapIter (some bm) since seen c0) H'] [hb:HasObj H' bm (.map es clock)] (h1:o.dst=some d) (h2:Nat.blt d n.n=true)
    (hold:∀y∈es.toList,y.born<since) (hsc:since≤c0)
    (hy:∀y∈(leftOf es seen).toList,SL P G n ops Q rest ((d,.tuple #[.bool true,y.key,y.val])::s) (.obj r (.mapIter (some bm) since (seen.push y.born) clock)::H'))
    (hn:(leftOf es seen).size=0→SL P G n ops Q rest ((d,.tuple #[.bool false])::s) (.obj r (.mapIter (some bm) since seen c0)::H')):SL P G n ops Q (o::rest) s H:=by
  have hd:=okd (n:=n) h1 h2
  simp only[←updd h1] at hy hn
  refine AC4 (.inl hg) fun act w ha hw K hK=>?_
  have hw1:=hw.pick hp.here
  have hr:w.heap[r]? =some (.mapIter (some bm) since seen c0):=(hw1.ok _ List.mem_cons_self).2
  have hbm:w.heap[bm]? =some (.map es clock):=(hw1.ok _ (List.mem_cons_of_mem _ hb.here)).2
  unfold Oper.wp execOp
  simp only[ho,ha.ev hx]
  rcases run_next_at (P:=P) w o.type r bm since c0 seen es clock hr hbm hold hsc with ⟨h0,hrun⟩|⟨y,hym,w1,hw1',hrun⟩
  · simp only[Sem.run_bind,hrun,Result.andThen_ok]
    exact hK _ _ (hn h0 _ _ (ha.put _ _ hd) hw1)
  · simp only[Sem.run_bind,hrun,Result.andThen_ok]
    refine hK _ _ (hy y hym _ _ (ha.put _ _ hd) ?_)
    rcases hw1' with rfl|rfl
    · exact hw1.setObj _
    · exact hw1.drew.setObj _
end
end Go.Sx
end
section
namespace Go.Sx
open Go Go.RowKit Go.Fw
/-- How long a list is. -/
class Len (N:List Value) (m:outParam Nat):Prop where
  here:N.length=m
def big (a N c:List Value):List Value:=a++(N++c)
section
variable {a N c:List Value}
theorem o9 {m k:Nat} [h:Len N m] (hk:Nat.beq (a.length+(m+c.length)) k=true):(big a N c).length=k:=by
  have:=h.here;have:=Nat.eq_of_beq_eq_true hk;simp [big];omega
theorem Af6 {off:Nat} {v:Value} (h:a[off]? =some v):(big a N c)[off]? =some v:=by
  unfold big;rw[List.getElem?_append_left (List.getElem?_eq_some_iff.1 h).1];exact h
theorem AO4 {off:Nat} {v:Value} (h2:a.length≤off) (h:N[off-a.length]? =some v):(big a N c)[off]? =some v:=by
  unfold big
  rw[List.getElem?_append_right h2,List.getElem?_append_left (List.getElem?_eq_some_iff.1 h).1];exact h
theorem p9 {off m:Nat} {v:Value} [hN:Len N m] (h2:Nat.ble (a.length+m) off=true) (h:c[off-(a.length+m)]? =some v):(big a N c)[off]? =some v:=by
  have h2:=Nat.le_of_ble_eq_true h2
  have hN:=hN.here
  unfold big
  rw[List.getElem?_append_right (by omega),List.getElem?_append_right (by omega),hN,Nat.sub_sub];exact h
theorem Am4:∀{l:List Value} {n:Nat} {r:List Value},take? l n=some r→r.length=n∧l.take n=r
  | l,0,r,h=>by simp only[take?,Option.some.injEq] at h;subst h;simp
  | [],n+1,r,h=>by simp [take?] at h
  | x::l,n+1,r,h=>by
    unfold take? at h
    split at h
    · cases h
    · rename_i l1 h1
      simp only[Option.some.injEq] at h
      subst h
      obtain⟨e1,e2⟩:=Am4 h1
      simp [e1,e2]
theorem AK2:∀{l:List Value} {n:Nat} {r:List Value},r.length=n→l.take n=r→take? l n=some r
  | l,0,r,h,h2=>by have:=List.eq_nil_of_length_eq_zero h;subst this;unfold take?;rfl
  | [],n+1,r,h,h2=>by simp at h2;subst h2;simp at h
  | x::l,n+1,r,h,h2=>by
    rw[List.take_succ_cons] at h2
    subst h2
    unfold take?
    rw[AK2 (r:=l.take n) (by simpa using h) rfl]
theorem AG1 {off sz:Nat} {r:List Value} (h:take? (a.drop off) sz=some r):take? ((big a N c).drop off) sz=some r:=by
  obtain⟨e1,e2⟩:=Am4 h
  by_cases h0:sz=0
  · subst h0;simp at e2;subst e2;unfold take?;rfl
  have h1:off+sz≤a.length:=by
    have:((a.drop off).take sz).length=sz:=by rw[e2,e1]
    simp at this;omega
  refine AK2 e1 ?_
  unfold big
  rw[List.drop_append_of_le_length (by omega),List.take_append_of_le_length (by simp;omega)];exact e2
theorem AB3 {off m:Nat} [hN:Len N m] (h:a.length=off):take? ((big a N c).drop off) m=some N:=by
  refine AK2 hN.here ?_
  unfold big
  rw[←h,List.drop_left,←hN.here,List.take_left]
theorem Z9 {off m sz:Nat} {r:List Value} [hN:Len N m] (h2:Nat.ble (a.length+m) off=true) (h:take? (c.drop (off-(a.length+m))) sz=some r):take? ((big a N c).drop off) sz=some r:=by
  have h2:=Nat.le_of_ble_eq_true h2
  have hN:=hN.here
  rw[show (big a N c).drop off=c.drop (off-(a.length+m)) from ?_]
  · exact h
  unfold big
  rw[List.drop_append,List.drop_eq_nil_of_le (by omega),List.nil_append,List.drop_append,List.drop_eq_nil_of_le (by omega),List.nil_append,hN,Nat.sub_sub]
theorem BD3 {off:Nat} {v:Value} {a':List Value} (h:set? a off v=some a'):(big a N c).set off v=big a' N c:=by
  obtain⟨e1,e2⟩:=AS2 h
  subst e1
  unfold big
  rw[List.set_append_left _ _ e2]
theorem Bj5 {off m:Nat} {v:Value} {c':List Value} [hN:Len N m] (h2:Nat.ble (a.length+m) off=true) (h:set? c (off-(a.length+m)) v=some c'):(big a N c).set off v=big a N c':=by
  obtain⟨e1,e2⟩:=AS2 h
  have h2:=Nat.le_of_ble_eq_true h2
  have hN:=hN.here
  subst e1
  unfold big
  rw[List.set_append_right _ _ (by omega),List.set_append_right _ _ (by omega),hN,Nat.sub_sub]
theorem A49:∀(vs l:List Value) (k:Nat),k+vs.length≤l.length→putL? l k vs=some (l.take k++(vs++l.drop (k+vs.length)))
  | [],l,k,h=>by unfold putL?;simp
  | v::vs,l,k,h=>by
    rw[List.length_cons] at h
    have hk:k<l.length:=by omega
    have hs:set? l k v=some (l.set k v):=by
      have key:∀(l:List Value) (k:Nat),k<l.length→set? l k v=some (l.set k v):=by
        intro l
        induction l with
        | nil=>intro k h;simp at h
        | cons x l ih=>
          intro k h
          cases k with
          | zero=>rfl
          | succ k=>unfold set?;rw[ih k (by simpa using h)];rfl
      exact key l k hk
    unfold putL?
    rw[hs]
    dsimp only
    rw[A49 vs (l.set k v) (k+1) (by rw[List.length_set];omega)]
    congr 1
    have e1:(l.set k v).take (k+1)=l.take k++[v]:=by
      rw[List.take_set,List.take_succ_eq_append_getElem hk,List.set_append_right _ _ (by rw[List.length_take];omega),List.length_take,show k-min k l.length=0 from by omega]
      rfl
    have e2:(l.set k v).drop (k+1+vs.length)=l.drop (k+(v::vs).length):=by
      rw[List.drop_set_of_lt (by omega),List.length_cons]
      congr 1
      omega
    rw[e1,e2,List.append_assoc]
    rfl
theorem B56 {offs:List (Nat×Nat)} {l cs:List Value} {i off sz:Nat} {r:List (Nat×List Value)} (h1:offs[i]? =some (off,sz)) (h2:cs.length=sz) (h3:0<sz) (h4:off+sz≤l.length):AB2 offs l ((i,cs)::r)=AB2 offs (l.take off++(cs++l.drop (off+sz))) r:=by
  conv=>lhs;unfold AB2
  rw[h1]
  dsimp only
  rw[show Nat.beq cs.length sz=true from by rw[h2];exact Nat.beq_refl _,show Nat.blt 0 sz=true from by rw[Nat.blt_eq];exact h3]
  subst h2
  rw[A49 cs l off h4]
  rfl
theorem At1 {l l' vs:List Value} {off:Nat} (h:putL? l off vs=some l') (h0:vs≠[]):over l off vs=l'∧off+vs.length≤l.length:=by
  obtain⟨e1,e2,-⟩:=Aa5 vs l l' off 0 h
  have h0':vs.length≠0:=fun e=>h0 (List.eq_nil_of_length_eq_zero e)
  have e2:off+vs.length≤l.length:=by omega
  refine⟨?_,e2⟩
  have:=A49 vs l off e2
  rw[h] at this
  rw[Option.some.inj this]
  simp [over]
theorem AY9 {off:Nat} {vs a':List Value} (h:putL? a off vs=some a') (h0:vs≠[]):over (big a N c) off vs=big a' N c:=by
  obtain⟨e1,e2⟩:=At1 h h0
  rw[←e1]
  unfold over big
  rw[List.take_append_of_le_length (by omega),List.drop_append_of_le_length (by omega)]
  simp only[List.append_assoc]
theorem AH8 {vs:List Value} {m off:Nat} [hN:Len N m] (ho:a.length=off) (h:vs.length=m):over (big a N c) off vs=big a vs c:=by
  subst ho
  unfold over big
  rw[List.take_left,←List.drop_drop,List.drop_left,h,←hN.here,List.drop_left,List.append_assoc]
end
section
variable {P:Program} {G:Ctx} {n:Sz} {ops:Array Oper} {Q:Post} {s:Fm} {H:List Ent} {o:Oper} {rest:List Oper}
/-- Several cells, into a part of a block, by what it becomes. -/
theorem AE0 {t t' sz:Nat} {x y:Operand} {b off:Nat} {cs cs' vs:List Value} {H':List Ent} (hg:o.guard=none) (ho:o.op= .store t x y) [h:Ag P t sz] (hx:ev s x=some (.pointer (some ⟨b,off,none⟩))) (hy:ev s y=some (.agg vs.toArray)) [hp:PickBlk H b t' cs H'] (h1:vs.all (·.oneCell')=true)
    (hv:vs.length=sz) (hl:off+sz≤cs.length) (hs:over cs off vs=cs') (hd:o.dst=none) (hk:SL P G n ops Q rest s (.blk b t' cs'::H')):SL P G n ops Q (o::rest) s H:=by
  subst hs
  exact AO8 hg ho hx hy h1 hv hl hd hk
/-- The same, told by a function that spells its answer out. -/
theorem AU3 {t t' sz:Nat} {x y:Operand} {b off:Nat} {cs cs' vs:List Value} {H':List Ent} (hg:o.guard=none) (ho:o.op= .store t x y) [h:Ag P t sz] (hx:ev s x=some (.pointer (some ⟨b,off,none⟩))) (hy:ev s y=some (.agg vs.toArray)) [hp:PickBlk H b t' cs H'] (h1:vs.all (·.oneCell')=true)
    (hv:vs.length=sz) (hz:Nat.blt 0 sz=true) (hs:putL? cs off vs=some cs') (hd:o.dst=none) (hk:SL P G n ops Q rest s (.blk b t' cs'::H')):SL P G n ops Q (o::rest) s H:=by
  have h0:vs≠[]:=fun e=>by subst e;subst hv;simp at hz
  obtain⟨e1,e2⟩:=At1 hs h0
  exact AE0 hg ho hx hy h1 hv (by omega) e1 hd hk
/-- A whole block written, its size told as a fact. -/
theorem r9 {t t' sz:Nat} {x y:Operand} {b:Nat} {cs cs':List Value} {H':List Ent} (hg:o.guard=none) (ho:o.op= .store t x y) [h:Ag P t sz] (hx:ev s x=some (.pointer (some ⟨b,0,none⟩))) (hy:ev s y=some (.agg cs'.toArray)) [hp:PickBlk H b t' cs H'] (h1:cs'.all (·.oneCell')=true)
    (hl':cs'.length=sz) (hl2':cs.length=sz) (hd:o.dst=none) (hk:SL P G n ops Q rest s (.blk b t' cs'::H')):SL P G n ops Q (o::rest) s H:=by
  obtain⟨d,-,-,h3⟩:=h.here
  exact AX8 hg ho hx hy hp.here h1 (by rw[h3,hl']) (by rw[hl',hl2']) hd hk
/-- An entry put into a map that is being made. -/
theorem Bm5 {t k e r clock:Nat} {kd:TypeDesc} {m x y:Operand} {es:Array MapEntry} {key v:Value} {H':List Ent} (hg:o.guard=none) (ho:o.op= .insert t m x y) [h:MapT P t k e kd] (hm:ev s m=some (.map (some r))) (hx:ev s x=some key) (hy:ev s y=some v) [hp:PickObj H r (.map es clock) H']
    (hn:Instr.findNow kd key es.toList 0=some none) (hd:o.dst=none) (hk:SL P G n ops Q rest s (.obj r (.map (es.push ⟨key,v,clock⟩) (clock+1))::H')):SL P G n ops Q (o::rest) s H:=by
  refine AC4 (.inl hg) fun act w ha hw K hK=>?_
  have hw1:=hw.pick hp.here
  have hb:w.heap[r]? =some (.map es clock):=(hw1.ok _ List.mem_cons_self).2
  have hrun:=Ap1 h hb (v:=v) hn
  unfold Oper.wp execOp
  simp only[ho,ha.ev hm,ha.ev hx,ha.ev hy,Sem.run_bind,hrun,Result.andThen_ok]
  exact hK _ _ (hk _ _ (by rw[hd];exact ha) (hw1.setObj _))
/-- The round's key and value. -/
theorem Bt9 {x:Operand} {r bm since clock:Nat} {seen:Array Nat} {es:Array MapEntry} {y:MapEntry} (ho:o.op= .entry x) (hx:ev s x=some (.pointer (some ⟨r,0,none⟩))) [h1:HasObj H r (.mapIter (some bm) since (seen.push y.born) clock)] [h2:HasObj H bm (.map es clock)] (he:y∈es.toList) (hn:(es.toList.map (·.born)).Nodup):Yields P G n s H o (.tuple #[y.key,y.val]):=fun a w ha hw=>by
  have hr:w.heap[r]? =_:=(hw.ok _ h1.here).2
  have hb:w.heap[bm]? =_:=(hw.ok _ h2.here).2
  unfold execOp
  simp only[ho,ha.ev hx]
  exact Y1 (run_entry_at w r bm since seen es clock y hr hb he hn)
end
end Go.Sx
end
namespace Go.Proofs.YtmmnimagbnlcmaaGreatDoor
open Go Go.RowKit Go.Fw Go.Sx
set_option maxRecDepth 100000
section
set_option maxHeartbeats 1000000
/-- What a screen holds. -/
structure Scr where
  w:Nat
  h:Nat
  row:Int
  col:Int
  late:Bool
  top:Int
  bot:Int
  pf:Int
  pr:Int
  pb:Int
  modes:Int
  st:Nat→Nat
  p0:Int
  p1:Int
  sh:Int
  sr:Int
  sc:Int
  spf:Int
  spr:Int
  spb:Int
  so:Bool
  sp0:Int
  sp1:Int
  ssh:Int
  ti:ByteArray
  C:List Qd
  D:List Qd
  past:List (List Qd)
/-- Its cells in memory: where its rows lie. -/
def scnC (s:Scr) (ga:Option Addr) (gn gc:Nat) (oa:Option Addr) (on oc:Nat) (pa:Option Addr) (pn pc:Nat):List Value:=
  (.int .i64 s.w:: .int .i64 s.h:: .slice ga gn gc:: .int .i64 s.row:: .int .i64 s.col:: .bool s.late:: .int .i64 s.top:: .int .i64 s.bot:: .int .i64 s.pf:: .int .i64 s.pr:: .int .i64 s.pb:: .int .i64 s.modes:: .int .u64 (s.st 0):: .int .u64 (s.st 1):: .int .u64 (s.st 2):: .int .u64 (s.st 3):: .int .i64 s.p0:: .int .i64 s.p1:: .int .i64 s.sh:: .int .i64 s.sr:: .int .i64 s.sc:: .int .i64 s.spf:: .int .i64 s.spr:: .int .i64 s.spb:: .bool s.so:: .int .i64 s.sp0:: .int .i64 s.sp1:: .int .i64 s.ssh:: .int .i64 s.w:: .int .i64 s.h:: .slice oa on oc:: .string s.ti:: .slice pa pn pc::[])
def newS (w h:Nat):Scr:=⟨w,h,0,0,false,0,h,0,0,0,12,usF 31,1,1,0,0,0,0,0,0,false,1,1,0,⟨#[]⟩,List.replicate (w * h) (32,0,0,0),List.replicate (w * h) (32,0,0,0),[]⟩
def scnZ:List Value:=(.int .i64 0:: .int .i64 0:: .slice none 0 0:: .int .i64 0:: .int .i64 0:: .bool false:: .int .i64 0:: .int .i64 0:: .int .i64 0:: .int .i64 0:: .int .i64 0:: .int .i64 0:: .int .u64 0:: .int .u64 0:: .int .u64 0:: .int .u64 0:: .int .i64 0:: .int .i64 0:: .int .i64 0:: .int .i64 0:: .int .i64 0:: .int .i64 0:: .int .i64 0:: .int .i64 0:: .bool false:: .int .i64 0:: .int .i64 0:: .int .i64 0:: .int .i64 0:: .int .i64 0:: .slice none 0 0:: .string .empty:: .slice none 0 0::[])
attribute [local irreducible] SW SL SQ AtQ SV SC BB LD PK Yields SO SOT SOA SY usF
theorem Bm0 (G:Ctx) (H:List Ent) (w h:Int) (hs:sizeE w h=1):SV Tryz.prog G 45 [.int .i64 w,.int .i64 h] H (.tuple #[.agg scnZ.toArray,.int .i64 1]):=by
  have cN:=fun H=>CI7 G H w h 0 0 0 1 (.inl ⟨hs,rfl⟩)
  refine P7 Tryz.func45 rfl rfl rfl rfl rfl ?_
  repeat' (first|(apply F3;first|(apply C8;refine A8 ?_)|(apply C9;refine D8 rfl rfl ?_)|(apply E5;refine F5 rfl rfl rfl ?_;refine F7 rfl ?_)|(apply D6;refine D9 rfl rfl ?_)|(apply Q6;refine U2 (K7 rfl rfl rfl) rfl ?_)|(apply P5;refine R7 (O6 rfl rfl rfl) rfl ?_)|(apply H6;refine F9 rfl rfl rfl (cN _) rfl rfl ?_)|(apply H9;refine M6 rfl rfl rfl rfl rfl rfl rfl rfl ?_)|(apply L6;refine O0 rfl rfl rfl rfl (fun _=>?_)))|(apply D7)|(apply H7)|(apply A7)|(refine G5 rfl ?_;apply I7)|(apply D5)|(apply J4))
  all_goals (refine d9 (H) (by (exact .inr rfl)) rfl (by (rfl)) rfl I8 ?_;exact⟨rfl,rfl⟩)
theorem Ar5 (G:Ctx) (H:List Ent) (w h:Nat) (hw:1≤w∧w≤160) (hh:1≤h∧h≤60):SC Tryz.prog G 45 [.int .i64 w,.int .i64 h] H fun v H'=>∃ga oa c,v= .tuple #[.agg (scnC (newS w h) ga (w * h) (w * h) oa (w * h) c none 0 0).toArray,.int .i64 0]∧H'= .own 97 4 oa (w * h) c (qds (newS w h).D):: .own 97 4 ga (w * h) (w * h) (qds (newS w h).C)::H:=by
  have hp:w * h≤100000:=Nat.le_trans (Nat.mul_le_mul hw.2 hh.2) (by decide)
  have cN:=fun H=>B79 G H w h 0 0 0 hw hh (by decide+kernel)
  have cC:=fun (H:List Ent) {vs:List Value} (a:Option Addr) [RdC G H a vs] (hv:vs=qds (List.replicate (w * h) (32,0,0,0)))=>AT5 G H (List.replicate (w * h) (32,0,0,0)) (w:Int) (h:Int) a (w * h) (w * h) hv (by simp) hp
  have cU:=fun H=>Bc6 G H
  have hC:(newS w h).C=List.replicate (w * h) (32,0,0,0):=rfl
  have hD:(newS w h).D=List.replicate (w * h) (32,0,0,0):=rfl
  rw[hC,hD]
  have hscr:∀ga oa c p,p=w * h→scnC (newS w h) ga p p oa p c none 0 0=(.int .i64 w:: .int .i64 h:: .slice ga p p:: .int .i64 0:: .int .i64 0:: .bool false:: .int .i64 0:: .int .i64 h:: .int .i64 0:: .int .i64 0:: .int .i64 0:: .int .i64 12:: .int .u64 (usF 31 0):: .int .u64 (usF 31 1):: .int .u64 (usF 31 2):: .int .u64 (usF 31 3):: .int .i64 1:: .int .i64 1:: .int .i64 0:: .int .i64 0:: .int .i64 0:: .int .i64 0:: .int .i64 0:: .int .i64 0:: .bool false:: .int .i64 1:: .int .i64 1:: .int .i64 0:: .int .i64 w:: .int .i64 h:: .slice oa p c:: .string ⟨#[]⟩:: .slice none 0 0::[]):=fun _ _ _ _ _=>rfl
  generalize hP:w * h=p at *
  generalize List.replicate p ((32,0,0,0):Qd)=L at *
  refine J3 Tryz.func45 rfl rfl rfl rfl rfl ?_
  repeat' (first|(apply F3;first|(apply C8;refine A8 ?_)|(apply C9;refine D8 rfl rfl ?_)|(apply E5;refine F5 rfl rfl rfl ?_;refine F7 rfl ?_)|(apply D6;refine D9 rfl rfl ?_)|(apply Q6;refine U2 (K7 rfl rfl rfl) rfl ?_)|(apply P5;refine R7 (O6 rfl rfl rfl) rfl ?_)|(apply H6;refine c_call rfl rfl rfl (cN _) rfl rfl ?_;rintro _ _ ⟨b,rfl,rfl⟩)|(apply H9;refine M6 rfl rfl rfl rfl rfl rfl rfl rfl ?_)|(apply L6;refine O0 rfl rfl rfl rfl (fun _=>?_)))|(apply D7)|(apply G9)|((fail_if_success (refine K3 (id:=5) ?_));apply A7)|(refine G5 rfl ?_;apply I5)|(apply D5))
  all_goals (skip)
  rename_i b1 b2 b3
  repeat' (first|(apply F3;first|(apply C8;refine A8 ?_)|(apply H6;first|refine F9 rfl rfl rfl (cU _) rfl rfl ?_ |(refine c_call rfl rfl rfl (cC _ _ rfl) rfl rfl ?_;rintro _ _ ⟨oa,c,rfl,rfl⟩))|(apply H9;refine M6 rfl rfl rfl rfl rfl rfl rfl rfl ?_))|(apply U4;refine R5 (k:=0) I8 ?_)|(apply V6;first|(refine O9 rfl ?_)|(refine P8 rfl rfl rfl rfl (by kernel_rfl) (by decide+kernel) (by decide+kernel) ?_;first|(apply U5;refine I4 (V4 rfl rfl) ?_)|(apply U9;refine U6 rfl ?_;refine K5 rfl ?_)|(apply Z0;refine I4 (X7 rfl rfl) ?_)|(apply AH3;refine I4 (O6 rfl rfl rfl) ?_))|(refine P9 rfl ?_)|(refine R4 (by decide+kernel) ?_)|(refine S9 (by kernel_rfl) ?_))|(apply X4;first|(refine T9 rfl)|(refine U7 (by decide+kernel) ?_)|(refine U0 rfl ?_ ?_))|(apply H7)|(apply D5)|(refine K3 (id:=5) ?_;refine V3 (.blk b3 36 [.int .i64 1,.int .i64 1]:: .blk b2 29 [.int .i64 w,.int .i64 h,.slice (some ⟨b,0,none⟩) p p]:: .own 97 4 (some ⟨b,0,none⟩) p p (qds L)::H) I8 ?_))
  refine d9 (.own 97 4 oa p c (qds L):: .own 97 4 (some ⟨b,0,none⟩) p p (qds L)::H) (by (exact .inr rfl)) rfl (by (rfl)) rfl I8 ?_
  exact⟨some ⟨b,0,none⟩,oa,c,by rw[hscr _ _ _ _ rfl];rfl,rfl⟩
end
section
set_option maxHeartbeats 1000000
/-- A terminal's cells: its screen, and what it has sent. -/
def trmC (s:Scr) (ga:Option Addr) (gn gc:Nat) (oa:Option Addr) (on oc:Nat) (pa:Option Addr) (pn pc:Nat) (t:ByteArray):List Value:=
  (.int .i64 s.w:: .int .i64 s.h:: .slice ga gn gc:: .int .i64 s.row:: .int .i64 s.col:: .bool s.late:: .int .i64 s.top:: .int .i64 s.bot:: .int .i64 s.pf:: .int .i64 s.pr:: .int .i64 s.pb:: .int .i64 s.modes::
   .int .u64 (s.st 0):: .int .u64 (s.st 1):: .int .u64 (s.st 2):: .int .u64 (s.st 3):: .int .i64 s.p0:: .int .i64 s.p1:: .int .i64 s.sh:: .int .i64 s.sr:: .int .i64 s.sc:: .int .i64 s.spf:: .int .i64 s.spr:: .int .i64 s.spb:: .bool s.so:: .int .i64 s.sp0:: .int .i64 s.sp1:: .int .i64 s.ssh::
   .int .i64 s.w:: .int .i64 s.h:: .slice oa on oc:: .string s.ti:: .slice pa pn pc:: .string t::[])
def l6 (n lo hi:Int):Int:=max lo (min n hi)
attribute [local irreducible] SW SL SQ AtQ SV SC BB LD PK Yields SO SOT SOA SY
theorem Ax3 (G:Ctx) (H:List Ent) (n lo hi:Int):SV Tryz.prog G 207 [.int .i64 n,.int .i64 lo,.int .i64 hi] H (.int .i64 (l6 n lo hi)):=by
  refine AC6 Tryz.func207 rfl rfl rfl rfl rfl ?_
  repeat' (first|(apply F3;first|(apply C8;refine A8 ?_)|(apply C9;refine D8 rfl rfl ?_)|(apply D6;refine D9 rfl rfl ?_)|(apply J5;first|(refine s_call (AQ3 rfl rfl rfl) rfl ?_)|refine s_call (CL6 rfl rfl rfl rfl) rfl ?_))|(apply D7)|(apply H7)|(apply A7)|(apply D5))
  have e:(if hi<n then hi else n)=min n hi:=by split<;>omega
  rw[e]
  refine M3 (by (exact .inr rfl)) rfl N7 ?_
  rfl
theorem BU0 (G:Ctx) (H:List Ent) (s:Scr) (tb:Nat) (ga:Option Addr) (gn gc:Nat) (oa:Option Addr) (on oc:Nat) (pa:Option Addr) (pn pc:Nat) (t:ByteArray) [hb:HasBlk H tb 158 (trmC s ga gn gc oa on oc pa pn pc t)]:SV Tryz.prog G 156 [.pointer (some ⟨tb,0,none⟩)] H (penV 0 0 s.pb):=by
  refine M5 Tryz.func156 rfl rfl rfl rfl rfl ?_
  repeat' (first|(apply F3;first|(apply C8;refine A8 ?_)|(apply C9;refine D8 rfl rfl ?_)|(apply F4;refine F8 rfl rfl ?_;refine G6 rfl ?_)|(apply G7;first|refine G8 (E8 rfl rfl) rfl ?_ |refine G8 (w9 rfl rfl) rfl ?_)|(apply P5;refine R7 (O6 rfl rfl rfl) rfl ?_)|(apply K8;refine M8 (H8 rfl rfl) rfl ?_)|(apply H9;refine M6 rfl rfl rfl rfl rfl rfl rfl rfl ?_)|(apply L6;refine O0 rfl rfl rfl rfl (fun _=>?_)))|(apply D7)|(apply H7)|(apply A7)|(apply D5))
  refine d9 (H) (by (exact .inr rfl)) rfl (by (rfl)) rfl I8 ?_
  exact⟨rfl,rfl⟩
theorem CA2 (G:Ctx) (H:List Ent) (s:Scr) (m:Int) (tb:Nat) (ga:Option Addr) (gn gc:Nat) (oa:Option Addr) (on oc:Nat) (pa:Option Addr) (pn pc:Nat) (t:ByteArray) (h1:0≤s.modes∧s.modes≤2047) (h2:0≤m∧m≤2047) [hb:HasBlk H tb 158 (trmC s ga gn gc oa on oc pa pn pc t)]:SV Tryz.prog G 154 [.pointer (some ⟨tb,0,none⟩),.int .i64 m] H (.bool (iand s.modes m !=0)):=by
  refine P7 Tryz.func154 rfl rfl rfl rfl rfl ?_
  repeat' (first|(apply F3;first|(apply C8;refine A8 ?_)|(apply C9;refine D8 rfl rfl ?_)|(apply E5;refine F5 rfl rfl rfl ?_;first|(apply AW4;refine A10 (by (omega)) (by (omega)) (by (omega)) (by (omega)) ?_)|refine F7 rfl ?_)|(apply F4;refine F8 rfl rfl ?_;refine G6 rfl ?_)|(apply D6;refine D9 rfl rfl ?_)|(apply G7;refine G8 (E8 rfl rfl) rfl ?_)|(apply K8;refine M8 (H8 rfl rfl) rfl ?_))|(apply D7)|(apply H7)|(apply A7)|(apply D5))
  refine M3 (by (exact .inr rfl)) rfl N7 ?_
  rfl
theorem AR2 (G:Ctx) (H:List Ent) (s:Scr) (c:Int) (tb:Nat) (ga:Option Addr) (gn gc:Nat) (oa:Option Addr) (on oc:Nat) (pa:Option Addr) (pn pc:Nat) (t:ByteArray) (hw:s.w≤1000):SC Tryz.prog G 152 [.pointer (some ⟨tb,0,none⟩),.int .i64 c] (.blk tb 158 (trmC s ga gn gc oa on oc pa pn pc t)::H) fun v H'=>v=resV []∧H'= .blk tb 158 (trmC {s with late:=false,col:=l6 c 0 ((s.w:Int)-1)} ga gn gc oa on oc pa pn pc t)::H:=by
  have cL:=fun H n lo hi=>Ax3 G H n lo hi
  unfold trmC
  refine J3 Tryz.func152 rfl rfl rfl rfl rfl ?_
  repeat' (first|(apply F3;first|(apply C8;refine A8 ?_)|(apply C9;refine D8 rfl rfl ?_)|(apply E5;refine F5 rfl rfl rfl ?_;apply y9;refine AA2 ⟨by omega,by omega⟩ ?_)|(apply F4;refine F8 rfl rfl ?_;refine G6 rfl ?_)|(apply G7;refine G8 (E8 rfl rfl) rfl ?_)|(apply K8;refine M8 (H8 rfl rfl) rfl ?_)|(apply H6;refine F9 rfl rfl rfl (cL _ _ _ _) rfl rfl ?_)|(apply H9;refine U3 rfl rfl rfl rfl rfl rfl rfl ?_))|(apply D7)|(apply A7)|(apply D5))
  refine AG7 (_::H) (by (exact .inl rfl)) rfl (List.Sublist.cons_cons _ N7) ?_
  exact⟨rfl,rfl⟩
end
end Go.Proofs.YtmmnimagbnlcmaaGreatDoor
section
namespace Go.Fw
open Go Go.RowKit Go.Sx
/-- No half of anything, and every cell right. -/
def rowOk (wd:Int→Int) (R:List Qd):Prop:=∀i,i<R.length→loneB wd R i=false
theorem AM7 (wd:Int→Int) (R:List Qd):(mendQ wd R).length=R.length:=l5 _ _ _
theorem Ak8 (wd:Int→Int) (R:List Qd) (i:Nat) (hi:i<R.length):(mendQ wd R).getD i qz=mendC wd R i:=by
  unfold mendQ;rw[AD7 _ _ _ _ hi,if_pos hi]
theorem Bo2 {wd:Int→Int} (h32:wd 32=1) (h0:wd 0≠2) (R:List Qd):rowOk wd (mendQ wd R):=by
  intro i hi
  rw[AM7] at hi
  have g:=Ak8 wd R
  --a cell behind the mending:its rune,its pen
  have pen:∀j,j<R.length→((mendQ wd R).getD j qz).2=(R.getD j qz).2:=fun j hj=>by rw[g j hj];unfold mendC;split<;>rfl
  have rl:∀j,j<R.length→loneB wd R j=true→((mendQ wd R).getD j qz).1=32:=fun j hj h=>by rw[g j hj];unfold mendC;rw[if_pos h]
  have rn:∀j,j<R.length→loneB wd R j=false→(mendQ wd R).getD j qz=R.getD j qz:=fun j hj h=>by rw[g j hj];unfold mendC;rw[if_neg (by rw[h];simp)]
  cases hl:loneB wd R i with
  | true=>
    have h1:=rl i hi hl
    unfold loneB
    rw[if_neg (by rw[h1];decide),h1,decide_eq_false]
    rintro ⟨h2,-⟩
    rw[h32] at h2
    cases h2
  | false=>
    have e:=rn i hi hl
    unfold loneB
    rw[e]
    unfold loneB at hl
    by_cases hz:(R.getD i qz).1=0
    · rw[if_pos hz] at hl ⊢
      have hl:=of_decide_eq_false hl
      have hi0:i≠0:=fun h=>hl (.inl h)
      have hw:wd (R.getD (i-1) qz).1=2:=Classical.byContradiction fun h=>hl (.inr (.inl h))
      have ht:tailP R i:=Classical.byContradiction fun h=>hl (.inr (.inr h))
      --its head is no half of nothing
      have hz1:(R.getD (i-1) qz).1≠0:=fun h=>h0 (h▸hw)
      have hh:loneB wd R (i-1)=false:=by
        unfold loneB
        rw[if_neg hz1,decide_eq_false]
        rintro ⟨-,h⟩
        rw[show i-1+1=i from by omega] at h
        exact h ht
      have e1:=rn (i-1) (by omega) hh
      rw[e1,decide_eq_false]
      rintro (h|h|h)
      · exact hi0 h
      · exact h hw
      · apply h
        obtain⟨t1,t2,t3⟩:=ht
        refine⟨by rw[AM7];exact t1,by rw[e];exact t2,by rw[e,e1];exact t3⟩
    · rw[if_neg hz] at hl ⊢
      have hl:=of_decide_eq_false hl
      rw[decide_eq_false]
      rintro ⟨h1,h2⟩
      have ht:tailP R (i+1):=Classical.byContradiction fun h=>hl ⟨h1,h⟩
      apply h2
      obtain⟨t1,t2,t3⟩:=ht
      have hh:loneB wd R (i+1)=false:=by
        unfold loneB
        rw[if_pos t2,decide_eq_false]
        rintro (h|h|h)
        · omega
        · rw[show i+1-1=i from by omega] at h;exact h h1
        · exact h ⟨t1,t2,t3⟩
      have e1:=rn (i+1) t1 hh
      refine⟨by rw[AM7];exact t1,by rw[e1];exact t2,?_⟩
      rw[e1,show i+1-1=i from by omega,e]
      rw[show i+1-1=i from by omega] at t3
      exact t3
end Go.Fw
namespace Go.Proofs.YtmmnimagbnlcmaaGreatDoor
open Go Go.RowKit Go.Fw Go.Sx
set_option maxRecDepth 100000
/-- Each cell's pen and rune are right. -/
def celOk (q:Qd):Bool:=penB q.2.1 q.2.2.1 q.2.2.2&&(decide (q.1=0)||!decide (H5 q.1=0))
theorem AH2 (R:List Qd) (i:Nat):l7 R i=true↔celOk (R.getD i qz)=true∧loneB H5 R i=false:=by
  unfold l7 celOk
  simp only[Bool.and_eq_true,Bool.not_eq_true']
  exact⟨fun ⟨a,b,c⟩=>⟨⟨a,b⟩,c⟩,fun ⟨⟨a,b⟩,c⟩=>⟨a,b,c⟩⟩
theorem w32:H5 32=1:=by decide+kernel
theorem w0:H5 0≠2:=by decide+kernel
theorem Bl9 {R:List Qd} (h:∀i,i<R.length→penB (R.getD i qz).2.1 (R.getD i qz).2.2.1 (R.getD i qz).2.2.2=true∧((R.getD i qz).1=0∨H5 (R.getD i qz).1≠0)):∀i,i<R.length→l7 (mendQ H5 R) i=true:=fun i hi=>by
  rw[AH2]
  refine⟨?_,Bo2 w32 w0 R i (by rw[AM7];exact hi)⟩
  rw[Ak8 _ _ _ hi]
  obtain⟨h1,h2⟩:=h i hi
  unfold mendC celOk
  split
  · dsimp only
    rw[h1,show decide (H5 32=0)=false from by rw[w32];rfl]
    simp
  · rw[h1]
    rcases h2 with h2|h2
    · rw[decide_eq_true h2];rfl
    · rw[decide_eq_false h2];simp
/-- A row's cells, each with a right pen, and a rune that shows. -/
def AW9 (R:List Qd):Prop:=∀q∈R,celOk q=true
theorem AJ9 (q:Qd):celOk q=true↔penB q.2.1 q.2.2.1 q.2.2.2=true∧(q.1=0∨H5 q.1≠0):=by
  unfold celOk
  rw[Bool.and_eq_true,Bool.or_eq_true,decide_eq_true_eq,Bool.not_eq_true',decide_eq_false_iff_not]
theorem Bf3 {R:List Qd} {i:Nat} (hi:i<R.length):R.getD i qz∈R:=by
  rw[List.getD_eq_getElem?_getD,List.getElem?_eq_getElem hi];exact List.getElem_mem hi
theorem Av1 {R:List Qd} (h:AW9 R):∀i,i<R.length→l7 (mendQ H5 R) i=true:=
  Bl9 fun i hi=>(AJ9 _).1 (h _ (Bf3 hi))
theorem Ai0 {R:List Qd} {i:Nat} {q:Qd} (h:AW9 R) (hq:celOk q=true):AW9 (R.set i q):=fun x hx=>by
  rcases List.mem_or_eq_of_mem_set hx with h1|h1
  · exact h x h1
  · rw[h1];exact hq
theorem Au7 {R:List Qd} {c:Nat} {r x y z:Int} (h:AW9 R) (hp:penB x y z=true) (hr:H5 r≠0):AW9 (putQ H5 R c r x y z):=by
  unfold putQ
  split
  · exact Ai0 (Ai0 h ((AJ9 _).2 ⟨hp,.inr hr⟩)) ((AJ9 _).2 ⟨hp,.inl rfl⟩)
  · exact Ai0 h ((AJ9 _).2 ⟨hp,.inr hr⟩)
/-- A right grid, row by row. -/
structure GrOk (w h:Nat) (C:List Qd):Prop where
  size:(1≤w∧w≤160)∧(1≤h∧h≤60)
  len:C.length=w * h
  cell:∀k,k<h→∀i,i<w→l7 (rowQ w C k) i=true
theorem GrOk.e {w h:Nat} {C:List Qd} (g:GrOk w h C):gridE w h C=0:=by
  refine Am1 ?_ g.len g.cell
  rcases AL5 (w:Int) (h:Int) with ⟨h1,_⟩|⟨_,h1⟩
  · exact h1
  · have:=g.size;omega
theorem GrOk.len1 {w h:Nat} {C:List Qd} (g:GrOk w h C):C.length≤100000:=by
  rw[g.len];exact Nat.le_trans (Nat.mul_le_mul g.size.1.2 g.size.2.2) (by decide)
theorem GrOk.cels {w h:Nat} {C:List Qd} (g:GrOk w h C) {k:Nat} (hk:k<h):AW9 (rowQ w C k):=fun q hq=>by
  obtain⟨i,hi,rfl⟩:=List.mem_iff_getElem.1 hq
  rw[j5 hk g.len] at hi
  have:=(AH2 _ _).1 (g.cell k hk i hi)
  rw[List.getD_eq_getElem?_getD,List.getElem?_eq_getElem (by rw[j5 hk g.len];exact hi)] at this
  exact this.1
/-- A row of a right grid put in the place of another. -/
theorem GrOk.put {w h:Nat} {C:List Qd} (g:GrOk w h C) {k:Nat} (hk:k<h) {A R B R':List Qd} (hC:C=A++R++B) (hA:A.length=k * w) (hR:R.length=w) (hR':R'.length=w) (ho:∀i,i<w→l7 R' i=true):GrOk w h (A++R'++B):=by
  have hl:(A++R'++B).length=w * h:=by rw[←g.len,hC];simp [hR,hR']
  refine⟨g.size,hl,fun j hj i hi=>?_⟩
  by_cases e:j=k
  · subst e
    have:rowQ w (A++R'++B) j=R':=by
      unfold rowQ
      rw[←hA,List.append_assoc,List.drop_left,←hR',List.take_left]
    rw[this]
    exact ho i hi
  · have:rowQ w (A++R'++B) j=rowQ w C j:=by
      have hm:∀x y:Nat,x<y→x * w+w≤y * w:=fun x y h=>by
        have:=Nat.mul_le_mul_right w h
        rw[Nat.succ_mul] at this
        exact this
      subst hC
      unfold rowQ
      rcases Nat.lt_or_ge j k with h1|h1
      · have:=hm j k h1
        rw[List.append_assoc,List.append_assoc,List.drop_append_of_le_length (by omega),List.drop_append_of_le_length (by omega),List.take_append_of_le_length (by simp;omega),List.take_append_of_le_length (by simp;omega)]
      · have:=hm k j (by omega)
        have d1:∀X:List Qd,X.length=w→(A++X++B).drop (j * w)=B.drop (j * w-(k * w+w)):=fun X hX=>by
          have hl:(A++X).length=k * w+w:=by rw[List.length_append,hA,hX]
          rw[List.drop_append,List.drop_eq_nil_of_le (by omega),List.nil_append,hl]
        rw[d1 R' hR',d1 R hR]
    rw[this]
    exact g.cell j hj i hi
end Go.Proofs.YtmmnimagbnlcmaaGreatDoor
end
section
namespace Go.Fw
open Go Go.RowKit Go.Sx
section
variable {α:Type} (d:α)
/-- A list, of which the places from f up to t are given by g. -/
def genL (L:List α) (f t:Nat) (g:Nat→α):List α:=(List.range L.length).map fun i=>if f≤i∧i<t then g i else L.getD i d
theorem AN9 (L:List α) (f t:Nat) (g:Nat→α):(genL d L f t g).length=L.length:=by simp [genL]
theorem Ar0 {L:List α} {f t i:Nat} {g:Nat→α} (hi:i<L.length):(genL d L f t g)[i]? =some (if f≤i∧i<t then g i else L.getD i d):=by
  unfold genL
  rw[List.getElem?_map,List.getElem?_range hi,Option.map_some]
theorem getD_some {L:List α} {i:Nat} (hi:i<L.length):L[i]? =some (L.getD i d):=by
  rw[List.getD_eq_getElem?_getD,List.getElem?_eq_getElem hi,Option.getD_some]
theorem B53 {L:List α} {f t:Nat} {g:Nat→α} (h:t≤f):genL d L f t g=L:=by
  apply List.ext_getElem?
  intro i
  rcases Nat.lt_or_ge i L.length with hi|hi
  · rw[Ar0 d hi,if_neg (by omega),getD_some d hi]
  · rw[List.getElem?_eq_none (by rw[AN9];exact hi),List.getElem?_eq_none hi]
theorem Bj1 {L:List α} {f t:Nat} {g:Nat→α} (hf:f≤t):(genL d L f t g).set t (g t)=genL d L f (t+1) g:=by
  apply List.ext_getElem?
  intro i
  rcases Nat.lt_or_ge i L.length with hi|hi
  · rw[List.getElem?_set,Ar0 d hi,Ar0 d hi,AN9]
    by_cases e:t=i
    · subst e
      rw[if_pos rfl,if_pos hi,if_pos (by omega)]
    · rw[if_neg e]
      by_cases h:f≤i∧i<t
      · rw[if_pos h,if_pos (by omega)]
      · rw[if_neg h,if_neg (by omega)]
  · rw[List.getElem?_eq_none (by rw[List.length_set,AN9];exact hi),List.getElem?_eq_none (by rw[AN9];exact hi)]
end
end Go.Fw
namespace Go.Proofs.YtmmnimagbnlcmaaGreatDoor
open Go Go.RowKit Go.Fw Go.Sx
set_option maxRecDepth 100000
set_option maxHeartbeats 1000000
attribute [local irreducible] SW SL SQ AtQ SV SC BB LD PK Yields SO SOT SOA SY
theorem Az9 (G:Ctx) (H:List Ent) (b w h n c k p:Nat) (hp:(k:Int) * (w:Int)=(p:Int)) (hp2:((k:Int)+1) * (w:Int)=((p+w:Nat):Int)) (hm:n≤100000) (hn:p+w≤n) (hnc:n≤c) (hw:1≤w) (hk:k≤1000):SV Tryz.prog G 65 [gridV w h (some ⟨b,0,none⟩) n c,.int .i64 k] H (.slice (some ⟨b,p * 4,none⟩) w (c-p)):=by
  have e:Value.slice (some ⟨b,p * 4,none⟩) w (c-p)= .slice (some ⟨b,((k:Int) * (w:Int)).toNat * 4,none⟩) ((((k:Int)+1) * (w:Int)).toNat-((k:Int) * (w:Int)).toNat) (c-((k:Int) * (w:Int)).toNat):=by
    rw[hp,hp2,Int.toNat_natCast,Int.toNat_natCast,Nat.add_sub_cancel_left]
  rw[e]
  refine P7 Tryz.func65 rfl rfl rfl rfl rfl ?_
  repeat' (first|(apply F3;first|(apply C8;refine A8 ?_)|(apply C9;refine D8 rfl rfl ?_)|(apply E5;refine F5 rfl rfl rfl ?_;first|(refine AQ7 ⟨by omega,by omega⟩ ?_)|(apply M0;refine L9 ⟨by omega,by omega⟩ ?_))|(apply F4;refine F8 rfl rfl ?_;refine G6 rfl ?_)|(apply D6;refine D9 rfl rfl ?_)|(apply G7;refine G8 (E8 rfl rfl) rfl ?_)|(apply K9;refine O5 rfl rfl rfl rfl rfl rfl (fun _=>?_))|(apply o7;refine AM2 (Ac6 rfl rfl rfl rfl (by omega) (by omega) (by omega) (by omega)) rfl ?_))|(apply D7)|(apply H7)|(apply A7)|(apply D5))
  all_goals (refine M3 (by (exact .inr rfl)) rfl N7 ?_;rfl)
theorem Bt2 (C:List Qd) (p w:Nat):qds C=qds (C.take p)++qds ((C.drop p).take w)++qds (C.drop (p+w)):=by
  rw[←AE2,←AE2,List.append_assoc,←List.drop_drop,List.take_append_drop,List.take_append_drop]
/-- The cells of a grid, one row changed. -/
def rowC (C:List Qd) (w k:Nat) (M:List Qd):List Qd:=C.take (k * w)++M++C.drop (k * w+w)
end Go.Proofs.YtmmnimagbnlcmaaGreatDoor
end
section
namespace Go.Fw
open Go Go.RowKit Go.Sx
section
variable {α:Type} (d:α)
/-- The element that comes to a place. -/
def movAt (L:List α) (n:Int) (q:α) (i:Nat):α:=if 0≤(i:Int)-n∧(i:Int)-n<L.length then L.getD ((i:Int)-n).toNat d else q
def movL (L:List α) (n:Int) (q:α):List α:=(List.range L.length).map (movAt d L n q)
theorem A54 (L:List α) (n:Int) (q:α):(movL d L n q).length=L.length:=by simp [movL]
theorem BO9 {L:List α} {n:Int} {q:α} {i:Nat} (hi:i<L.length):(movL d L n q).take (i+1)=(movL d L n q).take i++[movAt d L n q i]:=by
  rw[List.take_succ_eq_append_getElem (by rw[A54];exact hi)]
  congr 2
  simp [movL]
/-- The element that comes to a place of a stretch. -/
def shG (L:List α) (f t:Nat) (n:Int) (q:α) (i:Nat):α:=if (f:Int)≤(i:Int)-n∧(i:Int)-n<t then L.getD ((i:Int)-n).toNat d else q
theorem BJ5 {L:List α} {f t j:Nat} (hj:j<t-f):((L.drop f).take (t-f)).getD j d=L.getD (f+j) d:=by
  rw[List.getD_eq_getElem?_getD,List.getD_eq_getElem?_getD,List.getElem?_take_of_lt hj,List.getElem?_drop]
theorem BM8 {L:List α} {f t:Nat} {n:Int} {q:α} (hft:f≤t) (ht:t≤L.length):movL d ((L.drop f).take (t-f)) n q=(List.range (t-f)).map (fun i=>shG d L f t n q (f+i)):=by
  have hl:((L.drop f).take (t-f)).length=t-f:=by simp;omega
  unfold movL
  rw[hl]
  apply List.map_congr_left
  intro i hi
  have hi:=List.mem_range.1 hi
  unfold movAt shG
  rw[hl]
  by_cases h:0≤(i:Int)-n∧(i:Int)-n<(t-f:Nat)
  · rw[if_pos h,if_pos (by omega),BJ5 d (by omega)]
    congr 1
    omega
  · rw[if_neg h,if_neg (by omega)]
end
end Go.Fw
namespace Go.Proofs.YtmmnimagbnlcmaaGreatDoor
open Go Go.RowKit Go.Fw Go.Sx
set_option maxRecDepth 100000
set_option maxHeartbeats 1000000
attribute [local irreducible] SW SL SQ AtQ SV SC BB LD PK Yields SO SOT SOA SY
end Go.Proofs.YtmmnimagbnlcmaaGreatDoor
end
section
namespace Go.Fw
open Go Go.RowKit Go.Sx
end Go.Fw
namespace Go.Proofs.YtmmnimagbnlcmaaGreatDoor
open Go Go.RowKit Go.Fw Go.Sx
set_option maxRecDepth 100000
set_option maxHeartbeats 1000000
attribute [local irreducible] SW SL SQ AtQ SV SC BB LD PK Yields SO SOT SOA SY
theorem Bn1 (G:Ctx) (H Hr:List Ent) (X:List Rw) {vs:List Value} (a:Option Addr) (n c:Nat) (s:Int) (f:Nat) (cap:List Value) (q:List Qd) (m:Nat) [h1:RdC G H a vs] (hv:vs=X.map rwV) (hn:n=X.length) (hm:n≤100000) (hb: -100000≤s∧s≤100000) (hX:RdX qds G Hr X) (hql:m=q.length)
    (hF:∀E,SC Tryz.prog G f cap (E++H) fun v H'=>∃b,v= .slice (some ⟨b,0,none⟩) m m∧H'= .own 97 4 (some ⟨b,0,none⟩) m m (qds q)::(E++H)):SC Tryz.prog G 252 [.slice a n c,.int .i64 s,.func (.func f) #[] cap.toArray] H fun v H'=>∃(Y:List Rw) (E:List Ent) (a':Option Addr) (c':Nat),v= .slice a' n c'∧Y.length=n∧Y.map (·.2.2)=movL [] (X.map (·.2.2)) s q∧RdX qds G (E++Hr) Y∧H'= .own 27 1 a' n c' (Y.map rwV)::(E++H):=by
  subst hv
  have hqn:(X.map rwV).length=n * 1:=by simp [hn]
  have hPl:(X.map (·.2.2)).length=n:=by simp [hn]
  have hl:=(A54 [] (X.map (·.2.2)) s q).trans hPl
  have hsn:=fun i (hi:i<n)=>BO9 [] (L:=X.map (·.2.2)) (n:=s) (q:=q) (i:=i) (by omega)
  have Hsn:=Lib.hid hsn
  have Hl:=Lib.hid hl
  have HF:=Lib.hid hF
  have Hn:=Lib.hid hn
  have HP:=Lib.hid hPl
  clear hsn hl hn hF hPl
  refine AH0 Tryz.func252 rfl rfl rfl rfl rfl ?_
  repeat' (first|(apply F3;first|(apply C8;refine A8 ?_)|(apply C9;refine D8 rfl rfl ?_)|(apply D6;refine D9 rfl rfl ?_)|(apply J5;refine s_call (Q5 rfl rfl) rfl ?_))|(apply D7)|(apply F6)|(apply A7)|(apply D5))
  refine R9 (α:=List Rw×List Ent×Option Addr×Nat) (fun g=>[(0,.slice a n c),(1,.int .i64 s),(2,.func (.func f) #[] cap.toArray),(7,.slice g.2.2.1 g.1.length g.2.2.2),(11,.int .i64 n),(12,.int .i64 g.1.length)]) (fun g=> .own 27 1 g.2.2.1 g.1.length g.2.2.2 (g.1.map rwV)::(g.2.1++H))
    (fun g=>g.1.length≤n∧g.1.map (·.2.2)=(movL [] (X.map (·.2.2)) s q).take g.1.length∧RdX qds G (g.2.1++Hr) g.1) (fun g=>n-g.1.length) ([],[],none,0) ⟨Nat.zero_le _,rfl,RdX.nil⟩ (by repeat (first|exact Le.nil _|refine Le.cons (by (rfl)) ?_)) (fun _ hw=>hw.nilrow _ _) ?_
  rintro ⟨Y,E,ai,ci⟩ ⟨hi,hY,hYr⟩
  dsimp only at hi hY hYr ⊢
  generalize hYl:Y.length=i at *
  have hone:=BG9 Y
  by_cases hlt:(i:Int)<n
  · have fin:∀(x:Rw) (l:Nat),x.2.2=movAt [] (X.map (·.2.2)) s q i→x.2.2.length=l→(Y++[x]).length=i+1∧(Y++[x]).map rwV=Y.map rwV++[.slice x.1 l x.2.1]∧(Y++[x]).map (·.2.2)=(movL [] (X.map (·.2.2)) s q).take (i+1):=by
      intro x l hx hxl
      refine⟨by rw[List.length_append,hYl];rfl,?_,?_⟩
      · rw[List.map_append]
        simp only[List.map_cons,List.map_nil,rwV,hxl]
      · rw[List.map_append,hY,Hsn.out i (by omega),List.map_cons,List.map_nil,hx]
    by_cases hin:0≤(i:Int)-s∧(i:Int)-s<n
    · obtain⟨⟨a1,c1,R1⟩,hx⟩:=AA3 (X:=X) (k:=((i:Int)-s).toNat) (by rw[←Hn.out];omega)
      have hcell:=BO5 hx
      dsimp only at hcell
      have hcell':(X.map rwV)[((i:Int)-s).toNat * 1]? =some (.slice a1 R1.length c1):=by rw[Nat.mul_one];exact hcell
      have hat:R1=movAt [] (X.map (·.2.2)) s q i:=by
        unfold movAt
        rw[if_pos (by rw[HP.out];exact hin),List.getD_eq_getElem?_getD,List.getElem?_map,hx]
        rfl
      obtain⟨f1,f2,f3⟩:=fin (a1,c1,R1) _ hat rfl
      have hXx:=hX.at hx
      obtain⟨hin1,hin2⟩:=hin
      repeat' (first|(apply F3;first|(apply C8;refine A8 ?_)|(apply C9;refine D8 rfl rfl ?_)|(apply E5;refine F5 rfl rfl rfl ?_;first|(apply M0;refine L9 ⟨by omega,by omega⟩ ?_)|(apply y9;refine AA2 ⟨by omega,by omega⟩ ?_)|refine F7 rfl ?_)|(apply F4;refine F8 rfl rfl ?_;refine X5 hcell' ?_)|(apply D6;refine D9 rfl rfl ?_)|(apply I6;refine I9 rfl rfl ?_;apply Q9;refine Q8 rfl ?_)|(apply M4;refine N9 (K6 rfl rfl rfl hqn (by omega) (by omega)) rfl ?_)|(apply J5;first|(refine R6 rfl rfl rfl rfl rfl rfl (by omega) rfl rfl (fun _ _=>?_))|refine s_call (Q5 rfl rfl) rfl ?_)|(apply V8;refine M7 rfl rfl rfl rfl rfl rfl rfl rfl rfl rfl (fun _=>?_))|(apply I1;refine J9 rfl rfl rfl rfl ?_;first|(apply I7)|(apply E9<;>intro hq<;>(try (exfalso;omega)))))|(apply D7)|(apply G9)|(apply F6)|(apply A7)|(refine G5 rfl ?_;apply E9<;>intro hq<;>(try (exfalso;omega)))|(apply D5)|(apply J2))
      rename_i _ a2 c2
      refine J6 (Y++[(a1,c1,R1)],E,a2,c2) ⟨⟨by dsimp only;rw[f1];omega,by dsimp only;rw[f1];exact f3,hYr.snoc hXx.app⟩,by dsimp only;rw[f1];omega⟩ ?_ ?_
      · dsimp only
        rw[f1]
        exact(by repeat (first|exact Le.nil _|refine Le.cons (by (rfl)) ?_))
      · dsimp only
        rw[f1,f2]
        exact fun _ hw=>hw.sub (List.Sublist.cons_cons _ (List.Sublist.cons _ (List.Sublist.refl _)))
    · have hat:q=movAt [] (X.map (·.2.2)) s q i:=by unfold movAt;rw[if_neg (by rw[HP.out];exact hin)]
      have cF:=HF.out
      obtain hin1|hin2:(i:Int)-s<0∨n≤(i:Int)-s:=by omega
      all_goals
        repeat' (first|(apply F3;first|(apply C8;refine A8 ?_)|(apply C9;refine D8 rfl rfl ?_)|(apply E5;refine F5 rfl rfl rfl ?_;first|(apply M0;refine L9 ⟨by omega,by omega⟩ ?_)|(apply y9;refine AA2 ⟨by omega,by omega⟩ ?_)|refine F7 rfl ?_)|(apply D6;refine D9 rfl rfl ?_)|(apply I6;refine I9 rfl rfl ?_;first|(apply Q9;refine Q8 rfl ?_)|(apply O1;refine O3 rfl ?_))|(apply J5;first|(refine R6 rfl rfl rfl rfl rfl rfl (by omega) rfl rfl (fun _ _=>?_))|refine s_call (Q5 rfl rfl) rfl ?_)|(apply V8;refine M7 rfl rfl rfl rfl rfl rfl rfl rfl rfl rfl (fun _=>?_))|(apply I1;refine J9 rfl rfl rfl rfl ?_;first|(apply I7)|(apply I5)|(apply E9<;>intro hq<;>(try (exfalso;omega))))|(refine BD5 rfl rfl rfl rfl (cF (_::E)) rfl rfl ?_;rintro _ _ ⟨b,rfl,rfl⟩;dsimp only[List.cons_append]))|(apply D7)|(apply G9)|(apply F6)|(apply A7)|(refine G5 rfl ?_;first|(apply I5)|(apply E9<;>intro hq<;>(try (exfalso;omega))))|(apply D5)|(apply J2))
        rename_i _ a2 c2
        obtain⟨f1,f2,f3⟩:=fin (some ⟨b,0,none⟩,m,q) m hat hql.symm
        refine J6 (Y++[(some ⟨b,0,none⟩,m,q)],.own 97 4 (some ⟨b,0,none⟩) m m (qds q)::E,a2,c2) ⟨⟨by dsimp only;rw[f1];omega,by dsimp only;rw[f1];exact f3,hYr.cons.snoc (Sl.own List.mem_cons_self rfl hql)⟩,by dsimp only;rw[f1];omega⟩ ?_ ?_
        · dsimp only
          rw[f1]
          exact(by repeat (first|exact Le.nil _|refine Le.cons (by (rfl)) ?_))
        · dsimp only
          rw[f1,f2]
          exact fun _ hw=>hw.sub (List.Sublist.cons_cons _ (List.Sublist.cons _ (List.Sublist.refl _)))
  · obtain rfl:i=n:=by omega
    repeat' (first|(apply F3;first|(apply C8;refine A8 ?_)|(apply C9;refine D8 rfl rfl ?_)|(apply E5;refine F5 rfl rfl rfl ?_;refine F7 rfl ?_)|(apply D6;refine D9 rfl rfl ?_))|(apply D7)|(apply H7)|(apply N8)|(apply A7)|(refine G5 rfl ?_;apply E9<;>intro hq<;>(try (exfalso;omega)))|(apply D5)|(apply J7)|(apply J8))
    refine AG7 _ (.inr rfl) rfl (List.Sublist.refl _) ?_
    exact⟨Y,E,ai,ci,rfl,hYl,by rw[hY,List.take_of_length_le (by rw[Hl.out];exact Nat.le_refl _)],hYr,rfl⟩
theorem B99 (G:Ctx) (H:List Ent) (b b2:Nat) (w h:Nat) (a:Option Addr) (n c:Nat) (x y z:Int) [HasBlk H b 29 [.int .i64 w,.int .i64 h,.slice a n c]] [HasBlk H b2 31 [.int .i64 x,.int .i64 y,.int .i64 z]] (hw:1≤w∧w≤160):SC Tryz.prog G 253 [.pointer (some ⟨b,0,none⟩),.pointer (some ⟨b2,0,none⟩)] H fun v H'=>∃b,v= .slice (some ⟨b,0,none⟩) w w∧H'= .own 97 4 (some ⟨b,0,none⟩) w w (qds (List.replicate w (32,x,y,z)))::H:=by
  have cB:=fun H=>Am9 G H w 1 x y z hw ⟨Nat.le_refl _,by omega⟩
  rw[Nat.mul_one] at cB
  refine J3 Tryz.func253 rfl rfl rfl rfl rfl ?_
  repeat' (first|(apply F3;first|(apply C8;refine A8 ?_)|(apply F4;refine F8 rfl rfl ?_;first|refine G6 rfl ?_ |refine K5 rfl ?_)|(apply D6;refine D9 rfl rfl ?_)|(apply G7;refine G8 (E8 rfl rfl) rfl ?_)|(apply H6;refine c_call rfl rfl rfl (cB _) rfl rfl ?_;rintro _ _ ⟨b9,rfl,rfl⟩)|(refine AB1 rfl (B18 (v:= .slice (some ⟨b9,0,none⟩) w w) rfl rfl (by kernel_rfl)) rfl rfl ?_))|(apply D7)|(apply H7)|(apply A7)|(apply D5))
  refine AG7 _ (by (exact .inr rfl)) rfl (List.Sublist.refl _) ?_
  exact⟨b9,rfl,rfl⟩
end Go.Proofs.YtmmnimagbnlcmaaGreatDoor
end
section
namespace Go.Sx
open Go Go.RowKit Go.Fw
section
variable {P:Program} {G:Ctx} {n:Nat} {s:Fm} {H:List Ent} {o:Oper}
/-- The smaller of two. -/
theorem A55 {x y:Operand} {ats:Array TypeId} {k k':IntKind} {p q:Int} (ho:o.op= .call {callee:= .builtin .min,args:=#[x,y],argTypes:=ats}) (hx:ev s x=some (.int k p)) (hy:ev s y=some (.int k' q)):Yields P G n s H o (.int k (min p q)):=fun a w ha _=>by
  have e:min p q=if q<p then q else p:=by split<;>omega
  unfold execOp;rw[ho,e]
  simp only[resolve,invoke,Sem.run_bind,Sem.run_pure,Result.andThen_ok,builtin,List.map_toArray,List.map_cons,List.map_nil,ha.ev hx,ha.ev hy,run_min_int2]
end
end Go.Sx
namespace Go.Fw
open Go Go.RowKit Go.Sx
theorem Al8 {L:List (List Qd)} {k:Nat} {R:List Qd} (h:L[k]? =some R):L.flatten=(L.take k).flatten++R++(L.drop (k+1)).flatten:=by
  obtain⟨hk,rfl⟩:=List.getElem?_eq_some_iff.1 h
  rw[List.append_assoc,←List.flatten_cons,←List.drop_eq_getElem_cons hk,←List.flatten_append,List.take_append_drop]
theorem Be6 {L:List (List Qd)} {k:Nat} (R:List Qd) (hk:k<L.length):(L.set k R).flatten=(L.take k).flatten++R++(L.drop (k+1)).flatten:=by
  rw[List.set_eq_take_append_cons_drop,if_pos hk,List.flatten_append,List.flatten_cons,List.append_assoc]
theorem Aj3 {w:Nat}:∀{L:List (List Qd)},(∀r∈L,r.length=w)→L.flatten.length=L.length * w
  | [],_=>by simp
  | R::L,h=>by
    rw[List.flatten_cons,List.length_append,h R List.mem_cons_self,Aj3 fun r hr=>h r (List.mem_cons_of_mem _ hr),List.length_cons,Nat.succ_mul,Nat.add_comm]
theorem As0 {w:Nat} {L:List (List Qd)} (h:∀r∈L,r.length=w) {k:Nat} (hk:k≤L.length):(L.take k).flatten.length=k * w:=by
  rw[Aj3 fun r hr=>h r (List.mem_of_mem_take hr),List.length_take,Nat.min_eq_left hk]
end Go.Fw
namespace Go.Proofs.YtmmnimagbnlcmaaGreatDoor
open Go Go.RowKit Go.Fw Go.Sx
set_option maxRecDepth 100000
set_option maxHeartbeats 1000000
attribute [local irreducible] SW SL SQ AtQ SV SC BB LD PK Yields SO SOT SOA SY
end Go.Proofs.YtmmnimagbnlcmaaGreatDoor
end
section
namespace Go.Sx
open Go Go.RowKit Go.Fw
instance (priority:=low) CH5 {A H H':List Ent} {a:Option Addr} {e:TypeId} {sz n c:Nat} {xs:List Value} [h:PickOwn H a e sz n c xs H']:PickOwn (A++H) a e sz n c xs (A++H'):=⟨h.here.app A⟩
end Go.Sx
namespace Go.Fw
open Go Go.RowKit Go.Sx
theorem Bd5 {L:List (List Qd)} {k w:Nat} {R:List Qd} (hL:∀r∈L,r.length=w) (hk:k<L.length) (hR:R.length=w):over (qds L.flatten) (k * w * 4) (qds R)=qds (L.set k R).flatten:=by
  have hA:=As0 hL (k:=k) (by omega)
  have hLk:(L[k]).length=w:=hL _ (List.getElem_mem hk)
  rw[Ah8,Al8 (List.getElem?_eq_getElem hk),Be6 _ hk,hR]
  generalize (L.take k).flatten=A at *
  generalize (L.drop (k+1)).flatten=S
  generalize L[k]=B at *
  congr 1
  have t1:(A++B++S).take (k * w)=A:=by rw[List.append_assoc,←hA,List.take_left]
  have t2:(A++B++S).drop (k * w+w)=S:=by
    rw[List.append_assoc,←List.drop_drop,←hA,List.drop_left,←hLk,List.drop_left]
  rw[t1,t2]
theorem A88 {α:Type} {d:α} {L:List α} {f t:Nat} {g:Nat→α} {Pr:α→Prop} (h1:∀x∈L,Pr x) (h2:∀i,i<L.length→Pr (g i)):∀x∈genL d L f t g,Pr x:=fun x hx=>by
  obtain⟨i,hi,rfl⟩:=List.mem_map.1 hx
  have hi:=List.mem_range.1 hi
  by_cases h:f≤i∧i<t
  · rw[if_pos h];exact h2 i hi
  · rw[if_neg h]
    exact h1 _ (List.mem_of_getElem? (getD_some d hi))
theorem BG4 {α:Type} {d:α} {L:List α} {f t:Nat} {n:Int} {q:α} {Pr:α→Prop} (h1:∀x∈L,Pr x) (h2:Pr q) (ht:t≤L.length):∀i,Pr (shG d L f t n q i):=fun i=>by
  unfold shG
  by_cases h:(f:Int)≤(i:Int)-n∧(i:Int)-n<t
  · rw[if_pos h]
    exact h1 _ (List.mem_of_getElem? (getD_some d (by omega)))
  · rw[if_neg h];exact h2
end Go.Fw
namespace Go.Proofs.YtmmnimagbnlcmaaGreatDoor
open Go Go.RowKit Go.Fw Go.Sx
set_option maxRecDepth 100000
set_option maxHeartbeats 1000000
attribute [local irreducible] SW SL SQ AtQ SV SC BB LD PK Yields SO SOT SOA SY
def rowsL (C:List Qd) (w h:Nat):List (List Qd):=(List.range h).map (rowQ w C)
theorem AQ1 (C:List Qd) (w h:Nat):(rowsL C w h).length=h:=by simp [rowsL]
theorem Br5 {C:List Qd} {w h:Nat} (hC:C.length=w * h):∀r∈rowsL C w h,r.length=w:=fun r hr=>by
  obtain⟨k,hk,rfl⟩:=List.mem_map.1 hr
  exact j5 (List.mem_range.1 hk) hC
theorem BH3 {C:List Qd} {w h:Nat} (hC:C.length=w * h):(rowsL C w h).flatten=C:=by
  have key:∀m,m≤h→((List.range m).map (rowQ w C)).flatten=C.take (m * w):=by
    intro m
    induction m with
    | zero=>intro _;simp
    | succ m ih=>
      intro hm
      rw[List.range_succ,List.map_append,List.flatten_append,ih (by omega),Nat.succ_mul,List.take_add]
      simp [rowQ]
  unfold rowsL
  rw[key h (Nat.le_refl _),List.take_of_length_le (by rw[hC,Nat.mul_comm];exact Nat.le_refl _)]
theorem BA3 {C:List Qd} {w h f t:Nat} (hft:f≤t) (ht:t≤h):((rowsL C w h).drop f).take (t-f)=(List.range (t-f)).map fun i=>rowQ w C (f+i):=by
  apply List.ext_getElem?
  intro i
  rcases Nat.lt_or_ge i (t-f) with hi|hi
  · rw[List.getElem?_take_of_lt hi,List.getElem?_drop,rowsL,List.getElem?_map,List.getElem?_range (by omega),List.getElem?_map,List.getElem?_range hi]
    rfl
  · rw[List.getElem?_eq_none (by simp;omega),List.getElem?_eq_none (by simp;omega)]
/-- The cells behind a Scroll. -/
def scrR (C:List Qd) (w h f t:Nat) (s:Int) (q:Qd):List (List Qd):=genL [] (rowsL C w h) f t (shG [] (rowsL C w h) f t (-s) (List.replicate w q))
def scrC (C:List Qd) (w h f t:Nat) (s:Int) (q:Qd):List Qd:=(scrR C w h f t s q).flatten
theorem B72 (G:Ctx) (H:List Ent) (C:List Qd) (b w h n c k:Nat) (hC:C.length=w * h) (hw:1≤w) (hk:k<h):RdC G (.own 97 4 (some ⟨b,0,none⟩) n c (qds C)::H) (some ⟨b,k * w * 4,none⟩) (qds (rowQ w C k)):=by
  have hr:=AN5 (w:=w) (h:=h) (k:=k) (n:=C.length) hk hC
  have hl:=j5 hk hC
  have e:qds C=qds (C.take (k * w))++qds (rowQ w C k)++qds (C.drop (k * w+w)):=Bt2 C (k * w) w
  rw[e]
  exact Ay0 (A84 (G:=G) (e:=97) (sz:=4) (len:=n) (c:=c) (b:=b) (us:=[]) (H:=H) (k * w * 4) (by rw[Z4,List.length_take];omega) (by rw[Z4,hl];omega))
theorem BA2 (G:Ctx) (H:List Ent) (C:List Qd) (b w h n c f t:Nat) (s x y z:Int) (hn:n=C.length) (hC:C.length=w * h) (hm:n≤100000) (hnc:n≤c) (hw:1≤w∧w≤160) (hh:h≤60) (hft:f≤t) (ht:t≤h) (hs: -16383≤s∧s≤16383):SC Tryz.prog G 208 [gridV w h (some ⟨b,0,none⟩) n c,.int .i64 f,.int .i64 t,.int .i64 s,penV x y z] (.own 97 4 (some ⟨b,0,none⟩) n c (qds C)::H) fun v H'=>v= .tuple #[]∧H'= .own 97 4 (some ⟨b,0,none⟩) n c (qds (scrC C w h f t s (32,x,y,z)))::H:=by
  have e1:=fun k:Nat=>show (k:Int) * (w:Int)=((k * w:Nat):Int) from by simp
  have e2:=fun k:Nat=>show ((k:Int)+1) * (w:Int)=((k * w+w:Nat):Int) from by rw[Int.add_mul];simp
  have hkW:=fun (k:Nat) (hk:k<h)=>AN5 (w:=w) (h:=h) (k:=k) (n:=n) hk (by omega)
  have cO:=fun (H:List Ent) (k:Nat) (hk:k<h)=>Az9 G H b w h n c k (k * w) (e1 k) (e2 k) hm (hkW k hk) hnc hw.1 (by omega)
  have hrd:=fun (k:Nat) (hk:k<h) (H:List Ent)=>B72 G H C b w h n c k hC hw.1 hk
  have cC:=fun (H:List Ent) (k:Nat) (hk:k<h) (a:Option Addr) (c':Nat) {vs:List Value} [RdC G H a vs] (hv:vs=qds (rowQ w C k))=>AQ5 G H (rowQ w C k) a w c' hv (j5 hk hC).symm (by omega)
  have hRl:=fun (k:Nat) (hk:k<h)=>j5 (w:=w) (h:=h) (k:=k) (C:=C) hk hC
  have Hn:=Lib.hid hn
  have HC:=Lib.hid hC
  clear hn hC e1 e2
  refine AU2 Tryz.func208 rfl rfl rfl rfl rfl ?_
  repeat' (first|(apply F3;first|(apply C8;refine A8 ?_)|(apply C9;refine D8 rfl rfl ?_)|(apply D6;refine D9 rfl rfl ?_)|(apply K9;refine O5 rfl rfl rfl rfl rfl rfl (fun _=>?_)))|(apply D7)|(apply F6)|(apply A7)|(apply D5))
  rename_i b5 b9
  refine R9 (α:=List Rw×List Ent×Option Addr×Nat) (fun g=>[(1,.int .i64 f),(2,.int .i64 t),(3,.int .i64 s),(5,.pointer (some ⟨b5,0,none⟩)),(9,.pointer (some ⟨b9,0,none⟩)),(10,.slice g.2.2.1 g.1.length g.2.2.2),(11,.int .i64 ((f+g.1.length:Nat):Int))])
    (fun g=> .own 27 1 g.2.2.1 g.1.length g.2.2.2 (g.1.map rwV):: .own 97 4 (some ⟨b,0,none⟩) n c (qds C):: .blk b9 31 [.int .i64 x,.int .i64 y,.int .i64 z]:: .blk b5 29 [.int .i64 w,.int .i64 h,.slice (some ⟨b,0,none⟩) n c]::(g.2.1++H))
    (fun g=>g.1.length≤t-f∧g.1.map (·.2.2)=(List.range g.1.length).map (fun i=>rowQ w C (f+i))∧RdX qds G (g.2.1++H) g.1) (fun g=>t-f-g.1.length) ([],[],none,0) ⟨Nat.zero_le _,rfl,RdX.nil⟩ (by repeat (first|exact Le.nil _|refine Le.cons (by (rfl)) ?_)) ?_ ?_
  · exact fun _ hw=>(hw.subs (by repeat (first|refine Subs.cons (by repeat constructor) ?_ |exact Subs.sub N7))).nilrow _ _
  rintro ⟨X,E,ar,cr⟩ ⟨hi,hX,hXr⟩
  dsimp only at hi hX hXr ⊢
  generalize hXl:X.length=i at *
  have hone:=BG9 X
  by_cases hlt:((f+i:Nat):Int)<t
  · have hk:f+i<h:=by omega
    have cOi:=fun H=>cO H (f+i) hk
    have cCi:=fun (H:List Ent) (a:Option Addr) (c':Nat) {vs:List Value} [RdC G H a vs] (hv:vs=qds (rowQ w C (f+i)))=>cC H (f+i) hk a c' hv
    haveI:=hrd (f+i) hk
    have hRi:=hRl (f+i) hk
    clear cO cC hrd hkW hRl
    generalize hRR:rowQ w C (f+i)=R at *
    generalize hKK:f+i=k at *
    repeat' (first|(apply F3;first|(apply C8;refine A8 ?_)|(apply C9;refine D8 rfl rfl ?_)|(apply E5;refine F5 rfl rfl rfl ?_;first|(apply M0;refine L9 ⟨by omega,by omega⟩ ?_)|refine F7 rfl ?_)|(apply F4;refine F8 rfl rfl ?_;refine K5 rfl ?_)|(apply D6;refine D9 rfl rfl ?_)|(apply H6;first|refine F9 rfl rfl rfl (cOi _) rfl rfl ?_ |(refine c_call rfl rfl rfl (cCi _ _ _ rfl) rfl rfl ?_;rintro _ _ ⟨a',c',rfl,rfl⟩))|(apply J5;refine R6 rfl rfl rfl rfl rfl rfl (by omega) rfl rfl (fun _ _=>?_))|(apply V8;refine M7 rfl rfl rfl rfl rfl rfl rfl rfl rfl rfl (fun _=>?_)))|(apply D7)|(apply G9)|(apply F6)|(apply A7)|(refine G5 rfl ?_;apply E9<;>intro hq<;>(try (exfalso;omega)))|(apply D5)|(apply J2))
    rename_i _ a2 c2
    have f1:(X++[((a',c',R):Rw)]).length=i+1:=by rw[List.length_append,hXl];rfl
    have f2:(X++[((a',c',R):Rw)]).map rwV=X.map rwV++[.slice a' w c']:=by
      rw[List.map_append]
      simp only[List.map_cons,List.map_nil,rwV,hRi]
    have f3:(X++[((a',c',R):Rw)]).map (·.2.2)=(List.range (i+1)).map (fun i=>rowQ w C (f+i)):=by
      rw[List.map_append,hX,List.range_succ,List.map_append,List.map_cons,List.map_nil,List.map_cons,List.map_nil,hKK,hRR]
    refine J6 (X++[(a',c',R)],.own 97 4 a' w c' (qds R)::E,a2,c2) ⟨⟨by dsimp only;rw[f1];omega,by dsimp only;rw[f1];exact f3,hXr.cons.snoc (Sl.own List.mem_cons_self rfl hRi.symm)⟩,by dsimp only;rw[f1];omega⟩ ?_ ?_
    · dsimp only
      rw[f1]
      exact(by repeat (first|exact Le.nil _|refine Le.cons (by (first|rfl|(exact congrArg some (congrArg (Value.int _) (by omega))))) ?_))
    · dsimp only
      rw[f1,f2]
      simp only[List.cons_append]
      exact I8
  · have cM:=fun (H':List Ent) (a:Option Addr) (c':Nat) {vs:List Value} [RdC G H' a vs] (hv:vs=X.map rwV) hF=>Bn1 G H' (E++H) X a i c' (-s) 253 [.pointer (some ⟨b5,0,none⟩),.pointer (some ⟨b9,0,none⟩)] (List.replicate w (32,x,y,z)) w hv hXl.symm (by omega) ⟨by omega,by omega⟩ hXr (by simp) hF
    have hit:i=t-f:=by omega
    have hP:X.map (·.2.2)=((rowsL C w h).drop f).take (t-f):=by rw[hX,BA3 hft ht,hit]
    have hmov:=BM8 ([]:List Qd) (L:=rowsL C w h) (n:= -s) (q:=List.replicate w (32,x,y,z)) hft (by rw[AQ1];exact ht)
    rw[←hP] at hmov
    have hneg:IntKind.i64.wrap (0-s)= -s:=(IntWalk.i64_in (0-s) (by omega)).trans (by omega)
    rw[hmov] at cM
    have hrw:=Br5 HC.out
    have hgw:=BG4 (d:=([]:List Qd)) (f:=f) (n:= -s) (q:=List.replicate w ((32,x,y,z):Qd)) (Pr:=fun r=>r.length=w) hrw (by simp) (show t≤(rowsL C w h).length by rw[AQ1];exact ht)
    have hfl0:=BH3 HC.out
    have hLl:=AQ1 C w h
    have h0:qds C=qds (genL [] (rowsL C w h) f f (shG [] (rowsL C w h) f t (-s) (List.replicate w (32,x,y,z)))).flatten:=by rw[B53 [] (Nat.le_refl _),hfl0]
    unfold scrC scrR
    generalize shG [] (rowsL C w h) f t (-s) (List.replicate w (32,x,y,z))=g at *
    rw[←hneg] at cM
    clear hrd cC hP hmov hX hneg
    repeat' (first|(apply F3;first|(apply C8;refine A8 ?_)|(apply C9;refine D8 rfl rfl ?_)|(apply E5;refine F5 rfl rfl rfl ?_;refine F7 rfl ?_)|(apply D6;refine D9 rfl rfl ?_)|(apply Y0;refine Z8 (Z7 rfl rfl rfl) rfl ?_)|(apply H6;refine c_call rfl rfl rfl (cM _ _ _ rfl (fun _=>B99 _ _ _ _ _ _ _ _ _ _ _ _ hw)) rfl rfl ?_;rintro _ _ ⟨Y,E2,a2,c2,rfl,hYl,hY,hYr,rfl⟩)|(apply J5;refine s_call (Q5 rfl rfl) rfl ?_)|(refine A65 (Az4 rfl rfl rfl) rfl ?_))|(apply D7)|(apply N8)|(apply F6)|(apply A7)|(refine G5 rfl ?_;apply E9<;>intro hq<;>(try (exfalso;omega)))|(apply D5)|(apply J7)|(apply J8))
    rw[←hit] at hY
    refine R9 (α:=Nat) (fun j=>[(1,.int .i64 f),(5,.pointer (some ⟨b5,0,none⟩)),(32,.slice a2 i c2),(33,.int .i64 i),(34,.int .i64 j)])
      (fun j=> .own 97 4 (some ⟨b,0,none⟩) n c (qds (genL [] (rowsL C w h) f (f+j) g).flatten):: .own 27 1 a2 i c2 (Y.map rwV):: .blk b5 29 [.int .i64 w,.int .i64 h,.slice (some ⟨b,0,none⟩) n c]::(E2++(E++H)))
      (fun j=>j≤i) (fun j=>i-j) 0 (Nat.zero_le _) (by repeat (first|exact Le.nil _|refine Le.cons (by (rfl)) ?_)) ?_ ?_
    · rw[h0]
      refine fun _ hw=>?_
      have hw:=hw.sub (List.Sublist.cons_cons _ (List.Sublist.append (List.Sublist.refl E2) (List.Sublist.cons _ (List.Sublist.cons_cons _ (List.Sublist.cons _ (List.Sublist.refl _))))))
      exact hw.perm ((List.Perm.cons _ ((List.perm_middle (l₁:=E2)).trans (List.Perm.cons _ (List.perm_middle (l₁:=E2))))).trans (List.Perm.swap _ _ _))
    intro j hj
    by_cases hlt:(j:Int)<i
    · have hk:f+j<h:=by omega
      have cOj:=fun H=>cO H (f+j) hk
      simp only[Int.natCast_add] at cOj
      obtain⟨⟨a1,c1,R⟩,hx⟩:=AA3 (X:=Y) (k:=j) (by omega)
      have hR:R=g (f+j):=by
        have h5:=B60 (·.2.2) hx
        rw[hY,List.getElem?_map,List.getElem?_range (by omega),Option.map_some] at h5
        exact(Option.some.inj h5).symm
      have hRw:R.length=w:=by rw[hR];exact hgw _
      have hcell:=BO5 hx
      dsimp only at hcell
      rw[hRw] at hcell
      have hcell':(Y.map rwV)[(j:Int).toNat * 1]? =some (.slice a1 w c1):=by rw[show (j:Int).toNat * 1=j from by omega];exact hcell
      have hlo:(Y.map rwV).length=i * 1:=by simp [hYl]
      haveI hrd0:=(hYr.at hx).rd
      dsimp only at hrd0
      have hql:(qds R).length=w * 4:=by rw[Z4,hRw]
      have hone:((qds R).take (w * 4)).all (·.oneCell')=true:=by rw[AL6];exact Aq6 _
      have hov:=Bd5 (L:=genL [] (rowsL C w h) f (f+j) g) (k:=f+j) (w:=w) (R:=R) (A88 hrw (fun i _=>hgw i)) (by rw[AN9,hLl];exact hk) hRw
      have hov2:over (qds (genL [] (rowsL C w h) f (f+j) g).flatten) ((f+j) * w * 4) ((qds R).take (w * 4))=qds (genL [] (rowsL C w h) f (f+(j+1)) g).flatten:=by
        rw[List.take_of_length_le (by rw[hql];exact Nat.le_refl _),hov,hR,Bj1 [] (by omega)]
        rfl
      have hkw:=hkW (f+j) hk
      clear hov hR cO hkW hY hYr hRl
      generalize hKK:f+j=k at *
      repeat' (first|(apply F3;first|(apply C8;refine A8 ?_)|(apply C9;refine D8 rfl rfl ?_)|(apply E5;refine F5 rfl rfl rfl ?_;first|(apply M0;refine L9 ⟨by omega,by omega⟩ ?_)|refine F7 rfl ?_)|(apply F4;first|(refine F8 rfl rfl ?_;refine K5 rfl ?_)|(refine F8 rfl rfl ?_;refine X5 hcell' ?_))|(apply D6;refine D9 rfl rfl ?_)|(apply M4;refine N9 (K6 rfl rfl rfl hlo (by omega) (by omega)) rfl ?_)|(apply H6;refine F9 rfl rfl rfl (cOj _) rfl rfl ?_)|(apply J5;refine Ap3 (m:=w) rfl rfl rfl rfl (by omega) (by rw[hql];exact Nat.le_refl _) (by omega) hone rfl rfl ?_;rw[hov2]))|(apply D7)|(apply G9)|(apply F6)|(apply A7)|(refine G5 rfl ?_;apply E9<;>intro hq<;>(try (exfalso;omega)))|(apply D5)|(apply J2))
      exact J6 (j+1) ⟨by omega,by omega⟩ (by repeat (first|exact Le.nil _|refine Le.cons (by (rfl)) ?_)) I8
    · obtain rfl:j=i:=by omega
      repeat' (first|(apply F3;first|(apply C8;refine A8 ?_)|(apply E5;refine F5 rfl rfl rfl ?_;refine F7 rfl ?_))|(apply D7)|(apply N8)|(apply A7)|(refine G5 rfl ?_;apply E9<;>intro hq<;>(try (exfalso;omega)))|(apply D5)|(apply J7)|(apply J8))
      rw[show f+j=t from by omega]
      refine AG7 (_::H) (by (exact .inl rfl)) rfl (List.Sublist.cons_cons _ (List.Sublist.cons _ (List.Sublist.cons _ ((List.sublist_append_right E H).trans (List.sublist_append_right E2 _))))) ?_
      exact⟨rfl,rfl⟩
end Go.Proofs.YtmmnimagbnlcmaaGreatDoor
end
namespace Go.Proofs.YtmmnimagbnlcmaaGreatDoor
open Go Go.RowKit Go.Fw Go.Sx
set_option maxRecDepth 100000
section
def rwOk (w:Nat) (r:List Qd):Prop:=r.length=w∧∀i,i<w→l7 r i=true
theorem Ba1 {w k:Nat} {L:List (List Qd)} (hL:∀r∈L,r.length=w) (hk:k<L.length):rowQ w L.flatten k=L[k]:=by
  have hA:=As0 hL (k:=k) (by omega)
  have hLk:(L[k]).length=w:=hL _ (List.getElem_mem hk)
  unfold rowQ
  rw[Al8 (List.getElem?_eq_getElem hk),List.append_assoc,←hA,List.drop_left]
  conv=>lhs;rw[←hLk,List.take_left]
theorem GrOk.of_rows {w h:Nat} {L:List (List Qd)} (hs:(1≤w∧w≤160)∧(1≤h∧h≤60)) (hl:L.length=h) (hr:∀r∈L,rwOk w r):GrOk w h L.flatten:=by
  have hL:∀r∈L,r.length=w:=fun r h=>(hr r h).1
  refine⟨hs,by rw[Aj3 hL,hl,Nat.mul_comm],fun k hk i hi=>?_⟩
  rw[Ba1 hL (by omega)]
  exact(hr _ (List.getElem_mem _)).2 i hi
theorem GrOk.rows {w h:Nat} {C:List Qd} (g:GrOk w h C):∀r∈rowsL C w h,rwOk w r:=fun r hr=>by
  obtain⟨k,hk,rfl⟩:=List.mem_map.1 hr
  have hk:=List.mem_range.1 hk
  exact⟨j5 hk g.len,g.cell k hk⟩
theorem Az5 {w:Nat} {x y z:Int} (hp:penB x y z=true):rwOk w (List.replicate w (32,x,y,z)):=by
  refine⟨List.length_replicate,fun i hi=>?_⟩
  have e:(List.replicate w ((32,x,y,z):Qd)).getD i qz=(32,x,y,z):=by
    rw[List.getD_eq_getElem?_getD,List.getElem?_replicate,if_pos hi];rfl
  rw[AH2,e]
  refine⟨(AJ9 _).2 ⟨hp,.inr (by show H5 32≠0;rw[w32];decide)⟩,?_⟩
  unfold loneB
  rw[e,if_neg (show ¬(32:Int)=0 by decide),decide_eq_false]
  rintro ⟨h,-⟩
  have h:H5 32=2:=h
  rw[w32] at h
  cases h
theorem GrOk.scroll {w h f t:Nat} {C:List Qd} (g:GrOk w h C) (s x y z:Int) (ht:t≤h) (hp:penB x y z=true):GrOk w h (scrC C w h f t s (32,x,y,z)):=by
  unfold scrC scrR
  refine GrOk.of_rows g.size (by rw[AN9,AQ1]) (A88 g.rows fun i _=>BG4 g.rows (Az5 hp) (by rw[AQ1];exact ht) i)
theorem GrOk.new {w h:Nat} (hs:(1≤w∧w≤160)∧(1≤h∧h≤60)):GrOk w h (List.replicate (w * h) (32,0,0,0)):=by
  have e:((List.replicate h (List.replicate w ((32,0,0,0):Qd))).flatten)=List.replicate (w * h) (32,0,0,0):=by
    rw[List.flatten_replicate_replicate,Nat.mul_comm]
  rw[←e]
  exact GrOk.of_rows hs List.length_replicate fun r hr=>by
    rw[(List.mem_replicate.1 hr).2];exact Az5 (by decide+kernel)
end
end Go.Proofs.YtmmnimagbnlcmaaGreatDoor
