/- Texts of this claim, merged: WidthSame Cut GridA GridB GridC Rep. -/
import Derived.Test.YtmmnimagbnlcmaaGreatDoorTy5
import Derived.Test.YtmmnimagbnlcmaaGreatDoorRows
import Derived.WalkKit
import Derived.WalkSpells
import Derived.WalkLawsBesides
import Derived.Handy
import Derived.Lib.Hide
import Derived.Laws.BitsAllLaws
import Derived.Deep.MidRow
import Derived.Deep.WholeRow
import Derived.BigQuiet
import Derived.Deep.QuietTactic
import Derived.Laws.CopyOwn
import Derived.Laws.AppendOwnNone
import Derived.Laws.MakeOwn
import Derived.Laws.IdiomStrings
import Derived.OrdersHeld
import Derived.Lib.SliceRun
import Derived.ChangeKeysEq
import Derived.Laws.CopyRow
set_option maxRecDepth 100000
set_option maxHeartbeats 8000000
open Go Go.RowKit Go.Fw Go.Sx
namespace Go.Proofs.YtmmnimagbnlcmaaGreatDoor
theorem R4 (n:Int) (v:Int) (h:(if n<0∨1114111<n∨inTab n K8=true then (0:Int) else if inTab n O8=true then 2 else 1)=v) (h':(if O3 n=true then (Y9.take 34).foldl (fun w x=>if x.1≤n then x.2 else w) 0 else 0)=v):T9 n=J2 n:=by
 unfold T9 J2 refTo
 rw[h,h']
theorem Bo3 (n:Int) (h2:n<0):T9 n=J2 n:=by
 have e:O3 n=false:=by unfold O3;simp;omega
 exact R4 n 0 (by rw[if_pos (by omega)]) (by rw[e];rfl)
theorem Bg6 (n:Int) (h1:0≤n) (h2:n<32):T9 n=J2 n:=by
 have e0:inTab n K8=true:=by simp [inTab,K8];omega
 have e2:O3 n=true:=by unfold O3;simp;omega
 exact R4 n 0 (by rw[if_pos (by rw[e0];simp)]) (by rw[if_pos e2];simp (disch:=omega) only[Y9,List.take,List.foldl,if_pos,if_neg])
theorem Bg7 (n:Int) (h1:32≤n) (h2:n<127):T9 n=J2 n:=by
 have e0:inTab n K8=false:=by simp [inTab,K8];omega
 have e1:inTab n O8=false:=by simp [inTab,O8];omega
 have e2:O3 n=true:=by unfold O3;simp;omega
 exact R4 n 1 (by rw[if_neg (by rw[e0];simp;omega),if_neg (by rw[e1];simp)]) (by rw[if_pos e2];simp (disch:=omega) only[Y9,List.take,List.foldl,if_pos,if_neg])
theorem Bn7 (n:Int) (h1:127≤n) (h2:n<160):T9 n=J2 n:=by
 have e0:inTab n K8=true:=by simp [inTab,K8];omega
 have e2:O3 n=true:=by unfold O3;simp;omega
 exact R4 n 0 (by rw[if_pos (by rw[e0];simp)]) (by rw[if_pos e2];simp (disch:=omega) only[Y9,List.take,List.foldl,if_pos,if_neg])
theorem Bh0 (n:Int) (h1:160≤n) (h2:n<768):T9 n=J2 n:=by
 have e0:inTab n K8=false:=by simp [inTab,K8];omega
 have e1:inTab n O8=false:=by simp [inTab,O8];omega
 have e2:O3 n=true:=by unfold O3;simp;omega
 exact R4 n 1 (by rw[if_neg (by rw[e0];simp;omega),if_neg (by rw[e1];simp)]) (by rw[if_pos e2];simp (disch:=omega) only[Y9,List.take,List.foldl,if_pos,if_neg])
theorem Bm6 (n:Int) (h1:768≤n) (h2:n<880):T9 n=J2 n:=by
 have e0:inTab n K8=true:=by simp [inTab,K8];omega
 have e2:O3 n=true:=by unfold O3;simp;omega
 exact R4 n 0 (by rw[if_pos (by rw[e0];simp)]) (by rw[if_pos e2];simp (disch:=omega) only[Y9,List.take,List.foldl,if_pos,if_neg])
theorem Bj1 (n:Int) (h1:880≤n) (h2:n<4352):T9 n=J2 n:=by
 have e0:inTab n K8=false:=by simp [inTab,K8];omega
 have e1:inTab n O8=false:=by simp [inTab,O8];omega
 have e2:O3 n=true:=by unfold O3;simp;omega
 exact R4 n 1 (by rw[if_neg (by rw[e0];simp;omega),if_neg (by rw[e1];simp)]) (by rw[if_pos e2];simp (disch:=omega) only[Y9,List.take,List.foldl,if_pos,if_neg])
theorem Bo9 (n:Int) (h1:4352≤n) (h2:n<4448):T9 n=J2 n:=by
 have e0:inTab n K8=false:=by simp [inTab,K8];omega
 have e1:inTab n O8=true:=by simp [inTab,O8];omega
 have e2:O3 n=true:=by unfold O3;simp;omega
 exact R4 n 2 (by rw[if_neg (by rw[e0];simp;omega),if_pos e1]) (by rw[if_pos e2];simp (disch:=omega) only[Y9,List.take,List.foldl,if_pos,if_neg])
theorem Bj3 (n:Int) (h1:4448≤n) (h2:n<8203):T9 n=J2 n:=by
 have e0:inTab n K8=false:=by simp [inTab,K8];omega
 have e1:inTab n O8=false:=by simp [inTab,O8];omega
 have e2:O3 n=true:=by unfold O3;simp;omega
 exact R4 n 1 (by rw[if_neg (by rw[e0];simp;omega),if_neg (by rw[e1];simp)]) (by rw[if_pos e2];simp (disch:=omega) only[Y9,List.take,List.foldl,if_pos,if_neg])
theorem Bk4 (n:Int) (h1:8203≤n) (h2:n<8208):T9 n=J2 n:=by
 have e0:inTab n K8=true:=by simp [inTab,K8];omega
 have e2:O3 n=true:=by unfold O3;simp;omega
 exact R4 n 0 (by rw[if_pos (by rw[e0];simp)]) (by rw[if_pos e2];simp (disch:=omega) only[Y9,List.take,List.foldl,if_pos,if_neg])
theorem BQ4 (n:Int) (h1:8208≤n) (h2:n<11904):T9 n=J2 n:=by
 have e0:inTab n K8=false:=by simp [inTab,K8];omega
 have e1:inTab n O8=false:=by simp [inTab,O8];omega
 have e2:O3 n=true:=by unfold O3;simp;omega
 exact R4 n 1 (by rw[if_neg (by rw[e0];simp;omega),if_neg (by rw[e1];simp)]) (by rw[if_pos e2];simp (disch:=omega) only[Y9,List.take,List.foldl,if_pos,if_neg])
theorem BN8 (n:Int) (h1:11904≤n) (h2:n<12351):T9 n=J2 n:=by
 have e0:inTab n K8=false:=by simp [inTab,K8];omega
 have e1:inTab n O8=true:=by simp [inTab,O8];omega
 have e2:O3 n=true:=by unfold O3;simp;omega
 exact R4 n 2 (by rw[if_neg (by rw[e0];simp;omega),if_pos e1]) (by rw[if_pos e2];simp (disch:=omega) only[Y9,List.take,List.foldl,if_pos,if_neg])
theorem BR5 (n:Int) (h1:12351≤n) (h2:n<12353):T9 n=J2 n:=by
 have e0:inTab n K8=false:=by simp [inTab,K8];omega
 have e1:inTab n O8=false:=by simp [inTab,O8];omega
 have e2:O3 n=true:=by unfold O3;simp;omega
 exact R4 n 1 (by rw[if_neg (by rw[e0];simp;omega),if_neg (by rw[e1];simp)]) (by rw[if_pos e2];simp (disch:=omega) only[Y9,List.take,List.foldl,if_pos,if_neg])
theorem BR3 (n:Int) (h1:12353≤n) (h2:n<19904):T9 n=J2 n:=by
 have e0:inTab n K8=false:=by simp [inTab,K8];omega
 have e1:inTab n O8=true:=by simp [inTab,O8];omega
 have e2:O3 n=true:=by unfold O3;simp;omega
 exact R4 n 2 (by rw[if_neg (by rw[e0];simp;omega),if_pos e1]) (by rw[if_pos e2];simp (disch:=omega) only[Y9,List.take,List.foldl,if_pos,if_neg])
theorem BT5 (n:Int) (h1:19904≤n) (h2:n<19968):T9 n=J2 n:=by
 have e0:inTab n K8=false:=by simp [inTab,K8];omega
 have e1:inTab n O8=false:=by simp [inTab,O8];omega
 have e2:O3 n=true:=by unfold O3;simp;omega
 exact R4 n 1 (by rw[if_neg (by rw[e0];simp;omega),if_neg (by rw[e1];simp)]) (by rw[if_pos e2];simp (disch:=omega) only[Y9,List.take,List.foldl,if_pos,if_neg])
theorem Bc0 (n:Int) (h1:19968≤n) (h2:n<42192):T9 n=J2 n:=by
 have e0:inTab n K8=false:=by simp [inTab,K8];omega
 have e1:inTab n O8=true:=by simp [inTab,O8];omega
 have e2:O3 n=true:=by unfold O3;simp;omega
 exact R4 n 2 (by rw[if_neg (by rw[e0];simp;omega),if_pos e1]) (by rw[if_pos e2];simp (disch:=omega) only[Y9,List.take,List.foldl,if_pos,if_neg])
theorem BP6 (n:Int) (h1:42192≤n) (h2:n<44032):T9 n=J2 n:=by
 have e0:inTab n K8=false:=by simp [inTab,K8];omega
 have e1:inTab n O8=false:=by simp [inTab,O8];omega
 have e2:O3 n=true:=by unfold O3;simp;omega
 exact R4 n 1 (by rw[if_neg (by rw[e0];simp;omega),if_neg (by rw[e1];simp)]) (by rw[if_pos e2];simp (disch:=omega) only[Y9,List.take,List.foldl,if_pos,if_neg])
theorem Bc3 (n:Int) (h1:44032≤n) (h2:n<55204):T9 n=J2 n:=by
 have e0:inTab n K8=false:=by simp [inTab,K8];omega
 have e1:inTab n O8=true:=by simp [inTab,O8];omega
 have e2:O3 n=true:=by unfold O3;simp;omega
 exact R4 n 2 (by rw[if_neg (by rw[e0];simp;omega),if_pos e1]) (by rw[if_pos e2];simp (disch:=omega) only[Y9,List.take,List.foldl,if_pos,if_neg])
theorem BW0 (n:Int) (h1:55204≤n) (h2:n<55296):T9 n=J2 n:=by
 have e0:inTab n K8=false:=by simp [inTab,K8];omega
 have e1:inTab n O8=false:=by simp [inTab,O8];omega
 have e2:O3 n=true:=by unfold O3;simp;omega
 exact R4 n 1 (by rw[if_neg (by rw[e0];simp;omega),if_neg (by rw[e1];simp)]) (by rw[if_pos e2];simp (disch:=omega) only[Y9,List.take,List.foldl,if_pos,if_neg])
theorem BO6 (n:Int) (h1:55296≤n) (h2:n<57344):T9 n=J2 n:=by
 have e0:inTab n K8=true:=by simp [inTab,K8];omega
 have e2:O3 n=false:=by unfold O3;simp;omega
 exact R4 n 0 (by rw[if_pos (by rw[e0];simp)]) (by rw[if_neg (by rw[e2];simp)])
theorem BY4 (n:Int) (h1:57344≤n) (h2:n<63744):T9 n=J2 n:=by
 have e0:inTab n K8=false:=by simp [inTab,K8];omega
 have e1:inTab n O8=false:=by simp [inTab,O8];omega
 have e2:O3 n=true:=by unfold O3;simp;omega
 exact R4 n 1 (by rw[if_neg (by rw[e0];simp;omega),if_neg (by rw[e1];simp)]) (by rw[if_pos e2];simp (disch:=omega) only[Y9,List.take,List.foldl,if_pos,if_neg])
theorem BR2 (n:Int) (h1:63744≤n) (h2:n<64256):T9 n=J2 n:=by
 have e0:inTab n K8=false:=by simp [inTab,K8];omega
 have e1:inTab n O8=true:=by simp [inTab,O8];omega
 have e2:O3 n=true:=by unfold O3;simp;omega
 exact R4 n 2 (by rw[if_neg (by rw[e0];simp;omega),if_pos e1]) (by rw[if_pos e2];simp (disch:=omega) only[Y9,List.take,List.foldl,if_pos,if_neg])
theorem BZ6 (n:Int) (h1:64256≤n) (h2:n<65024):T9 n=J2 n:=by
 have e0:inTab n K8=false:=by simp [inTab,K8];omega
 have e1:inTab n O8=false:=by simp [inTab,O8];omega
 have e2:O3 n=true:=by unfold O3;simp;omega
 exact R4 n 1 (by rw[if_neg (by rw[e0];simp;omega),if_neg (by rw[e1];simp)]) (by rw[if_pos e2];simp (disch:=omega) only[Y9,List.take,List.foldl,if_pos,if_neg])
theorem BY9 (n:Int) (h1:65024≤n) (h2:n<65040):T9 n=J2 n:=by
 have e0:inTab n K8=true:=by simp [inTab,K8];omega
 have e2:O3 n=true:=by unfold O3;simp;omega
 exact R4 n 0 (by rw[if_pos (by rw[e0];simp)]) (by rw[if_pos e2];simp (disch:=omega) only[Y9,List.take,List.foldl,if_pos,if_neg])
theorem BT7 (n:Int) (h1:65040≤n) (h2:n<65072):T9 n=J2 n:=by
 have e0:inTab n K8=false:=by simp [inTab,K8];omega
 have e1:inTab n O8=false:=by simp [inTab,O8];omega
 have e2:O3 n=true:=by unfold O3;simp;omega
 exact R4 n 1 (by rw[if_neg (by rw[e0];simp;omega),if_neg (by rw[e1];simp)]) (by rw[if_pos e2];simp (disch:=omega) only[Y9,List.take,List.foldl,if_pos,if_neg])
theorem BS1 (n:Int) (h1:65072≤n) (h2:n<65136):T9 n=J2 n:=by
 have e0:inTab n K8=false:=by simp [inTab,K8];omega
 have e1:inTab n O8=true:=by simp [inTab,O8];omega
 have e2:O3 n=true:=by unfold O3;simp;omega
 exact R4 n 2 (by rw[if_neg (by rw[e0];simp;omega),if_pos e1]) (by rw[if_pos e2];simp (disch:=omega) only[Y9,List.take,List.foldl,if_pos,if_neg])
theorem BV8 (n:Int) (h1:65136≤n) (h2:n<65280):T9 n=J2 n:=by
 have e0:inTab n K8=false:=by simp [inTab,K8];omega
 have e1:inTab n O8=false:=by simp [inTab,O8];omega
 have e2:O3 n=true:=by unfold O3;simp;omega
 exact R4 n 1 (by rw[if_neg (by rw[e0];simp;omega),if_neg (by rw[e1];simp)]) (by rw[if_pos e2];simp (disch:=omega) only[Y9,List.take,List.foldl,if_pos,if_neg])
theorem BY0 (n:Int) (h1:65280≤n) (h2:n<65377):T9 n=J2 n:=by
 have e0:inTab n K8=false:=by simp [inTab,K8];omega
 have e1:inTab n O8=true:=by simp [inTab,O8];omega
 have e2:O3 n=true:=by unfold O3;simp;omega
 exact R4 n 2 (by rw[if_neg (by rw[e0];simp;omega),if_pos e1]) (by rw[if_pos e2];simp (disch:=omega) only[Y9,List.take,List.foldl,if_pos,if_neg])
theorem Ba0 (n:Int) (h1:65377≤n) (h2:n<65504):T9 n=J2 n:=by
 have e0:inTab n K8=false:=by simp [inTab,K8];omega
 have e1:inTab n O8=false:=by simp [inTab,O8];omega
 have e2:O3 n=true:=by unfold O3;simp;omega
 exact R4 n 1 (by rw[if_neg (by rw[e0];simp;omega),if_neg (by rw[e1];simp)]) (by rw[if_pos e2];simp (disch:=omega) only[Y9,List.take,List.foldl,if_pos,if_neg])
theorem Bc5 (n:Int) (h1:65504≤n) (h2:n<65511):T9 n=J2 n:=by
 have e0:inTab n K8=false:=by simp [inTab,K8];omega
 have e1:inTab n O8=true:=by simp [inTab,O8];omega
 have e2:O3 n=true:=by unfold O3;simp;omega
 exact R4 n 2 (by rw[if_neg (by rw[e0];simp;omega),if_pos e1]) (by rw[if_pos e2];simp (disch:=omega) only[Y9,List.take,List.foldl,if_pos,if_neg])
theorem BU1 (n:Int) (h1:65511≤n) (h2:n<127744):T9 n=J2 n:=by
 have e0:inTab n K8=false:=by simp [inTab,K8];omega
 have e1:inTab n O8=false:=by simp [inTab,O8];omega
 have e2:O3 n=true:=by unfold O3;simp;omega
 exact R4 n 1 (by rw[if_neg (by rw[e0];simp;omega),if_neg (by rw[e1];simp)]) (by rw[if_pos e2];simp (disch:=omega) only[Y9,List.take,List.foldl,if_pos,if_neg])
theorem Ba6 (n:Int) (h1:127744≤n) (h2:n<128592):T9 n=J2 n:=by
 have e0:inTab n K8=false:=by simp [inTab,K8];omega
 have e1:inTab n O8=true:=by simp [inTab,O8];omega
 have e2:O3 n=true:=by unfold O3;simp;omega
 exact R4 n 2 (by rw[if_neg (by rw[e0];simp;omega),if_pos e1]) (by rw[if_pos e2];simp (disch:=omega) only[Y9,List.take,List.foldl,if_pos,if_neg])
theorem BO2 (n:Int) (h1:128592≤n) (h2:n<129280):T9 n=J2 n:=by
 have e0:inTab n K8=false:=by simp [inTab,K8];omega
 have e1:inTab n O8=false:=by simp [inTab,O8];omega
 have e2:O3 n=true:=by unfold O3;simp;omega
 exact R4 n 1 (by rw[if_neg (by rw[e0];simp;omega),if_neg (by rw[e1];simp)]) (by rw[if_pos e2];simp (disch:=omega) only[Y9,List.take,List.foldl,if_pos,if_neg])
theorem BP9 (n:Int) (h1:129280≤n) (h2:n<129536):T9 n=J2 n:=by
 have e0:inTab n K8=false:=by simp [inTab,K8];omega
 have e1:inTab n O8=true:=by simp [inTab,O8];omega
 have e2:O3 n=true:=by unfold O3;simp;omega
 exact R4 n 2 (by rw[if_neg (by rw[e0];simp;omega),if_pos e1]) (by rw[if_pos e2];simp (disch:=omega) only[Y9,List.take,List.foldl,if_pos,if_neg])
theorem Ba9 (n:Int) (h1:129536≤n) (h2:n<131072):T9 n=J2 n:=by
 have e0:inTab n K8=false:=by simp [inTab,K8];omega
 have e1:inTab n O8=false:=by simp [inTab,O8];omega
 have e2:O3 n=true:=by unfold O3;simp;omega
 exact R4 n 1 (by rw[if_neg (by rw[e0];simp;omega),if_neg (by rw[e1];simp)]) (by rw[if_pos e2];simp (disch:=omega) only[Y9,List.take,List.foldl,if_pos,if_neg])
theorem BX4 (n:Int) (h1:131072≤n) (h2:n<262142):T9 n=J2 n:=by
 have e0:inTab n K8=false:=by simp [inTab,K8];omega
 have e1:inTab n O8=true:=by simp [inTab,O8];omega
 have e2:O3 n=true:=by unfold O3;simp;omega
 exact R4 n 2 (by rw[if_neg (by rw[e0];simp;omega),if_pos e1]) (by rw[if_pos e2];simp (disch:=omega) only[Y9,List.take,List.foldl,if_pos,if_neg])
theorem BU9 (n:Int) (h1:262142≤n) (h2:n<1114112):T9 n=J2 n:=by
 have e0:inTab n K8=false:=by simp [inTab,K8];omega
 have e1:inTab n O8=false:=by simp [inTab,O8];omega
 have e2:O3 n=true:=by unfold O3;simp;omega
 exact R4 n 1 (by rw[if_neg (by rw[e0];simp;omega),if_neg (by rw[e1];simp)]) (by rw[if_pos e2];simp (disch:=omega) only[Y9,List.take,List.foldl,if_pos])
theorem BW4 (n:Int) (h1:1114112≤n):T9 n=J2 n:=by
 have e:O3 n=false:=by unfold O3;simp;omega
 exact R4 n 0 (by rw[if_pos (by omega)]) (by rw[e];rfl)
theorem Am9 (n:Int):T9 n=J2 n:=by
 rcases Int.lt_or_le n 0 with c0|c0
 ·exact Bo3 n c0
 rcases Int.lt_or_le n 32 with c1|c1
 ·exact Bg6 n c0 c1
 rcases Int.lt_or_le n 127 with c2|c2
 ·exact Bg7 n c1 c2
 rcases Int.lt_or_le n 160 with c3|c3
 ·exact Bn7 n c2 c3
 rcases Int.lt_or_le n 768 with c4|c4
 ·exact Bh0 n c3 c4
 rcases Int.lt_or_le n 880 with c5|c5
 ·exact Bm6 n c4 c5
 rcases Int.lt_or_le n 4352 with c6|c6
 ·exact Bj1 n c5 c6
 rcases Int.lt_or_le n 4448 with c7|c7
 ·exact Bo9 n c6 c7
 rcases Int.lt_or_le n 8203 with c8|c8
 ·exact Bj3 n c7 c8
 rcases Int.lt_or_le n 8208 with c9|c9
 ·exact Bk4 n c8 c9
 rcases Int.lt_or_le n 11904 with c10|c10
 ·exact BQ4 n c9 c10
 rcases Int.lt_or_le n 12351 with c11|c11
 ·exact BN8 n c10 c11
 rcases Int.lt_or_le n 12353 with c12|c12
 ·exact BR5 n c11 c12
 rcases Int.lt_or_le n 19904 with c13|c13
 ·exact BR3 n c12 c13
 rcases Int.lt_or_le n 19968 with c14|c14
 ·exact BT5 n c13 c14
 rcases Int.lt_or_le n 42192 with c15|c15
 ·exact Bc0 n c14 c15
 rcases Int.lt_or_le n 44032 with c16|c16
 ·exact BP6 n c15 c16
 rcases Int.lt_or_le n 55204 with c17|c17
 ·exact Bc3 n c16 c17
 rcases Int.lt_or_le n 55296 with c18|c18
 ·exact BW0 n c17 c18
 rcases Int.lt_or_le n 57344 with c19|c19
 ·exact BO6 n c18 c19
 rcases Int.lt_or_le n 63744 with c20|c20
 ·exact BY4 n c19 c20
 rcases Int.lt_or_le n 64256 with c21|c21
 ·exact BR2 n c20 c21
 rcases Int.lt_or_le n 65024 with c22|c22
 ·exact BZ6 n c21 c22
 rcases Int.lt_or_le n 65040 with c23|c23
 ·exact BY9 n c22 c23
 rcases Int.lt_or_le n 65072 with c24|c24
 ·exact BT7 n c23 c24
 rcases Int.lt_or_le n 65136 with c25|c25
 ·exact BS1 n c24 c25
 rcases Int.lt_or_le n 65280 with c26|c26
 ·exact BV8 n c25 c26
 rcases Int.lt_or_le n 65377 with c27|c27
 ·exact BY0 n c26 c27
 rcases Int.lt_or_le n 65504 with c28|c28
 ·exact Ba0 n c27 c28
 rcases Int.lt_or_le n 65511 with c29|c29
 ·exact Bc5 n c28 c29
 rcases Int.lt_or_le n 127744 with c30|c30
 ·exact BU1 n c29 c30
 rcases Int.lt_or_le n 128592 with c31|c31
 ·exact Ba6 n c30 c31
 rcases Int.lt_or_le n 129280 with c32|c32
 ·exact BO2 n c31 c32
 rcases Int.lt_or_le n 129536 with c33|c33
 ·exact BP9 n c32 c33
 rcases Int.lt_or_le n 131072 with c34|c34
 ·exact Ba9 n c33 c34
 rcases Int.lt_or_le n 262142 with c35|c35
 ·exact BX4 n c34 c35
 rcases Int.lt_or_le n 1114112 with c36|c36
 ·exact BU9 n c35 c36
 exact BW4 n c36
section
attribute [local irreducible] SW SL SQ AtQ SV SC BB LD PK Yields SO SOT SOA SY SP SPT SPA
theorem AT7 (G:Ctx) (H:List Ent) (x:Int):SV Tryz.prog G 112 [.int .i64 x] H (.int .i64 (J2 x)):=
 u6 (l8 Tryz.func112 rfl rfl) fun w _=>by rw[←Am9];exact BC0 x w
end
end Go.Proofs.YtmmnimagbnlcmaaGreatDoor
namespace Go.Fw
abbrev Qd:=Int×Int×Int×Int
def qd (q:Qd):List Value:=[.int .i64 q.1,.int .i64 q.2.1,.int .i64 q.2.2.1,.int .i64 q.2.2.2]
def qds (C:List Qd):List Value:=C.flatMap qd
abbrev qz:Qd:=(0,0,0,0)
theorem AY1 (q:Qd):(qd q).length=4:=rfl
theorem AJ6 (q:Qd) (C:List Qd):qds (q::C)=qd q++qds C:=by simp [qds]
theorem Z4 (C D:List Qd):qds (C++D)=qds C++qds D:=by simp [qds]
theorem X6:∀C:List Qd,(qds C).length=C.length * 4
 | []=>rfl
 | q::C=>by rw[AJ6,List.length_append,X6 C,AY1,List.length_cons];omega
theorem AO4:∀(k:Nat) (C:List Qd),(qds C).drop (k * 4)=qds (C.drop k)
 | 0,C=>by simp
 | k+1,[]=>by simp [qds]
 | k+1,q::C=>by
   rw[AJ6,show (k+1) * 4=(qd q).length+k * 4 from by rw[AY1];omega,List.drop_length_add_append,AO4 k C]
   rfl
theorem AM0:∀(k:Nat) (C:List Qd),(qds C).take (k * 4)=qds (C.take k)
 | 0,C=>by simp [qds]
 | k+1,[]=>by simp [qds]
 | k+1,q::C=>by
   rw[AJ6,show (k+1) * 4=(qd q).length+k * 4 from by rw[AY1];omega,List.take_length_add_append,AM0 k C,List.take_succ_cons,AJ6]
theorem BY5 (C:List Qd) (q m:Nat) (l h:Int) (hl:l=q) (hh:h=q+m):((qds C).drop (l.toNat * 4)).take ((h.toNat-l.toNat) * 4)=qds ((C.drop q).take m):=by
 rw[show l.toNat=q from by omega,show h.toNat-q=m from by omega,AO4,AM0]
theorem AQ3 {C:List Qd} {k:Nat} (hk:k<C.length):C.drop k=C.getD k qz::C.drop (k+1):=by
 rw[List.drop_eq_getElem_cons hk,List.getD_eq_getElem?_getD,List.getElem?_eq_getElem hk]
 rfl
theorem Bf8 {C:List Qd} {k:Nat} (j:Nat) (hk:k<C.length) (hj:j<4):(qds C)[k * 4+j]? =(qd (C.getD k qz))[j]? :=by
 rw[←List.getElem?_drop,AO4,AQ3 hk,AJ6,List.getElem?_append_left (by rw[AY1];exact hj)]
theorem A46 {C:List Qd} {k:Nat} (hk:k<C.length):take? ((qds C).drop (k * 4)) 4=some (qd (C.getD k qz)):=by
 rw[AO4,AQ3 hk,AJ6]
 simp [take?,qd]
theorem By0 {C:List Qd} {k:Nat} (hk:k<C.length):take? ((qds C).drop (k * 4+1)) 3=some [.int .i64 (C.getD k qz).2.1,.int .i64 (C.getD k qz).2.2.1,.int .i64 (C.getD k qz).2.2.2]:=by
 rw[←List.drop_drop,AO4,AQ3 hk,AJ6]
 simp [take?,qd]
theorem A20 {C:List Qd} {k:Nat} (q:Qd) (hk:k<C.length):over (qds C) (k * 4) (qd q)=qds (C.set k q):=by
 unfold over
 rw[AM0,AY1,show k * 4+4=(k+1) * 4 from by omega,AO4,List.set_eq_take_append_cons_drop,if_pos hk,Z4,AJ6,List.append_assoc]
theorem Ah6 (C:List Qd):(qds C).all (·.oneCell')=true:=by
 unfold qds
 rw[List.all_flatMap]
 exact List.all_eq_true.2 fun _ _=>O
def tailP (C:List Qd) (k:Nat):Prop:=k<C.length∧(C.getD k qz).1=0∧(C.getD k qz).2=(C.getD (k-1) qz).2
instance (C:List Qd) (k:Nat):Decidable (tailP C k):=by unfold tailP;infer_instance
def loneB (wd:Int→Int) (C:List Qd) (i:Nat):Bool:=
 if (C.getD i qz).1=0 then decide (i=0∨wd (C.getD (i-1) qz).1≠2∨¬tailP C i) else decide (wd (C.getD i qz).1=2∧¬tailP C (i+1))
end Go.Fw
namespace Go.Proofs.YtmmnimagbnlcmaaGreatDoor
section
attribute [local irreducible] SW SL SQ AtQ SV SC BB LD PK Yields SO SOT SOA SY SP SPT SPA
def sizeE (w h:Int):Int:=if 1≤w∧w≤160∧1≤h∧h≤60 then 0 else 1
theorem Aj5 (G:Ctx) (H:List Ent) (w h:Int):SV Tryz.prog G 111 [.int .i64 w,.int .i64 h] H (.int .i64 (sizeE w h)):=by
 unfold sizeE
 refine R3 Tryz.func111 O O O O O ?_
 repeat' (first|(apply E8;first|(apply A8;refine A9 ?_)|(apply C8;refine D7 O O ?_)|(apply E5;refine F7 O O O ?_;refine F9 O ?_)|(apply D5;refine D9 O O ?_)|(apply I6;refine J4 O O ?_;first|(apply P7;refine P6 O ?_)|(apply M6;refine M7 O ?_))|(apply I5;refine J9 O O O O ?_;first|(apply I1)|(apply d9)|(apply P5<;>intro hq<;>(try (exfalso;omega)))))|(apply D6)|(apply G8)|(apply I4)|(apply A7)|(refine G5 O ?_;first|(apply I1)|(apply E9<;>intro hq<;>(try (exfalso;omega))))|(apply C9)|(apply J8))
 all_goals (refine N7 (by (exact .inr O)) O O0 ?_;first|exact B74 (by omega) O|exact B44 (by omega) O)
theorem BE1 (d:Nat) (x y z x' y' z':Int) (b:Bool) (h:b=decide ((x,y,z)=(x',y',z'))):EqVal Tryz.prog (d+1+1) 31 (.agg [.int .i64 x,.int .i64 y,.int .i64 z].toArray) (.agg [.int .i64 x',.int .i64 y',.int .i64 z'].toArray) b:=by
 have hfs:Tryz.prog.fieldsOf 31=(match Tryz.prog.underlying 31 with|some (.struct fs)=>fs|_=>#[]):=rfl
 refine Ag2 (d:=d+1) (by rw[hfs,Tryz.underlying31]) (by kernel_rfl) ?_
 rw[hfs,Tryz.underlying31]
 have ne:∀a b:Int,¬a=b→EqVal Tryz.prog (d+1) 3 (.int .i64 a) (.int .i64 b) false:=fun a b hab=>by
  have:=Au7 (P:=Tryz.prog) (t:=3) (d:=d) (k:= .i64) a b
  rwa [show (a==b)=false from by simpa using hab] at this
 by_cases hx:x=x'
 ·subst hx
  refine .eq (by decide) (u:= .int .i64 x) (v:= .int .i64 x) (l5 O) (l5 O) (q9 _) ?_
  by_cases hy:y=y'
  ·subst hy
   refine .eq (by decide) (u:= .int .i64 y) (v:= .int .i64 y) (l5 O) (l5 O) (q9 _) ?_
   by_cases hz:z=z'
   ·subst hz
    rw[h,decide_eq_true rfl]
    exact .eq (by decide) (u:= .int .i64 z) (v:= .int .i64 z) (l5 O) (l5 O) (q9 _) .nil
   ·rw[h,decide_eq_false (by simp [hz])]
    exact .ne (by decide) (u:= .int .i64 z) (v:= .int .i64 z') (l5 O) (l5 O) (ne _ _ hz)
  ·rw[h,decide_eq_false (by simp [hy])]
   exact .ne (by decide) (u:= .int .i64 y) (v:= .int .i64 y') (l5 O) (l5 O) (ne _ _ hy)
 ·rw[h,decide_eq_false (by simp [hx])]
  exact .ne (by decide) (u:= .int .i64 x) (v:= .int .i64 x') (l5 O) (l5 O) (ne _ _ hx)
theorem B91 (x y z x' y' z':Int) (b:Bool) (h:b=decide ((x,y,z)=(x',y',z'))):EqVal Tryz.prog 10000 31 (.agg [.int .i64 x,.int .i64 y,.int .i64 z].toArray) (.agg [.int .i64 x',.int .i64 y',.int .i64 z'].toArray) b:=BE1 9998 x y z x' y' z' b h
theorem Bt0 (x y z x' y' z':Int) (b:Bool) (h:b=decide ((x,y,z)=(x',y',z'))):EqVal Tryz.prog 9999 31 (.agg [.int .i64 x,.int .i64 y,.int .i64 z].toArray) (.agg [.int .i64 x',.int .i64 y',.int .i64 z'].toArray) b:=BE1 9997 x y z x' y' z' b h
theorem At5 {C:List Qd} {i:Int} (hi:i.toNat<C.length):(qds C)[i.toNat * 4+0]? =some (.int .i64 (C.getD i.toNat qz).1):=Bf8 0 hi (by decide)
theorem A44 {C:List Qd} {i:Int} (hi:i.toNat<C.length):take? ((qds C).drop (i.toNat * 4+1)) 3=some [.int .i64 (C.getD i.toNat qz).2.1,.int .i64 (C.getD i.toNat qz).2.2.1,.int .i64 (C.getD i.toNat qz).2.2.2]:=By0 hi
theorem A00 {C:List Qd} {i:Int} (hi:i.toNat<C.length):i.toNat * 4<(qds C).length:=by rw[X6];omega
theorem BH5 (G:Ctx) (H:List Ent) (C:List Qd) {vs:List Value} (a:Option Addr) (n c b k:Nat) [hB:HasBlk H b 27 [.slice a n c]] [h1:RdC G H a vs] (hv:vs=qds C) (hn:n=C.length) (hm:n≤100000) (hk:1≤k∧k≤n):SV Tryz.prog G 173 [.int .i64 k,.pointer (some ⟨b,0,none⟩)] H (.bool (decide (tailP C k))):=by
 subst hv
 have hlx:(qds C).length=n * 4:=by rw[X6,hn]
 by_cases h2:k<n
 ·have hc:=At5 (C:=C) (i:=(k:Int)) (by omega)
  have hp:=A44 (C:=C) (i:=(k:Int)) (by omega)
  have hp1:=A44 (C:=C) (i:=(k:Int)-1) (by omega)
  have hl:=A00 (C:=C) (i:=(k:Int)) (by omega)
  have hl1:=A00 (C:=C) (i:=(k:Int)-1) (by omega)
  have e1:((k:Int)-1).toNat=k-1:=by omega
  have hE:=B91 (C.getD (k:Int).toNat qz).2.1 (C.getD (k:Int).toNat qz).2.2.1 (C.getD (k:Int).toNat qz).2.2.2 (C.getD ((k:Int)-1).toNat qz).2.1 (C.getD ((k:Int)-1).toNat qz).2.2.1 (C.getD ((k:Int)-1).toNat qz).2.2.2 _ rfl
  have ht:decide (tailP C k)=(decide ((C.getD (k:Int).toNat qz).1=0)&&decide (((C.getD (k:Int).toNat qz).2.1,(C.getD (k:Int).toNat qz).2.2.1,(C.getD (k:Int).toNat qz).2.2.2)=((C.getD ((k:Int)-1).toNat qz).2.1,(C.getD ((k:Int)-1).toNat qz).2.2.1,(C.getD ((k:Int)-1).toNat qz).2.2.2))):=by
   rw[e1,Int.toNat_natCast]
   refine Bool.eq_iff_iff.2 ⟨fun h=>?_,fun h=>?_⟩
   ·have h:=of_decide_eq_true h
    rw[Bool.and_eq_true]
    exact⟨decide_eq_true h.2.1,decide_eq_true h.2.2⟩
   ·rw[Bool.and_eq_true] at h
    exact decide_eq_true ⟨by omega,of_decide_eq_true h.1,of_decide_eq_true h.2⟩
  rw[ht]
  clear ht
  generalize C.getD (k:Int).toNat qz=q at *
  generalize C.getD ((k:Int)-1).toNat qz=q1 at *
  obtain⟨r,x,y,z⟩:=q
  obtain⟨r1,x1,y1,z1⟩:=q1
  dsimp only at *
  generalize decide ((x,y,z)=(x1,y1,z1))=B at *
  refine R3 Tryz.func173 O O O O O ?_
  repeat' (first|(apply E8;first|(apply A8;refine A9 ?_)|(apply D5;refine D9 O O ?_))|(apply u7;first|(apply Y3;refine Y2 ?_)|(apply Y8;refine j5 O O ?_)|(apply AA5;refine AC8 O O O ?_;first|(refine B76 hE (by kernel_rfl) ?_)|(first|(apply U8;refine V4 ⟨by omega,by omega⟩ ?_)|refine F9 O ?_))|(apply V8;first|(refine Y4 O O ?_;refine F4 O ?_)|(refine Y4 O O ?_;first|refine X8 hc ?_ |refine l6 hp O ?_ |refine l6 hp1 O ?_))|(apply Y1;refine Z7 O O ?_)|(apply AU5;refine AZ6 O O ?_;first|(apply P7;refine P6 O ?_)|(apply M6;refine M7 O ?_))|(apply AO7;refine AL6 (K7 O O O hlx (by omega) (by omega)) O ?_)|(apply Bq0;refine Bc2 (S9 O O) O ?_)|(apply AQ6;refine Ah1 O O O O ?_;first|(apply I1)|(apply H7)|(apply E9<;>intro hq<;>(try (exfalso;omega))))|(first|(refine X9 (AO3 O O hl) O ?_)|(refine X9 (AO3 O O hl1) O ?_)))|(apply D6)|(apply I4)|(apply A7)|(apply C9)|refine V6 (by kernel_rfl) ?_)
  ·rw[decide_eq_true hq,Bool.true_and]
   refine N7 (by (exact .inr O)) O O0 ?_
   rfl
  ·rw[decide_eq_false hq,Bool.false_and]
   refine N7 (by (exact .inr O)) O O0 ?_
   rfl
 ·rw[decide_eq_false (fun h=>h2 (by rw[hn];exact h.1))]
  clear hlx
  refine R3 Tryz.func173 O O O O O ?_
  repeat' (first|(apply E8;first|(apply A8;refine A9 ?_)|(apply D5;refine D9 O O ?_))|(apply u7;first|(apply Y3;refine Y2 ?_)|(apply Y8;refine j5 O O ?_)|(apply AA5;refine AC8 O O O ?_;refine F9 O ?_)|(apply V8;refine Y4 O O ?_;refine F4 O ?_)|(apply Y1;refine Z7 O O ?_)|(apply AU5;refine AZ6 O O ?_;apply M6;refine M7 O ?_)|(apply Bq0;refine Bc2 (S9 O O) O ?_)|(apply AQ6;refine Ah1 O O O O ?_;first|(apply H7)|(apply E9<;>intro hq<;>(try (exfalso;omega)))))|(apply D6)|(apply I4)|(apply A7)|(apply C9)|refine V6 (by kernel_rfl) ?_)
  all_goals (refine N7 (by (exact .inr O)) O O0 ?_;rfl)
theorem Bn4 (wd:Int→Int) (C:List Qd) (i:Nat):loneB wd C i=(if (C.getD i qz).1=0 then (decide (i=0)||(decide (wd (C.getD (i-1) qz).1≠2)||!decide (tailP C i))) else (decide (wd (C.getD i qz).1=2)&&!decide (tailP C (i+1)))):=by
 unfold loneB
 split
 ·rw[Bool.eq_iff_iff];simp
 ·rw[Bool.eq_iff_iff];simp
theorem BD7 (G:Ctx) (H:List Ent) (C:List Qd) {vs:List Value} (a:Option Addr) (n c i:Nat) [h1:RdC G H a vs] (hv:vs=qds C) (hn:n=C.length) (hm:n≤100000) (hi:i<n):SV Tryz.prog G 113 [.slice a n c,.int .i64 i] H (.bool (loneB J2 C i)):=by
 subst hv
 have hlx:(qds C).length=n * 4:=by rw[X6,hn]
 have hc:=At5 (C:=C) (i:=(i:Int)) (by omega)
 have hc1:=At5 (C:=C) (i:=(i:Int)-1) (by omega)
 have hl:=A00 (C:=C) (i:=(i:Int)) (by omega)
 have hl1:=A00 (C:=C) (i:=(i:Int)-1) (by omega)
 have cW:=fun H x=>AT7 G H x
 have cT:=fun (H:List Ent) (b:Nat) [HasBlk H b 27 [.slice a n c]] [RdC G H a (qds C)] (h:1≤i)=>BH5 G H C a n c b i rfl hn hm ⟨h,by omega⟩
 have cT2:=fun (H:List Ent) (b:Nat) [HasBlk H b 27 [.slice a n c]] [RdC G H a (qds C)]=>show SV Tryz.prog G 173 [.int .i64 ((i:Int)+1),.pointer (some ⟨b,0,none⟩)] H (.bool (decide (tailP C (i+1)))) from BH5 G H C a n c b (i+1) rfl hn hm ⟨by omega,by omega⟩
 rw[Bn4]
 have e1:((i:Int)-1).toNat=i-1:=by omega
 rw[e1] at hc1
 rw[Int.toNat_natCast] at hc
 have hc1':(qds C)[((i:Int)-1).toNat * 4+0]? =some (.int .i64 (C.getD (i-1) qz).1):=by rw[e1];exact hc1
 have hc':(qds C)[(i:Int).toNat * 4+0]? =some (.int .i64 (C.getD i qz).1):=by rw[Int.toNat_natCast];exact hc
 generalize (C.getD i qz).1=r at *
 generalize (C.getD (i-1) qz).1=r1 at *
 generalize decide (tailP C i)=B1 at *
 generalize decide (tailP C (i+1))=B2 at *
 clear hc hc1 e1
 by_cases hr:r=0
 ·rw[if_pos hr]
  subst hr
  generalize hw:J2 r1=w1 at *
  have cW1:=fun H=>cW H r1
  rw[hw] at cW1
  clear cT2 cW hw
  refine R3 Tryz.func113 O O O O O ?_
  repeat' (first|(apply E8;first|(apply A8;refine A9 ?_)|(apply C8;refine D7 O O ?_)|(apply E5;refine F7 O O O ?_;first|(apply U8;refine V4 ⟨by omega,by omega⟩ ?_)|refine F9 O ?_)|(apply F5;first|(refine F8 O O ?_;refine F4 O ?_)|(refine F8 O O ?_;first|refine X8 hc' ?_ |refine X8 hc1' ?_))|(apply D5;refine D9 O O ?_)|(apply I6;refine J4 O O ?_;first|(apply P7;refine P6 O ?_)|(apply M6;refine M7 O ?_))|(apply X5;refine Z9 (Z8 O O O) O ?_)|(apply M4;refine M8 (K7 O O O hlx (by omega) (by omega)) O ?_)|(apply H5;refine H6 O O O (cW1 _) O O ?_)|(apply K6;refine L9 O O O O O O (fun _=>?_))|(apply I5;refine J9 O O O O ?_;first|(apply I1)|(apply d9)|(apply P5<;>intro hq<;>(try (exfalso;omega)))|(apply A12<;>intro hq<;>(try (exfalso;omega))))|(first|(refine A80 (Ap2 O O O) O ?_)|(refine G7 (AO3 O O hl) O ?_)|(refine G7 (AO3 O O hl1) O ?_)|(refine AH8 O O O O (cT _ _ (by omega)) O O ?_)))|(apply D6)|(apply I4)|(apply A7)|(refine G5 O ?_;apply I1)|(apply C9)|(apply J8))
  all_goals
   refine N7 (by (exact .inr O)) O O0 ?_
   first
    | (have h0:i=0:=(by omega)
       simp [h0,resV]
       done)
    | (have h0:¬i=0:=(by omega)
       simp [h0,hq,resV]
       done)
 ·rw[if_neg hr]
  generalize hw:J2 r=w at *
  have cW1:=fun H=>cW H r
  rw[hw] at cW1
  clear cT cW hw
  refine R3 Tryz.func113 O O O O O ?_
  repeat' (first|(apply E8;first|(apply A8;refine A9 ?_)|(apply C8;refine D7 O O ?_)|(apply E5;refine F7 O O O ?_;first|(apply K9;refine L6 ⟨by omega,by omega⟩ ?_)|refine F9 O ?_)|(apply F5;first|(refine F8 O O ?_;refine F4 O ?_)|(refine F8 O O ?_;refine X8 hc' ?_))|(apply D5;refine D9 O O ?_)|(apply I6;refine J4 O O ?_;first|(apply P7;refine P6 O ?_)|(apply M6;refine M7 O ?_))|(apply X5;refine Z9 (Z8 O O O) O ?_)|(apply M4;refine M8 (K7 O O O hlx (by omega) (by omega)) O ?_)|(apply H5;refine H6 O O O (cW1 _) O O ?_)|(apply K6;refine L9 O O O O O O (fun _=>?_))|(apply I5;refine J9 O O O O ?_;first|(apply I1)|(apply H7)|(apply E9<;>intro hq<;>(try (exfalso;omega))))|(first|(refine A80 (Ap2 O O O) O ?_)|(refine G7 (AO3 O O hl) O ?_)|(refine AH8 O O O O (cT2 _ _) O O ?_)))|(apply D6)|(apply G8)|(apply I4)|(apply A7)|(refine G5 O ?_;apply E9<;>intro hq<;>(try (exfalso;omega)))|(apply C9))
  all_goals
   refine N7 (by (exact .inr O)) O O0 ?_
   simp [hq,resV]
theorem AR4 (G:Ctx) (H:List Ent) (C:List Qd) {vs:List Value} (a:Option Addr) (n c:Nat) [h1:RdC G H a vs] (hv:vs=qds C) (hn:n=C.length) (hm:n≤100000):SC Tryz.prog G 64 [.slice a n c] H fun v H'=>∃a' c',v= .slice a' n c'∧H'= .own 97 4 a' n c' (qds C)::H:=by
 subst hv
 have hlx:(qds C).length=n * 4:=by rw[X6,hn]
 have hone:=Ah6 C
 refine Ah7 (l8 Tryz.func64 O O) fun w0 hw0=>?_
 cases a with
 | none=>
   have h0:=At.none_nil (h1.here w0 hw0)
   have hl0:C.length=0:=by
    have:=congrArg List.length h0
    rw[X6,List.length_nil] at this
    omega
   obtain rfl:C=[]:=List.eq_nil_of_length_eq_zero hl0
   obtain rfl:n=0:=hn
   clear h0 hlx hone
   refine Z0 Tryz.func64 O O O O O ?_
   repeat' (first|(apply E8;first|(apply A8;refine A9 ?_)|(apply C8;refine D7 O O ?_)|(apply E5;refine F7 O O O ?_;refine AU6 ?_)|(apply D5;refine D9 O O ?_))|(apply D6)|(apply I4)|(apply A7)|(refine G5 O ?_;apply I1)|(apply C9)|(apply J8))
   ·exact I8 (.own 97 4 none 0 0 []::H) (.inr O) O (fun _ hw=>hw.nilrow _ _) ⟨_,_,O,O⟩
 | some a=>
   clear hn
   refine Z0 Tryz.func64 O O O O O ?_
   repeat' (first|(apply E8;first|(apply A8;refine A9 ?_)|(apply C8;refine D7 O O ?_)|(apply E5;refine F7 O O O ?_;refine AU6 ?_)|(apply D5;refine D9 O O ?_)|(apply K5;refine U9 O O O O hlx hone (by omega) O O (fun _ _=>?_))|(apply j3;refine A86 O O O O (fun _=>?_)))|(apply D6)|(apply G8)|(apply I4)|(apply A7)|(refine G5 O ?_;apply H7)|(apply C9))
   refine AI9 _ (.inr O) O (List.Sublist.refl _) ?_
   simp only[Nat.zero_add,List.nil_append]
   exact⟨_,_,O,O⟩
theorem CB7 (q q':Qd) (b:Bool) (h:b=decide (q=q')):EqVal Tryz.prog 10000 97 (.agg (qd q).toArray) (.agg (qd q').toArray) b:=by
 obtain⟨r,x,y,z⟩:=q
 obtain⟨r',x',y',z'⟩:=q'
 have hfs:Tryz.prog.fieldsOf 97=(match Tryz.prog.underlying 97 with|some (.struct fs)=>fs|_=>#[]):=rfl
 refine Ag2 (d:=9999) (by rw[hfs,Tryz.underlying97]) (by kernel_rfl) ?_
 rw[hfs,Tryz.underlying97]
 by_cases hr:r=r'
 ·subst hr
  refine .eq (by decide) (u:= .int .i64 r) (v:= .int .i64 r) (l5 O) (l5 O) (q9 _) ?_
  have hp:=Bt0 x y z x' y' z' _ rfl
  by_cases hE:(x,y,z)=(x',y',z')
  ·rw[decide_eq_true hE] at hp
   rw[h,decide_eq_true (by simp only[Prod.mk.injEq] at hE ⊢;exact⟨trivial,hE⟩)]
   exact .eq (by decide) (AO6 (sz:=3) O) (AO6 (sz:=3) O) hp .nil
  ·rw[decide_eq_false hE] at hp
   rw[h,decide_eq_false (by simp only[Prod.mk.injEq] at hE ⊢;exact fun e=>hE e.2)]
   exact .ne (by decide) (AO6 (sz:=3) O) (AO6 (sz:=3) O) hp
 ·rw[h,decide_eq_false (by simp [hr])]
  refine .ne (by decide) (u:= .int .i64 r) (v:= .int .i64 r') (l5 O) (l5 O) ?_
  have:=Au7 (P:=Tryz.prog) (t:=3) (d:=9998) (k:= .i64) r r'
  rwa [show (r==r')=false from by simpa using hr] at this
theorem As5 {C:List Qd} {i:Int} (hi:i.toNat<C.length):take? ((qds C).drop (i.toNat * 4)) 4=some (qd (C.getD i.toNat qz)):=A46 hi
theorem Au4 (G:Ctx) (H:List Ent) (C D:List Qd) {vs us:List Value} (a a2:Option Addr) (n m c c2:Nat) [h1:RdC G H a vs] [h2:RdC G H a2 us] (hv:vs=qds C) (hu:us=qds D) (hn:n=C.length) (hm:m=D.length) (hb:n≤100000) (hb2:m≤100000):SV Tryz.prog G 35 [.slice a n c,.slice a2 m c2] H (.bool (decide (C=D))):=by
 subst hv hu
 have hlx:(qds C).length=n * 4:=by rw[X6,hn]
 have hly:(qds D).length=m * 4:=by rw[X6,hm]
 by_cases hnm:n=m
 ·subst hnm
  have hec:=fun j (hj:j<n)=>As5 (C:=C) (i:=(j:Int)) (by omega)
  have hed:=fun j (hj:j<n)=>As5 (C:=D) (i:=(j:Int)) (by omega)
  have hall:(∀j,j<n→C.getD j qz=D.getD j qz)→C=D:=fun h=>List.ext_getElem (by omega) fun j h1 h2=>by
   have:=h j (by omega)
   rw[List.getD_eq_getElem?_getD,List.getD_eq_getElem?_getD,List.getElem?_eq_getElem h1,List.getElem?_eq_getElem h2] at this
   exact this
  have Hec:=Lib.hid hec
  have Hed:=Lib.hid hed
  have Hall:=Lib.hid hall
  clear hec hed hall hn hm
  refine R3 Tryz.func35 O O O O O ?_
  repeat' (first|(apply E8;first|(apply A8;refine A9 ?_)|(apply C8;refine D7 O O ?_)|(apply E5;refine F7 O O O ?_;refine F9 O ?_)|(apply D5;refine D9 O O ?_)|(apply K5;refine s_call (S9 O O) O ?_))|(apply D6)|(apply G8)|(apply F3)|(apply A7)|(refine G5 O ?_;apply Y7<;>intro hq<;>(try (exfalso;omega)))|(apply C9))
  refine R7 (α:=Nat) (fun j=>[(0,.slice a n c),(1,.slice a2 n c2),(12,.int .i64 n),(13,.int .i64 j)]) (fun _=>H)
   (fun j=>j≤n∧∀i,i<j→C.getD i qz=D.getD i qz) (fun j=>n-j) 0 ⟨Nat.zero_le _,fun i hi=>absurd hi (Nat.not_lt_zero _)⟩ Q7 J3 ?_
  rintro j ⟨hj,hs⟩
  have Hs:=Lib.hid hs
  clear hs
  by_cases hlt:(j:Int)<n
  ·have he1:=Hec.out j (by omega)
   have he2:=Hed.out j (by omega)
   have hE:=CB7 (C.getD (j:Int).toNat qz) (D.getD (j:Int).toNat qz) _ rfl
   rw[Int.toNat_natCast] at hE
   rw[show C.getD (j:Int).toNat qz=C.getD j qz from by rw[Int.toNat_natCast]] at he1
   rw[show D.getD (j:Int).toNat qz=D.getD j qz from by rw[Int.toNat_natCast]] at he2
   by_cases hqq:C.getD j qz=D.getD j qz
   ·rw[decide_eq_true hqq] at hE
    repeat' (first|(apply E8;first|(apply A8;refine A9 ?_)|(apply C8;refine D7 O O ?_)|(apply E5;refine F7 O O O ?_;first|(apply K9;refine L6 ⟨by omega,by omega⟩ ?_)|refine F9 O ?_)|(apply D5;refine D9 O O ?_))|(apply u7;first|(apply Y3;refine Y2 ?_)|(apply Y8;refine j5 O O ?_)|(apply AA5;refine AC8 O O O ?_;refine BP0 hE (by kernel_rfl) ?_)|(apply V8;refine Y4 O O ?_;first|refine l6 he1 O ?_ |refine l6 he2 O ?_)|(apply AO7;first|(refine AL6 (K7 O O O hlx (by omega) (by omega)) O ?_)|(refine AL6 (K7 O O O hly (by omega) (by omega)) O ?_)))|(apply D6)|(apply G8)|(apply F3)|(apply A7)|(refine G5 O ?_;first|(apply H7)|(apply E9<;>intro hq<;>(try (exfalso;omega))))|(apply C9)|(apply H9)|refine V6 (by kernel_rfl) ?_)
    refine J6 (j+1) ⟨⟨by omega,fun i hi=>?_⟩,by omega⟩ Q7 J3
    rcases Nat.lt_or_ge i j with h|h
    ·exact Hs.out i h
    ·obtain rfl:i=j:=by omega
     exact hqq
   ·rw[decide_eq_false hqq] at hE
    repeat' (first|(apply E8;first|(apply A8;refine A9 ?_)|(apply C8;refine D7 O O ?_)|(apply E5;refine F7 O O O ?_;refine F9 O ?_)|(apply D5;refine D9 O O ?_))|(apply u7;first|(apply Y3;refine Y2 ?_)|(apply Y8;refine j5 O O ?_)|(apply AA5;refine AC8 O O O ?_;refine BP0 hE (by kernel_rfl) ?_)|(apply V8;refine Y4 O O ?_;first|refine l6 he1 O ?_ |refine l6 he2 O ?_)|(apply AO7;first|(refine AL6 (K7 O O O hlx (by omega) (by omega)) O ?_)|(refine AL6 (K7 O O O hly (by omega) (by omega)) O ?_)))|(apply D6)|(apply G8)|(apply I4)|(apply F3)|(apply A7)|(refine G5 O ?_;first|(apply I1)|(apply E9<;>intro hq<;>(try (exfalso;omega))))|(apply C9)|(apply J8)|(apply U5)|refine V6 (by kernel_rfl) ?_)
    refine N7 (by (exact .inr O)) O O0 ?_
    rw[decide_eq_false (fun e=>hqq (by rw[e]))]
    rfl
  ·obtain rfl:j=n:=by omega
   repeat' (first|(apply E8;first|(apply A8;refine A9 ?_)|(apply E5;refine F7 O O O ?_;refine F9 O ?_)|(apply D5;refine D9 O O ?_))|(apply D6)|(apply I4)|(apply O7)|(apply A7)|(refine G5 O ?_;apply E9<;>intro hq<;>(try (exfalso;omega)))|(apply C9)|(apply K3)|(apply K4))
   refine N7 (by (exact .inr O)) O O0 ?_
   rw[decide_eq_true (Hall.out Hs.out)]
   rfl
 ·rw[decide_eq_false (fun e=>hnm (by rw[hn,hm,e]))]
  clear hlx hly
  refine R3 Tryz.func35 O O O O O ?_
  repeat' (first|(apply E8;first|(apply A8;refine A9 ?_)|(apply C8;refine D7 O O ?_)|(apply E5;refine F7 O O O ?_;refine F9 O ?_)|(apply D5;refine D9 O O ?_)|(apply K5;refine s_call (S9 O O) O ?_))|(apply D6)|(apply I4)|(apply A7)|(refine G5 O ?_;apply Y7<;>intro hq<;>(try (exfalso;omega)))|(apply C9)|(apply J8))
  all_goals (refine N7 (by (exact .inr O)) O O0 ?_;rfl)
abbrev gridV (w h:Int) (a:Option Addr) (n c:Nat):Value:= .agg [.int .i64 w,.int .i64 h,.slice a n c].toArray
theorem AM6 {w h k n:Nat} (hk:k<h) (hn:n=w * h):k * w+w≤n:=by
 have:=Nat.mul_le_mul_right w (show k+1≤h from hk)
 rw[Nat.succ_mul,Nat.mul_comm h w] at this
 omega
def rowQ (w:Nat) (C:List Qd) (k:Nat):List Qd:=(C.drop (k * w)).take w
theorem j6 {w h k:Nat} {C:List Qd} (hk:k<h) (hn:C.length=w * h):(rowQ w C k).length=w:=by
 unfold rowQ
 have:=AM6 hk hn
 rw[List.length_take,List.length_drop]
 omega
theorem Ao3 (G:Ctx) (H:List Ent) (C:List Qd) {vs:List Value} (a:Option Addr) (w h n c k:Nat) [h1:RdC G H a vs] (hv:vs=qds C) (hn:n=C.length) (hm:n≤100000) (hnc:n≤c) (hwh:n=w * h) (hw:1≤w∧w≤160) (hk:k<h) (hk2:k≤1000):SC Tryz.prog G 65 [gridV w h a n c,.int .i64 k] H fun v H'=>H'=H∧∃a' c',v= .slice a' w c'∧w≤c'∧RdC G H a' (qds (rowQ w C k)):=by
 subst hv
 have hlx:(qds C).length=n * 4:=by rw[X6,hn]
 have hr:=AM6 hk hwh
 have e1:(k:Int) * (w:Int)=((k * w:Nat):Int):=by simp
 have e2:((k:Int)+1) * (w:Int)=((k * w+w:Nat):Int):=by rw[Int.add_mul];simp
 have hpc:((qds C).drop (((k:Int) * (w:Int)).toNat * 4)).take (((((k:Int)+1) * (w:Int)).toNat-((k:Int) * (w:Int)).toNat) * 4)=qds (rowQ w C k):=BY5 C (k * w) w _ _ e1 (by rw[e2];simp)
 have el:((((k:Int)+1) * (w:Int)).toNat-((k:Int) * (w:Int)).toNat)=w:=by rw[e1,e2];omega
 have ec:w≤c-((k:Int) * (w:Int)).toNat:=by rw[e1];omega
 generalize hp:k * w=p at *
 have hz:(Int.ofNat 0)≤(k:Int) * (w:Int):=by rw[e1];exact Int.natCast_nonneg _
 refine I7 Tryz.func65 O O O O O ?_
 repeat' (first|(apply E8;first|(apply A8;refine A9 ?_)|(apply C8;refine D7 O O ?_)|(apply E5;refine F7 O O O ?_;first|(refine AS7 ⟨by omega,by omega⟩ ?_)|(apply K9;refine L6 ⟨by omega,by omega⟩ ?_))|(apply F5;refine F8 O O ?_;refine F4 O ?_)|(apply D5;refine D9 O O ?_)|(apply G6;refine G7 (D8 O O) O ?_)|(apply K6;refine L9 O O O O O O (fun _=>?_))|(apply r9;refine AH5 (Hr:=H) O O O O O RdC.here hlx (by omega) (by omega) (by omega) (by omega) O O (fun _ _=>?_)))|(apply D6)|(apply I4)|(apply A7)|(apply C9))
 rename_i b a' hI
 rw[hpc] at hI
 refine AI9 H (by (exact .inr O)) O O0 ?_
 refine⟨O,a',_,?_,ec,hI⟩
 exact congrArg (fun m=>Value.slice a' m (c-((k:Int) * (w:Int)).toNat)) el
def AB3 (R:List Qd) (i:Nat):Bool:=penB (R.getD i qz).2.1 (R.getD i qz).2.2.1 (R.getD i qz).2.2.2&&((decide ((R.getD i qz).1=0)||!decide (J2 (R.getD i qz).1=0))&&!loneB J2 R i)
def A24 (w h:Nat) (C:List Qd):Bool:=(List.range h).all fun k=>(List.range w).all fun i=>AB3 (rowQ w C k) i
def gridE (w h:Int) (C:List Qd):Int:=if sizeE w h=1 then 1 else if ¬(C.length:Int)=w * h then 4 else if A24 w.toNat h.toNat C=true then 0 else 4
theorem Ao6 (w h:Nat) (C:List Qd):A24 w h C=true↔∀k,k<h→∀i,i<w→AB3 (rowQ w C k) i=true:=by
 unfold A24
 rw[List.all_eq_true]
 constructor
 ·intro H k hk i hi
  exact List.all_eq_true.1 (H k (List.mem_range.2 hk)) i (List.mem_range.2 hi)
 ·intro H k hk
  exact List.all_eq_true.2 fun i hi=>H k (List.mem_range.1 hk) i (List.mem_range.1 hi)
theorem Ac6 (w h:Int):sizeE w h=0∧(1≤w∧w≤160∧1≤h∧h≤60)∨sizeE w h=1∧¬(1≤w∧w≤160∧1≤h∧h≤60):=by
 unfold sizeE
 split
 ·exact .inl ⟨O,by assumption⟩
 ·exact .inr ⟨O,by assumption⟩
theorem An1 {w h:Nat} {C:List Qd} (hs:sizeE w h=0) (hn:C.length=w * h) (hk:∀k,k<h→∀i,i<w→AB3 (rowQ w C k) i=true):gridE w h C=0:=by
 unfold gridE
 rw[if_neg (by rw[hs];decide),if_neg (by rw[hn];simp),if_pos]
 rw[Ao6]
 exact hk
theorem BY1 {w h:Nat} {C:List Qd} (hs:sizeE w h=0) (hn:C.length=w * h) {k i:Nat} (hk:k<h) (hi:i<w) (hb:AB3 (rowQ w C k) i=false):gridE w h C=4:=by
 unfold gridE
 rw[if_neg (by rw[hs];decide),if_neg (by rw[hn];simp),if_neg]
 rw[Ao6]
 intro H
 have h2:AB3 (rowQ w C k) i=true:=H k hk i hi
 rw[hb] at h2
 cases h2
theorem AV0 (G:Ctx) (H:List Ent) (C:List Qd) {vs:List Value} (w h:Int) (a:Option Addr) (n c:Nat) [h1:RdC G H a vs] (hv:vs=qds C) (hn:n=C.length) (hm:n≤9223372036854775807) (hnc:n≤c):SV Tryz.prog G 59 [gridV w h a n c] H (.int .i64 (gridE w h C)):=by
 subst hv
 have cS:=fun H=>Aj5 G H w h
 rcases Ac6 w h with ⟨hs,hwh⟩|⟨hs,hwh⟩
 ·obtain⟨w1,w2,h3,h4⟩:=hwh
  obtain⟨w,rfl⟩:=Int.eq_ofNat_of_zero_le (show 0≤w by omega)
  obtain⟨h,rfl⟩:=Int.eq_ofNat_of_zero_le (show 0≤h by omega)
  have hS:=hs
  rw[hs] at cS
  have e1:(w:Int) * (h:Int)=((w * h:Nat):Int):=by simp
  have hb:w * h≤160 * 60:=Nat.mul_le_mul (by omega) (by omega)
  by_cases hnw:n=w * h
  ·have cR:=fun (H:List Ent) {vs:List Value} [RdC G H a vs] (hv:vs=qds C) (k:Nat) (hk:k<h)=>Ao3 G H C a w h n c k hv hn (by omega) hnc hnw ⟨by omega,by omega⟩ hk (by omega)
   have hgood:=fun hk=>An1 (C:=C) hS (by omega) hk
   have hbad:=fun {k i:Nat} hk hi hb=>BY1 (C:=C) (k:=k) (i:=i) hS (by omega) hk hi hb
   have hRl:=fun k hk=>j6 (w:=w) (h:=h) (k:=k) (C:=C) hk (by omega)
   have CR:=Lib.hid cR
   have Hgood:=Lib.hid hgood
   have Hbad:=Lib.hid (fun k i=>@hbad k i)
   have HRl:=Lib.hid hRl
   have Hn:=Lib.hid hnw
   generalize hwh:w * h=p at *
   clear cR hgood hbad hRl hn hS hs hwh
   refine P8 Tryz.func59 O O O O O ?_
   repeat' (first|(apply E8;first|(apply A8;refine A9 ?_)|(apply C8;refine D7 O O ?_)|(apply E5;refine F7 O O O ?_;first|(refine AS7 ⟨by omega,by omega⟩ ?_)|(refine F9 O ?_))|(apply F5;refine F8 O O ?_;refine F4 O ?_)|(apply D5;refine D9 O O ?_)|(apply G6;refine G7 (D8 O O) O ?_)|(apply H5;refine H6 O O O (cS _) O O ?_)|(apply K5;refine s_call (S9 O O) O ?_)|(apply K6;refine L9 O O O O O O (fun _=>?_)))|(apply D6)|(apply G8)|(apply F3)|(apply A7)|(refine G5 O ?_;first|(apply H7)|(apply Y7<;>intro hq<;>(try (exfalso;omega))))|(apply C9))
   rename_i b
   have cP:=fun H x y z=>AN8 G H x y z
   have cW:=fun H x=>AT7 G H x
   refine R7 (α:=Nat) (fun k=>[(1,.pointer (some ⟨b,0,none⟩)),(26,.int .i64 h),(27,.int .i64 k)]) (fun _=> .blk b 29 [.int .i64 w,.int .i64 h,.slice a n c]::H)
    (fun k=>k≤h∧∀j,j<k→∀i,i<w→AB3 (rowQ w C j) i=true) (fun k=>h-k) 0 ⟨Nat.zero_le _,fun j hj=>absurd hj (Nat.not_lt_zero _)⟩ Q7 J3 ?_
   rintro k ⟨hk,hs⟩
   have Hs:=Lib.hid hs
   clear hs
   by_cases hlt:(k:Int)<h
   ·have cRk:=fun (H:List Ent) {vs:List Value} [RdC G H a vs] (hv:vs=qds C)=>CR.out H hv k (by omega)
    have hRl:=HRl.out k (by omega)
    have hbad:=fun i hi hb=>Hbad.out k i (by omega) hi hb
    have Hbk:=Lib.hid hbad
    clear hbad CR Hbad HRl Hgood
    generalize hR:rowQ w C k=R at *
    repeat' (first|(apply E8;first|(apply A8;refine A9 ?_)|(apply C8;refine D7 O O ?_)|(apply E5;refine F7 O O O ?_;refine F9 O ?_)|(apply F5;refine F8 O O ?_;refine M5 O ?_)|(apply D5;refine D9 O O ?_)|(apply H5;refine c_call O O O (cRk _ O) O O ?_;rintro _ _ ⟨rfl,a',c',rfl,hc',hI⟩)|(apply K5;refine s_call (S9 O O) O ?_))|(apply D6)|(apply G8)|(apply F3)|(apply A7)|(refine G5 O ?_;apply E9<;>intro hq<;>(try (exfalso;omega)))|(apply C9))
    have hlR:(qds R).length=w * 4:=by rw[X6,hRl]
    have cL:=fun (H:List Ent) {vs:List Value} [RdC G H a' vs] (hv:vs=qds R) (i:Nat) (hi:i<w)=>BD7 G H R a' w c' i hv hRl.symm (by omega) hi
    have CL:=Lib.hid cL
    clear cL
    refine R7 (α:=Nat) (fun i=>[(1,.pointer (some ⟨b,0,none⟩)),(26,.int .i64 h),(27,.int .i64 k),(5,.slice a' w c'),(33,.slice a' w c'),(34,.int .i64 w),(35,.int .i64 i)]) (fun _=> .blk b 29 [.int .i64 w,.int .i64 h,.slice a n c]::H)
     (fun i=>i≤w∧∀j,j<i→AB3 R j=true) (fun i=>w-i) 0 ⟨Nat.zero_le _,fun j hj=>absurd hj (Nat.not_lt_zero _)⟩ Q7 J3 ?_
    rintro i ⟨hi,hs2⟩
    have Hs2:=Lib.hid hs2
    clear hs2
    by_cases hlt2:(i:Int)<w
    ·have hel:=As5 (C:=R) (i:=(i:Int)) (by omega)
     rw[show R.getD (i:Int).toNat qz=R.getD i qz from by rw[Int.toNat_natCast]] at hel
     have cLi:=fun (H:List Ent) {vs:List Value} [RdC G H a' vs] (hv:vs=qds R)=>CL.out H hv i (by omega)
     have hok:AB3 R i=(penB (R.getD i qz).2.1 (R.getD i qz).2.2.1 (R.getD i qz).2.2.2&&((decide ((R.getD i qz).1=0)||!decide (J2 (R.getD i qz).1=0))&&!loneB J2 R i)):=rfl
     have hbd:=fun hb=>Hbk.out i (by omega) hb
     have hnx:AB3 R i=true→∀j,j<i+1→AB3 R j=true:=fun h j hj=>by
      rcases Nat.lt_or_ge j i with h'|h'
      ·exact Hs2.out j h'
      ·obtain rfl:j=i:=by omega
       exact h
     have Hnx:=Lib.hid hnx
     clear CL hnx
     generalize loneB J2 R i=L at *
     generalize hqq:R.getD i qz=q at *
     obtain⟨r,x,y,z⟩:=q
     dsimp only at hok
     have cPi:=fun H=>cP H x y z
     have cWi:=fun H=>cW H r
     generalize penB x y z=B at *
     generalize J2 r=wd at *
     replace hel:take? ((qds R).drop ((i:Int).toNat * 4)) 4=some [.int .i64 r,.int .i64 x,.int .i64 y,.int .i64 z]:=hel
     cases B
     ·have hf:AB3 R i=false:=by rw[hok];rfl
      have hbd:=hbd hf
      rw[hbd]
      clear hok hf hbd Hnx cLi cW cWi
      repeat' (first|(apply E8;first|(apply A8;refine A9 ?_)|(apply C8;refine D7 O O ?_)|(apply E5;refine F7 O O O ?_;refine F9 O ?_)|(apply F5;first|(refine F8 O O ?_;refine O9 O O ?_)|(refine F8 O O ?_;refine l6 hel O ?_))|(apply D5;refine D9 O O ?_)|(apply I6;refine J4 O O ?_;apply P7;refine P6 O ?_)|(apply G6;refine G7 (D8 O O) O ?_)|(apply M4;refine M8 (K7 O O O hlR (by omega) (by omega)) O ?_)|(apply H5;refine H6 O O O (cPi _) O O ?_)|(apply H8;refine Q8 O O O O O O O O ?_)|(apply O6;refine Q4 O O O O (fun _=>?_))|(apply I5;first|(refine J9 O O O O ?_;apply d9)|refine o8 O O O O O O ?_))|(apply D6)|(apply G8)|(apply I4)|(apply F3)|(apply A7)|(refine G5 O ?_;first|(apply I1)|(apply E9<;>intro hq<;>(try (exfalso;omega))))|(apply C9)|(apply J8)|(apply U5))
      all_goals (refine N7 (by (exact .inr O)) O O0 ?_;rfl)
     ·cases L
      ·by_cases hg:r=0∨¬wd=0
       ·have hf:AB3 R i=true:=by rw[hok];rcases hg with h'|h'<;>simp [h']
        have hnx:=Hnx.out hf
        clear hok hf hbd Hnx
        rcases hg with hg|hg
        all_goals
         repeat' (first|(apply E8;first|(apply A8;refine A9 ?_)|(apply C8;refine D7 O O ?_)|(apply E5;refine F7 O O O ?_;first|(apply K9;refine L6 ⟨by omega,by omega⟩ ?_)|refine F9 O ?_)|(apply F5;first|(refine F8 O O ?_;first|refine F4 O ?_ |refine O9 O O ?_)|(refine F8 O O ?_;refine l6 hel O ?_))|(apply D5;refine D9 O O ?_)|(apply I6;refine J4 O O ?_;first|(apply P7;refine P6 O ?_)|(apply M6;refine M7 O ?_))|(apply G6;refine G7 (D8 O O) O ?_)|(apply M4;refine M8 (K7 O O O hlR (by omega) (by omega)) O ?_)|(apply H5;first|refine H6 O O O (cPi _) O O ?_ |refine H6 O O O (cWi _) O O ?_ |refine H6 O O O (cLi _ O) O O ?_)|(apply H8;refine Q8 O O O O O O O O ?_)|(apply O6;refine Q4 O O O O (fun _=>?_))|(apply I5;refine J9 O O O O ?_;first|(apply I1)|(apply H7)|(apply P5<;>intro hq<;>(try (exfalso;omega)))|(apply Y7<;>intro hq<;>(try (exfalso;omega)))))|(apply D6)|(apply G8)|(apply F3)|(apply A7)|(refine G5 O ?_;first|(apply H7)|(apply E9<;>intro hq<;>(try (exfalso;omega))))|(apply C9)|(apply H9))
         all_goals (exact J6 (i+1) ⟨⟨by omega,hnx⟩,by omega⟩ Q7 J3)
       ·have hg1:¬r=0:=fun h=>hg (.inl h)
        have hg2:wd=0:=Classical.byContradiction fun h=>hg (.inr h)
        have hf:AB3 R i=false:=by rw[hok,decide_eq_false hg1,decide_eq_true hg2];rfl
        have hbd:=hbd hf
        rw[hbd]
        clear hok hf hbd Hnx cLi hg
        repeat' (first|(apply E8;first|(apply A8;refine A9 ?_)|(apply C8;refine D7 O O ?_)|(apply E5;refine F7 O O O ?_;refine F9 O ?_)|(apply F5;first|(refine F8 O O ?_;first|refine F4 O ?_ |refine O9 O O ?_)|(refine F8 O O ?_;refine l6 hel O ?_))|(apply D5;refine D9 O O ?_)|(apply I6;refine J4 O O ?_;first|(apply P7;refine P6 O ?_)|(apply M6;refine M7 O ?_))|(apply G6;refine G7 (D8 O O) O ?_)|(apply M4;refine M8 (K7 O O O hlR (by omega) (by omega)) O ?_)|(apply H5;first|refine H6 O O O (cPi _) O O ?_ |refine H6 O O O (cWi _) O O ?_)|(apply H8;refine Q8 O O O O O O O O ?_)|(apply O6;refine Q4 O O O O (fun _=>?_))|(apply I5;refine J9 O O O O ?_;first|(apply I1)|(apply d9)|(apply P5<;>intro hq<;>(try (exfalso;omega)))|(apply Y7<;>intro hq<;>(try (exfalso;omega)))))|(apply D6)|(apply G8)|(apply I4)|(apply F3)|(apply A7)|(refine G5 O ?_;first|(apply I1)|(apply E9<;>intro hq<;>(try (exfalso;omega))))|(apply C9)|(apply J8)|(apply U5))
        all_goals (refine N7 (by (exact .inr O)) O O0 ?_;rfl)
      ·have hf:AB3 R i=false:=by rw[hok];simp
       have hbd:=hbd hf
       rw[hbd]
       clear hok hf hbd Hnx
       repeat' (first|(apply E8;first|(apply A8;refine A9 ?_)|(apply C8;refine D7 O O ?_)|(apply E5;refine F7 O O O ?_;refine F9 O ?_)|(apply F5;first|(refine F8 O O ?_;first|refine F4 O ?_ |refine O9 O O ?_)|(refine F8 O O ?_;refine l6 hel O ?_))|(apply D5;refine D9 O O ?_)|(apply I6;refine J4 O O ?_;first|(apply P7;refine P6 O ?_)|(apply M6;refine M7 O ?_))|(apply G6;refine G7 (D8 O O) O ?_)|(apply M4;refine M8 (K7 O O O hlR (by omega) (by omega)) O ?_)|(apply H5;first|refine H6 O O O (cPi _) O O ?_ |refine H6 O O O (cWi _) O O ?_ |refine H6 O O O (cLi _ O) O O ?_)|(apply H8;refine Q8 O O O O O O O O ?_)|(apply O6;refine Q4 O O O O (fun _=>?_))|(apply I5;refine J9 O O O O ?_;first|(apply I1)|(apply H7)|(apply d9)|(apply P5<;>intro hq<;>(try (exfalso;omega)))|(apply Y7<;>intro hq<;>(try (exfalso;omega)))))|(apply D6)|(apply G8)|(apply I4)|(apply F3)|(apply A7)|(refine G5 O ?_;first|(apply I1)|(apply E9<;>intro hq<;>(try (exfalso;omega))))|(apply C9)|(apply J8)|(apply U5))
       all_goals (refine N7 (by (exact .inr O)) O O0 ?_;rfl)
    ·obtain rfl:i=w:=by omega
     repeat' (first|(apply E8;first|(apply A8;refine A9 ?_)|(apply C8;refine D7 O O ?_)|(apply E5;refine F7 O O O ?_;first|(apply K9;refine L6 ⟨by omega,by omega⟩ ?_)|refine F9 O ?_))|(apply D6)|(apply O7)|(apply A7)|(refine G5 O ?_;apply E9<;>intro hq<;>(try (exfalso;omega)))|(apply C9)|(apply K3)|(apply H9)|(apply K4))
     refine J6 (k+1) ⟨⟨by omega,fun j hj i2 hi2=>?_⟩,by omega⟩ Q7 J3
     rcases Nat.lt_or_ge j k with h'|h'
     ·exact Hs.out j h' i2 hi2
     ·obtain rfl:j=k:=by omega
      rw[hR]
      exact Hs2.out i2 hi2
   ·obtain rfl:k=h:=by omega
    repeat' (first|(apply E8;first|(apply A8;refine A9 ?_)|(apply E5;refine F7 O O O ?_;refine F9 O ?_)|(apply D5;refine D9 O O ?_))|(apply D6)|(apply I4)|(apply O7)|(apply A7)|(refine G5 O ?_;apply E9<;>intro hq<;>(try (exfalso;omega)))|(apply C9)|(apply K3)|(apply K4))
    refine N7 (by (exact .inr O)) O O0 ?_
    rw[Hgood.out Hs.out]
    rfl
  ·have hE:gridE w h C=4:=by
    unfold gridE
    rw[if_neg (by rw[hs];decide),if_pos (by rw[e1,←hn];omega)]
   rw[hE]
   generalize hwh:w * h=p at *
   clear hS hs hwh hn hE
   refine P8 Tryz.func59 O O O O O ?_
   repeat' (first|(apply E8;first|(apply A8;refine A9 ?_)|(apply C8;refine D7 O O ?_)|(apply E5;refine F7 O O O ?_;first|(refine AS7 ⟨by omega,by omega⟩ ?_)|(refine F9 O ?_))|(apply F5;refine F8 O O ?_;refine F4 O ?_)|(apply D5;refine D9 O O ?_)|(apply G6;refine G7 (D8 O O) O ?_)|(apply H5;refine H6 O O O (cS _) O O ?_)|(apply K5;refine s_call (S9 O O) O ?_)|(apply K6;refine L9 O O O O O O (fun _=>?_)))|(apply D6)|(apply G8)|(apply I4)|(apply A7)|(refine G5 O ?_;first|(apply H7)|(apply Y7<;>intro hq<;>(try (exfalso;omega))))|(apply C9)|(apply J8))
   all_goals (refine N7 (by (exact .inr O)) O O0 ?_;rfl)
 ·have hE:gridE w h C=1:=by unfold gridE;rw[if_pos hs]
  rw[hE]
  rw[hs] at cS
  refine P8 Tryz.func59 O O O O O ?_
  repeat' (first|(apply E8;first|(apply A8;refine A9 ?_)|(apply C8;refine D7 O O ?_)|(apply E5;refine F7 O O O ?_;refine F9 O ?_)|(apply F5;refine F8 O O ?_;refine F4 O ?_)|(apply D5;refine D9 O O ?_)|(apply G6;refine G7 (D8 O O) O ?_)|(apply H5;refine H6 O O O (cS _) O O ?_)|(apply K6;refine L9 O O O O O O (fun _=>?_)))|(apply D6)|(apply I4)|(apply A7)|(refine G5 O ?_;apply I1)|(apply C9)|(apply J8))
  all_goals (refine N7 (by (exact .inr O)) O O0 ?_;rfl)
end
end Go.Proofs.YtmmnimagbnlcmaaGreatDoor
namespace Go.Sx
abbrev Rw:=Rx Qd
def rwV (x:Rw):Value:= .slice x.1 x.2.2.length x.2.1
theorem BH8 (X:List Rw):(X.map rwV).all (·.oneCell')=true:=by
 rw[List.all_map]
 exact List.all_eq_true.2 fun _ _=>O
theorem BX6 {X:List Rw} {k:Nat} {x:Rw} (h:X[k]? =some x):(X.map rwV)[k]? =some (.slice x.1 x.2.2.length x.2.1):=by
 rw[List.getElem?_map,h]
 rfl
end Go.Sx
namespace Go.Fw
def mendC (wd:Int→Int) (R:List Qd) (i:Nat):Qd:=if loneB wd R i=true then (32,(R.getD i qz).2) else R.getD i qz
def AE5 (wd:Int→Int) (R:List Qd) (j:Nat):List Qd:=(List.range R.length).map fun i=>if i<j then mendC wd R i else R.getD i qz
theorem AA9 (wd:Int→Int) (R:List Qd) (j:Nat):(AE5 wd R j).length=R.length:=by simp [AE5]
theorem AI0 (wd:Int→Int) (R:List Qd) (j i:Nat) (hi:i<R.length):(AE5 wd R j).getD i qz=if i<j then mendC wd R i else R.getD i qz:=by
 unfold AE5
 rw[List.getD_eq_getElem?_getD,List.getElem?_map,List.getElem?_range hi]
 rfl
theorem BN3 {A B:List Qd} (hl:A.length=B.length) (h:∀i,i<A.length→A.getD i qz=B.getD i qz):A=B:=List.ext_getElem hl fun i h1 h2=>by
 have:=h i h1
 rw[List.getD_eq_getElem?_getD,List.getD_eq_getElem?_getD,List.getElem?_eq_getElem h1,List.getElem?_eq_getElem h2] at this
 exact this
theorem Be0 (wd:Int→Int) (R:List Qd):AE5 wd R 0=R:=BN3 (AA9 _ _ _) fun i hi=>by
 rw[AA9] at hi
 rw[AI0 _ _ _ _ hi,if_neg (Nat.not_lt_zero _)]
theorem Bb9 {wd:Int→Int} {R:List Qd} {j:Nat} (h:loneB wd R j=false):AE5 wd R (j+1)=AE5 wd R j:=BN3 (by rw[AA9,AA9]) fun i hi=>by
 rw[AA9] at hi
 rw[AI0 _ _ _ _ hi,AI0 _ _ _ _ hi]
 rcases Nat.lt_trichotomy i j with h'|rfl|h'
 ·rw[if_pos h',if_pos (by omega)]
 ·rw[if_pos (by omega),if_neg (by omega)]
  unfold mendC
  rw[h]
  rfl
 ·rw[if_neg (by omega),if_neg (by omega)]
theorem BK6 {wd:Int→Int} {R:List Qd} {j:Nat} (h:loneB wd R j=true) (hj:j<R.length):(AE5 wd R j).set j (32,(R.getD j qz).2)=AE5 wd R (j+1):=BN3 (by rw[List.length_set,AA9,AA9]) fun i hi=>by
 rw[List.length_set,AA9] at hi
 rw[AI0 _ _ _ _ hi]
 rcases Nat.lt_trichotomy i j with h'|rfl|h'
 ·rw[List.getD_eq_getElem?_getD,List.getElem?_set_ne (by omega),←List.getD_eq_getElem?_getD,AI0 _ _ _ _ hi,if_pos h',if_pos (by omega)]
 ·rw[List.getD_eq_getElem?_getD,List.getElem?_set_self (by rw[AA9];exact hi),if_pos (by omega)]
  unfold mendC
  rw[if_pos h]
  rfl
 ·rw[List.getD_eq_getElem?_getD,List.getElem?_set_ne (by omega),←List.getD_eq_getElem?_getD,AI0 _ _ _ _ hi,if_neg (by omega),if_neg (by omega)]
def mendQ (wd:Int→Int) (R:List Qd):List Qd:=AE5 wd R R.length
end Go.Fw
namespace Go.Proofs.YtmmnimagbnlcmaaGreatDoor
section
attribute [local irreducible] SW SL SQ AtQ SV SC BB LD PK Yields SO SOT SOA SY SP SPT SPA
theorem AZ7 (G:Ctx) (H:List Ent) (x y z:Int):SV Tryz.prog G 193 [penV x y z] H (.agg (qd (32,x,y,z)).toArray):=by
 refine P8 Tryz.func193 O O O O O ?_
 repeat' (first|(apply E8;first|(apply A8;refine A9 ?_)|(apply F5;refine F8 O O ?_;refine M5 O ?_)|(apply U0;refine U6 (Q9 O O O) O ?_)|(apply H8;refine Q8 O O O O O O O O ?_)|(apply K6;refine L9 O O O O O O (fun _=>?_))|(apply O6;refine Q4 O O O O (fun _=>?_)))|(apply D6)|(apply I4)|(apply A7)|(apply C9))
 refine AB4 H (by (exact .inr O)) O O O J3 ?_
 exact⟨O,O⟩
end
end Go.Proofs.YtmmnimagbnlcmaaGreatDoor
namespace Go.Fw
theorem AI1 {A R B:List Qd} {i:Nat} (q:Qd) (hi:i<R.length):over (qds A++qds R++qds B) (A.length * 4+i * 4) (qd q)=qds A++qds (R.set i q)++qds B:=by
 have h1:A.length * 4+i * 4=(A.length+i) * 4:=by omega
 rw[←Z4,←Z4,h1,A20 q (by rw[List.length_append,List.length_append];omega),List.append_assoc,List.set_append_right _ _ (by omega),show A.length+i-A.length=i from by omega,List.set_append_left _ _ hi,Z4,Z4,List.append_assoc]
end Go.Fw
namespace Go.Proofs.YtmmnimagbnlcmaaGreatDoor
section
attribute [local irreducible] SW SL SQ AtQ SV SC BB LD PK Yields SO SOT SOA SY SP SPT SPA
theorem Ae8 (G:Ctx) (H:List Ent) (A R B:List Qd) (b off w n c cp:Nat) (ho:off=A.length * 4) (hw:w=R.length) (hw1:1≤w∧w≤100000):SC Tryz.prog G 190 [.slice (some ⟨b,off,none⟩) w cp] (.own 97 4 (some ⟨b,0,none⟩) n c (qds A++qds R++qds B)::H) fun v H'=>v= .tuple #[]∧H'= .own 97 4 (some ⟨b,0,none⟩) n c (qds A++qds (mendQ J2 R)++qds B)::H:=by
 have hrd:=fun (R':List Qd) (h:R'.length=w) (H:List Ent)=>Af2 (Ad9 (G:=G) (e:=97) (sz:=4) (len:=n) (c:=c) (b:=b) (xs:=qds A) (ys:=qds R') (zs:=qds B) (us:=[]) (H:=H) off (by rw[X6,ho]) (by rw[X6];omega))
 have cC:=fun (H:List Ent) (a:Option Addr) {vs:List Value} [RdC G H a vs] (hv:vs=qds R)=>AR4 G H R a w cp hv hw hw1.2
 have cL:=fun (H:List Ent) (a:Option Addr) (c:Nat) {vs:List Value} [RdC G H a vs] (hv:vs=qds R) (i:Nat) (hi:i<w)=>BD7 G H R a w c i hv hw hw1.2 hi
 have CL:=Lib.hid cL
 haveI:=hrd R hw.symm H
 refine Z0 Tryz.func190 O O O O O ?_
 repeat' (first|(apply E8;first|(apply A8;refine A9 ?_)|(apply C8;refine D7 O O ?_)|(apply D5;refine D9 O O ?_)|(apply H5;refine c_call O O O (cC _ _ O) O O ?_;rintro _ _ ⟨a2,c2,rfl,rfl⟩)|(apply K5;refine s_call (S9 O O) O ?_))|(apply D6)|(apply F3)|(apply A7)|(apply C9))
 clear cC cL
 refine R7 (α:=Nat) (fun j=>[(0,.slice (some ⟨b,off,none⟩) w cp),(2,.slice a2 w c2),(7,.int .i64 w),(8,.int .i64 j)]) (fun j=> .own 97 4 a2 w c2 (qds R):: .own 97 4 (some ⟨b,0,none⟩) n c (qds A++qds (AE5 J2 R j)++qds B)::H)
  (fun j=>j≤w) (fun j=>w-j) 0 (Nat.zero_le _) Q7 (by rw[Be0];exact J3) ?_
 intro j hj
 by_cases hlt:(j:Int)<w
 ·have cLj:=fun (H:List Ent) (a:Option Addr) (c:Nat) {vs:List Value} [RdC G H a vs] (hv:vs=qds R)=>CL.out H a c hv j (by omega)
  have hlR:(qds R).length=w * 4:=by rw[X6,hw]
  have hl2:(qds (AE5 J2 R j)).length=w * 4:=by rw[X6,AA9,hw]
  have hlt2:(j:Int).toNat * 4<(qds R).length:=by rw[hlR];omega
  cases hL:loneB J2 R j
  ·rw[hL] at cLj
   repeat' (first|(apply E8;first|(apply A8;refine A9 ?_)|(apply C8;refine D7 O O ?_)|(apply E5;refine F7 O O O ?_;first|(apply K9;refine L6 ⟨by omega,by omega⟩ ?_)|refine F9 O ?_)|(apply D5;refine D9 O O ?_)|(apply H5;refine H6 O O O (cLj _ _ _ O) O O ?_))|(apply D6)|(apply G8)|(apply F3)|(apply A7)|(refine G5 O ?_;first|(apply H7)|(apply E9<;>intro hq<;>(try (exfalso;omega))))|(apply C9)|(apply H9))
   refine J6 (j+1) ⟨by omega,by omega⟩ Q7 ?_
   rw[Bb9 hL]
   exact J3
  ·rw[hL] at cLj
   haveI:=hrd (AE5 J2 R j) (by rw[AA9,hw]) H
   have hp:=A44 (C:=R) (i:=(j:Int)) (by omega)
   have cBk:=fun H=>AZ7 G H (R.getD (j:Int).toNat qz).2.1 (R.getD (j:Int).toNat qz).2.2.1 (R.getD (j:Int).toNat qz).2.2.2
   have hov:over (qds A++qds (AE5 J2 R j)++qds B) (off+(j:Int).toNat * 4) (qd (32,(R.getD (j:Int).toNat qz).2.1,(R.getD (j:Int).toNat qz).2.2.1,(R.getD (j:Int).toNat qz).2.2.2))=qds A++qds (AE5 J2 R (j+1))++qds B:=by
    rw[ho,Int.toNat_natCast,AI1 _ (by rw[AA9];omega)]
    exact congrArg (fun X=>qds A++qds X++qds B) (BK6 hL (by omega))
   have hll:off+(j:Int).toNat * 4+4≤(qds A++qds (AE5 J2 R j)++qds B).length:=by
    rw[List.length_append,List.length_append,hl2,X6,ho]
    omega
   clear hrd CL
   repeat' (first|(apply E8;first|(apply A8;refine A9 ?_)|(apply C8;refine D7 O O ?_)|(apply E5;refine F7 O O O ?_;first|(apply K9;refine L6 ⟨by omega,by omega⟩ ?_)|refine F9 O ?_)|(apply F5;refine F8 O O ?_;refine l6 hp O ?_)|(apply D5;refine D9 O O ?_)|(apply M4;first|(refine M8 (K7 O O O hlR (by omega) (by omega)) O ?_)|(refine M8 (K7 O O O hl2 (by omega) (by omega)) O ?_))|(apply H5;first|refine H6 O O O (cLj _ _ _ O) O O ?_ |refine H6 O O O (cBk _) O O ?_)|(apply H8;refine AP4 O O O O O O (Nat.zero_lt_succ 3) hll O ?_)|(refine G7 (AO3 O O hlt2) O ?_))|(apply D6)|(apply G8)|(apply F3)|(apply A7)|(refine G5 O ?_;first|(apply I1)|(apply E9<;>intro hq<;>(try (exfalso;omega))))|(apply C9)|(apply H9))
   rw[hov]
   exact J6 (j+1) ⟨by omega,by omega⟩ Q7 J3
 ·obtain rfl:j=w:=by omega
  repeat' (first|(apply E8;first|(apply A8;refine A9 ?_)|(apply E5;refine F7 O O O ?_;refine F9 O ?_))|(apply D6)|(apply O7)|(apply A7)|(refine G5 O ?_;apply E9<;>intro hq<;>(try (exfalso;omega)))|(apply C9)|(apply K3)|(apply K4))
  refine AI9 (_::H) (by (exact .inl O)) O (List.Sublist.cons _ (List.Sublist.refl _)) ?_
  refine⟨O,?_⟩
  unfold mendQ
  rw[←hw]
end
end Go.Proofs.YtmmnimagbnlcmaaGreatDoor
namespace Go.Fw
def putQ (wd:Int→Int) (R:List Qd) (col:Nat) (r x y z:Int):List Qd:=if wd r=2 then (R.set col (r,x,y,z)).set (col+1) (0,x,y,z) else R.set col (r,x,y,z)
theorem A04 (wd:Int→Int) (R:List Qd) (col:Nat) (r x y z:Int):(putQ wd R col r x y z).length=R.length:=by
 unfold putQ
 split<;>simp
end Go.Fw
namespace Go.Proofs.YtmmnimagbnlcmaaGreatDoor
section
attribute [local irreducible] SW SL SQ AtQ SV SC BB LD PK Yields SO SOT SOA SY SP SPT SPA
theorem BB4 (G:Ctx) (H:List Ent) (b w h n c k p:Nat) (hp:(k:Int) * (w:Int)=(p:Int)) (hp2:((k:Int)+1) * (w:Int)=((p+w:Nat):Int)) (hm:n≤100000) (hn:p+w≤n) (hnc:n≤c) (hw:1≤w) (hk:k≤1000):SV Tryz.prog G 65 [gridV w h (some ⟨b,0,none⟩) n c,.int .i64 k] H (.slice (some ⟨b,p * 4,none⟩) w (c-p)):=by
 have e:Value.slice (some ⟨b,p * 4,none⟩) w (c-p)= .slice (some ⟨b,((k:Int) * (w:Int)).toNat * 4,none⟩) ((((k:Int)+1) * (w:Int)).toNat-((k:Int) * (w:Int)).toNat) (c-((k:Int) * (w:Int)).toNat):=by
  rw[hp,hp2,Int.toNat_natCast,Int.toNat_natCast,Nat.add_sub_cancel_left]
 rw[e]
 refine R3 Tryz.func65 O O O O O ?_
 repeat' (first|(apply E8;first|(apply A8;refine A9 ?_)|(apply C8;refine D7 O O ?_)|(apply E5;refine F7 O O O ?_;first|(refine AS7 ⟨by omega,by omega⟩ ?_)|(apply K9;refine L6 ⟨by omega,by omega⟩ ?_))|(apply F5;refine F8 O O ?_;refine F4 O ?_)|(apply D5;refine D9 O O ?_)|(apply G6;refine G7 (D8 O O) O ?_)|(apply K6;refine L9 O O O O O O (fun _=>?_))|(apply r9;refine AL0 (Af1 O O O O (by omega) (by omega) (by omega) (by omega)) O ?_))|(apply D6)|(apply I4)|(apply A7)|(apply C9))
 all_goals (refine N7 (by (exact .inr O)) O O0 ?_;rfl)
theorem Bn5 (G:Ctx) (H:List Ent) (A R B:List Qd) (b w h n c k col:Nat) (r x y z:Int) (hA:A.length=k * w) (hR:R.length=w) (hn:n=(A++R++B).length) (hm:n≤100000) (hnc:n≤c) (hw:1≤w) (hk:k≤1000) (hcol:col<w) (hcol2:J2 r=2→col+1<w):SC Tryz.prog G 157 [gridV w h (some ⟨b,0,none⟩) n c,.int .i64 k,.int .i64 col,.int .i64 r,penV x y z] (.own 97 4 (some ⟨b,0,none⟩) n c (qds A++qds R++qds B)::H) fun v H'=>v= .tuple #[]∧H'= .own 97 4 (some ⟨b,0,none⟩) n c (qds A++qds (mendQ J2 (putQ J2 R col r x y z))++qds B)::H:=by
 have e1:(k:Int) * (w:Int)=((k * w:Nat):Int):=by simp
 have e2:((k:Int)+1) * (w:Int)=((k * w+w:Nat):Int):=by rw[Int.add_mul];simp
 have hpn:k * w+w≤n:=by rw[hn,List.length_append,List.length_append];omega
 have cR:=fun H=>BB4 G H b w h n c k (k * w) e1 e2 hm hpn hnc hw hk
 have cP:=fun (H:List Ent) (R':List Qd) (hR':R'.length=w)=>Ae8 G H A R' B b (k * w * 4) w n c (c-k * w) (by rw[hA]) hR'.symm ⟨hw,by omega⟩
 have cW:=fun H=>AT7 G H r
 have hrd:=fun (R':List Qd) (h:R'.length=w) (H:List Ent)=>Af2 (Ad9 (G:=G) (e:=97) (sz:=4) (len:=n) (c:=c) (b:=b) (xs:=qds A) (ys:=qds R') (zs:=qds B) (us:=[]) (H:=H) (k * w * 4) (by rw[X6,hA]) (by rw[X6];omega))
 have hov:=fun (R':List Qd) (hR':R'.length=w) (i:Int) (q:Qd) (hi:i.toNat<w)=>show over (qds A++qds R'++qds B) (k * w * 4+i.toNat * 4) (qd q)=qds A++qds (R'.set i.toNat q)++qds B from by
  rw[←hA];exact AI1 q (by rw[hR'];exact hi)
 have hll:=fun (R':List Qd) (hR':R'.length=w) (i:Int) (hi:i.toNat<w)=>show k * w * 4+i.toNat * 4+4≤(qds A++qds R'++qds B).length from by
  rw[List.length_append,List.length_append,X6,X6,hA,hR'];omega
 have hlR:=fun (R':List Qd) (hR':R'.length=w)=>show (qds R').length=w * 4 from by rw[X6,hR']
 generalize k * w=p at *
 clear e1 e2 hn hA
 have h1:=hlR R hR
 have h2:=hlR (R.set (col:Int).toNat (r,x,y,z)) (by rw[List.length_set,hR])
 have o1:over (qds A++qds R++qds B) (p * 4+(col:Int).toNat * 4) [.int .i64 r,.int .i64 x,.int .i64 y,.int .i64 z]=qds A++qds (R.set (col:Int).toNat (r,x,y,z))++qds B:=hov R hR (col:Int) (r,x,y,z) (by omega)
 have l1:=hll R hR (col:Int) (by omega)
 haveI:=hrd R hR
 haveI:=hrd (R.set (col:Int).toNat (r,x,y,z)) (by rw[List.length_set,hR])
 unfold putQ
 by_cases hwd:J2 r=2
 ·rw[if_pos hwd]
  have hc2:=hcol2 hwd
  have o2:over (qds A++qds (R.set (col:Int).toNat (r,x,y,z))++qds B) (p * 4+((col:Int)+1).toNat * 4) [.int .i64 0,.int .i64 x,.int .i64 y,.int .i64 z]=qds A++qds ((R.set (col:Int).toNat (r,x,y,z)).set ((col:Int)+1).toNat (0,x,y,z))++qds B:=hov (R.set (col:Int).toNat (r,x,y,z)) (by rw[List.length_set,hR]) ((col:Int)+1) (0,x,y,z) (by omega)
  have l2:=hll (R.set (col:Int).toNat (r,x,y,z)) (by rw[List.length_set,hR]) ((col:Int)+1) (by omega)
  have cP2:=fun H=>cP H ((R.set (col:Int).toNat (r,x,y,z)).set ((col:Int)+1).toNat (0,x,y,z)) (by rw[List.length_set,List.length_set,hR])
  rw[show R.set col (r,x,y,z)=R.set (col:Int).toNat (r,x,y,z) from by rw[Int.toNat_natCast]]
  rw[show (R.set (col:Int).toNat (r,x,y,z)).set (col+1) (0,x,y,z)=(R.set (col:Int).toNat (r,x,y,z)).set ((col:Int)+1).toNat (0,x,y,z) from by rw[show ((col:Int)+1).toNat=col+1 from by omega]]
  rw[hwd] at cW
  clear cP hov hll hlR hcol2 hwd hrd
  refine AR9 Tryz.func157 O O O O O ?_
  repeat' (first|(apply E8;first|(apply A8;refine A9 ?_)|(apply C8;refine D7 O O ?_)|(apply E5;refine F7 O O O ?_;first|(apply K9;refine L6 ⟨by omega,by omega⟩ ?_)|refine F9 O ?_)|(apply F5;refine F8 O O ?_;refine M5 O ?_)|(apply D5;refine D9 O O ?_)|(apply U0;refine U6 (Q9 O O O) O ?_)|(apply M4;first|(refine M8 (K7 O O O h1 (by omega) (by omega)) O ?_)|(refine M8 (K7 O O O h2 (by omega) (by omega)) O ?_))|(apply H5;first|refine H6 O O O (cR _) O O ?_ |refine H6 O O O (cW _) O O ?_ |(refine c_call O O O (o7 PickOwn.here (cP2 _)) O O ?_;rintro _ _ ⟨rfl,rfl⟩))|(apply H8;first|(refine AP4 O O O O O O (Nat.zero_lt_succ 3) l1 O ?_;rw[o1])|(refine AP4 O O O O O O (Nat.zero_lt_succ 3) l2 O ?_;rw[o2]))|(apply K6;refine L9 O O O O O O (fun _=>?_)))|(apply D6)|(apply A7)|(refine G5 O ?_;apply I1)|(apply C9))
  refine AI9 (_::H) (by (exact .inl O)) O (List.Sublist.cons_cons _ O0) ?_
  exact⟨O,O⟩
 ·rw[if_neg hwd]
  have cP1:=fun H=>cP H (R.set (col:Int).toNat (r,x,y,z)) (by rw[List.length_set,hR])
  rw[show R.set col (r,x,y,z)=R.set (col:Int).toNat (r,x,y,z) from by rw[Int.toNat_natCast]]
  generalize J2 r=wd at *
  clear cP hov hll hlR hcol2 hrd
  refine AR9 Tryz.func157 O O O O O ?_
  repeat' (first|(apply E8;first|(apply A8;refine A9 ?_)|(apply C8;refine D7 O O ?_)|(apply E5;refine F7 O O O ?_;refine F9 O ?_)|(apply F5;refine F8 O O ?_;refine M5 O ?_)|(apply D5;refine D9 O O ?_)|(apply U0;refine U6 (Q9 O O O) O ?_)|(apply M4;refine M8 (K7 O O O h1 (by omega) (by omega)) O ?_)|(apply H5;first|refine H6 O O O (cR _) O O ?_ |refine H6 O O O (cW _) O O ?_ |(refine c_call O O O (o7 PickOwn.here (cP1 _)) O O ?_;rintro _ _ ⟨rfl,rfl⟩))|(apply H8;refine AP4 O O O O O O (Nat.zero_lt_succ 3) l1 O ?_;rw[o1])|(apply K6;refine L9 O O O O O O (fun _=>?_)))|(apply D6)|(apply G8)|(apply A7)|(refine G5 O ?_;apply E9<;>intro hq<;>(try (exfalso;omega)))|(apply C9))
  refine AI9 (_::H) (by (exact .inl O)) O (List.Sublist.cons_cons _ O0) ?_
  exact⟨O,O⟩
theorem AV6 (G:Ctx) (H:List Ent) (C:List Qd) {vs:List Value} (w h:Int) (a:Option Addr) (n c:Nat) [h1:RdC G H a vs] (hv:vs=qds C) (hn:n=C.length) (hm:n≤100000):SC Tryz.prog G 85 [gridV w h a n c] H fun v H'=>∃a' c',v=gridV w h a' n c'∧H'= .own 97 4 a' n c' (qds C)::H:=by
 subst hv
 have cC:=fun (H:List Ent) {vs:List Value} [RdC G H a vs] (hv:vs=qds C)=>AR4 G H C a n c hv hn hm
 refine Z0 Tryz.func85 O O O O O ?_
 repeat' (first|(apply E8;first|(apply A8;refine A9 ?_)|(apply F5;refine F8 O O ?_;first|refine F4 O ?_ |refine M5 O ?_)|(apply G6;refine G7 (D8 O O) O ?_)|(apply H5;refine c_call O O O (cC _ O) O O ?_;rintro _ _ ⟨a2,c2,rfl,rfl⟩)|(apply H8;first|refine M9 O O O O O O O ?_ |refine Q8 O O O O O O O O ?_)|(apply K6;refine L9 O O O O O O (fun _=>?_))|(apply O6;refine Q4 O O O O (fun _=>?_)))|(apply D6)|(apply I4)|(apply A7)|(apply C9))
 refine AB4 (.own 97 4 a2 n c2 (qds C)::H) (by (exact .inr O)) O O O J3 ?_
 exact⟨a2,c2,O,O⟩
theorem B12 {w h:Int} {C:List Qd} (h0:gridE w h C=0):(1≤w∧w≤160∧1≤h∧h≤60)∧(C.length:Int)=w * h:=by
 unfold gridE at h0
 split at h0
 ·cases h0
 ·rename_i h1
  refine⟨?_,?_⟩
  ·rcases Ac6 w h with ⟨_,h2⟩|⟨h2,_⟩
   ·exact h2
   ·exact absurd h2 h1
  ·split at h0
   ·cases h0
   ·rename_i h3
    exact Classical.not_not.1 h3
theorem Aj8 (G:Ctx) (H:List Ent) (C D:List Qd) {vs us:List Value} (w h w2 h2:Int) (a a2:Option Addr) (n m c c2:Nat) [h1:RdC G H a vs] [h3:RdC G H a2 us] (hv:vs=qds C) (hu:us=qds D) (hn:n=C.length) (hm:m=D.length) (hb:n≤100000) (hb2:m≤100000) (e1:w=w2) (e2:h=h2) (e3:C=D):SV Tryz.prog G 32 [gridV w h a n c,gridV w2 h2 a2 m c2] H (.bool true):=by
 subst hv hu e1 e2
 have cE:=fun (H:List Ent) {vs us:List Value} [RdC G H a vs] [RdC G H a2 us] (hv:vs=qds C) (hu:us=qds D)=>Au4 G H C D a a2 n m c c2 hv hu hn hm hb hb2
 rw[decide_eq_true e3] at cE
 clear hn hm e3
 refine R3 Tryz.func32 O O O O O ?_
 repeat' (first|(apply E8;first|(apply A8;refine A9 ?_)|(apply C8;refine D7 O O ?_)|(apply E5;refine F7 O O O ?_;refine F9 O ?_)|(apply F5;refine F8 O O ?_;refine F4 O ?_)|(apply D5;refine D9 O O ?_)|(apply I6;refine J4 O O ?_;apply P7;refine P6 O ?_)|(apply G6;refine G7 (D8 O O) O ?_)|(apply H5;refine H6 O O O (cE _ O O) O O ?_)|(apply K6;refine L9 O O O O O O (fun _=>?_))|(apply I5;refine J9 O O O O ?_;first|(apply I1)|(apply E9<;>intro hq<;>(try (exfalso;omega)))))|(apply D6)|(apply I4)|(apply A7)|(apply C9))
 all_goals (refine N7 (by (exact .inr O)) O O0 ?_;rfl)
end
end Go.Proofs.YtmmnimagbnlcmaaGreatDoor
namespace Go.Sx
theorem Bv6 {P:Program} {G:Ctx} {f:FuncId} {args:List Value} {H H':List Ent} {R R':Value→List Ent→Prop} (hp:H.Perm H') (h:SC P G f args H' R) (hR:∀v H1,R v H1→∃H2,H1.Perm H2∧R' v H2):SC P G f args H R':=⟨h.1,fun w hw=>(h.2 w (hw.perm hp)).mono fun e w' ⟨v,H1,he,hw1,hr⟩=>by
 obtain⟨H2,hp2,hr2⟩:=hR v H1 hr
 exact⟨v,H2,he,hw1.perm hp2,hr2⟩⟩
end Go.Sx
namespace Go.Proofs.YtmmnimagbnlcmaaGreatDoor
section
attribute [local irreducible] SW SL SQ AtQ SV SC BB LD PK Yields SO SOT SOA SY SP SPT SPA
theorem Bm0 (G:Ctx) (H:List Ent) (k:Int) (hk:0≤k∧k<2147483648):SV Tryz.prog G 266 [.int .u64 1,.int .u64 k] H (.tuple #[.int .u64 0,.int .u64 k]):=by
 refine R3 Tryz.func266 O O O O O ?_
 repeat' (first|(apply E8;first|(apply A8;refine A9 ?_)|(apply C8;refine D7 O O ?_)|(apply E5;refine F7 O O O ?_;first|refine Bm1 (by omega) (by omega) ?_ |(first|(apply K9;refine L6 ⟨by omega,by omega⟩ ?_)|(apply BO4;refine AS7 ⟨by omega,by omega⟩ ?_)|(apply CC2;refine B78 O O O ?_)))|(apply D5;refine D9 O O ?_))|(apply D6)|(apply I4)|(apply A7)|(apply C9))
 refine N7 (by (exact .inr O)) O O0 ?_
 have e1:k / 4294967296=0:=by omega
 simp [resV,e1]
theorem B96 (G:Ctx) (H:List Ent) (k:Int) (hk:0≤k∧k<2147483648):SV Tryz.prog G 242 [.int .u64 1,.int .u64 k] H (.tuple #[.int .u64 0,.int .u64 k]):=by
 have c:=fun H=>Bm0 G H k hk
 refine R3 Tryz.func242 O O O O O ?_
 repeat' (first|(apply E8;first|(apply A8;refine A9 ?_)|(apply C8;refine D7 O O ?_)|(apply D5;refine D9 O O ?_)|(apply U7;refine X7 (M0 O O O) O ?_)|(apply H5;refine H6 O O O (c _) O O ?_))|(apply D6)|(apply G8)|(apply I4)|(apply A7)|(refine G5 O ?_;apply H7)|(apply C9))
 refine N7 (by (exact .inr O)) O O0 ?_
 rfl
end
end Go.Proofs.YtmmnimagbnlcmaaGreatDoor
