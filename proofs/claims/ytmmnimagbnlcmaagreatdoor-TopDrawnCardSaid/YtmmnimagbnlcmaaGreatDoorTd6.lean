/- Texts of this claim, merged: WidthSame Cut GridA GridB Rep. -/
import Derived.Test.YtmmnimagbnlcmaaGreatDoorTd5
import Derived.Test.YtmmnimagbnlcmaaGreatDoorRows
import Derived.WalkKit
import Derived.WalkSpells
import Derived.WalkLawsBesides
import Derived.Handy
import Derived.Lib.Hide
import Derived.Laws.BitsAllLaws
import Derived.Deep.MidRow
import Derived.Deep.WholeRow
import Derived.BigQuiet
import Derived.Deep.QuietTactic
import Derived.Laws.CopyOwn
import Derived.Laws.AppendOwnNone
import Derived.Laws.MakeOwn
import Derived.Laws.IdiomStrings
import Derived.OrdersHeld
import Derived.Lib.SliceRun
import Derived.ChangeKeysEq
import Derived.Laws.CopyRow
namespace Go.Proofs.YtmmnimagbnlcmaaGreatDoor
open Go Go.RowKit Go.Fw Go.Sx
set_option maxRecDepth 100000
section
theorem Q7 (n:Int) (v:Int) (h:(if n<0∨1114111<n∨inTab n K4=true then (0:Int) else if inTab n O7=true then 2 else 1)=v) (h':(if O4 n=true then (X8.take 34).foldl (fun w x=>if x.1≤n then x.2 else w) 0 else 0)=v):R8 n=H5 n:=by
  unfold R8 H5 refTo
  rw[h,h']
theorem Bl0 (n:Int) (h2:n<0):R8 n=H5 n:=by
  have e:O4 n=false:=by unfold O4;simp;omega
  exact Q7 n 0 (by rw[if_pos (by omega)]) (by rw[e];rfl)
theorem Bj0 (n:Int) (h1:0≤n) (h2:n<32):R8 n=H5 n:=by
  have e0:inTab n K4=true:=by simp [inTab,K4];omega
  have e2:O4 n=true:=by unfold O4;simp;omega
  exact Q7 n 0 (by rw[if_pos (by rw[e0];simp)]) (by rw[if_pos e2];simp (disch:=omega) only[X8,List.take,List.foldl,if_pos,if_neg])
theorem Bd3 (n:Int) (h1:32≤n) (h2:n<127):R8 n=H5 n:=by
  have e0:inTab n K4=false:=by simp [inTab,K4];omega
  have e1:inTab n O7=false:=by simp [inTab,O7];omega
  have e2:O4 n=true:=by unfold O4;simp;omega
  exact Q7 n 1 (by rw[if_neg (by rw[e0];simp;omega),if_neg (by rw[e1];simp)]) (by rw[if_pos e2];simp (disch:=omega) only[X8,List.take,List.foldl,if_pos,if_neg])
theorem Bj6 (n:Int) (h1:127≤n) (h2:n<160):R8 n=H5 n:=by
  have e0:inTab n K4=true:=by simp [inTab,K4];omega
  have e2:O4 n=true:=by unfold O4;simp;omega
  exact Q7 n 0 (by rw[if_pos (by rw[e0];simp)]) (by rw[if_pos e2];simp (disch:=omega) only[X8,List.take,List.foldl,if_pos,if_neg])
theorem Bi4 (n:Int) (h1:160≤n) (h2:n<768):R8 n=H5 n:=by
  have e0:inTab n K4=false:=by simp [inTab,K4];omega
  have e1:inTab n O7=false:=by simp [inTab,O7];omega
  have e2:O4 n=true:=by unfold O4;simp;omega
  exact Q7 n 1 (by rw[if_neg (by rw[e0];simp;omega),if_neg (by rw[e1];simp)]) (by rw[if_pos e2];simp (disch:=omega) only[X8,List.take,List.foldl,if_pos,if_neg])
theorem Be0 (n:Int) (h1:768≤n) (h2:n<880):R8 n=H5 n:=by
  have e0:inTab n K4=true:=by simp [inTab,K4];omega
  have e2:O4 n=true:=by unfold O4;simp;omega
  exact Q7 n 0 (by rw[if_pos (by rw[e0];simp)]) (by rw[if_pos e2];simp (disch:=omega) only[X8,List.take,List.foldl,if_pos,if_neg])
theorem Bf6 (n:Int) (h1:880≤n) (h2:n<4352):R8 n=H5 n:=by
  have e0:inTab n K4=false:=by simp [inTab,K4];omega
  have e1:inTab n O7=false:=by simp [inTab,O7];omega
  have e2:O4 n=true:=by unfold O4;simp;omega
  exact Q7 n 1 (by rw[if_neg (by rw[e0];simp;omega),if_neg (by rw[e1];simp)]) (by rw[if_pos e2];simp (disch:=omega) only[X8,List.take,List.foldl,if_pos,if_neg])
theorem Bm6 (n:Int) (h1:4352≤n) (h2:n<4448):R8 n=H5 n:=by
  have e0:inTab n K4=false:=by simp [inTab,K4];omega
  have e1:inTab n O7=true:=by simp [inTab,O7];omega
  have e2:O4 n=true:=by unfold O4;simp;omega
  exact Q7 n 2 (by rw[if_neg (by rw[e0];simp;omega),if_pos e1]) (by rw[if_pos e2];simp (disch:=omega) only[X8,List.take,List.foldl,if_pos,if_neg])
theorem Bn3 (n:Int) (h1:4448≤n) (h2:n<8203):R8 n=H5 n:=by
  have e0:inTab n K4=false:=by simp [inTab,K4];omega
  have e1:inTab n O7=false:=by simp [inTab,O7];omega
  have e2:O4 n=true:=by unfold O4;simp;omega
  exact Q7 n 1 (by rw[if_neg (by rw[e0];simp;omega),if_neg (by rw[e1];simp)]) (by rw[if_pos e2];simp (disch:=omega) only[X8,List.take,List.foldl,if_pos,if_neg])
theorem Bm2 (n:Int) (h1:8203≤n) (h2:n<8208):R8 n=H5 n:=by
  have e0:inTab n K4=true:=by simp [inTab,K4];omega
  have e2:O4 n=true:=by unfold O4;simp;omega
  exact Q7 n 0 (by rw[if_pos (by rw[e0];simp)]) (by rw[if_pos e2];simp (disch:=omega) only[X8,List.take,List.foldl,if_pos,if_neg])
theorem BY8 (n:Int) (h1:8208≤n) (h2:n<11904):R8 n=H5 n:=by
  have e0:inTab n K4=false:=by simp [inTab,K4];omega
  have e1:inTab n O7=false:=by simp [inTab,O7];omega
  have e2:O4 n=true:=by unfold O4;simp;omega
  exact Q7 n 1 (by rw[if_neg (by rw[e0];simp;omega),if_neg (by rw[e1];simp)]) (by rw[if_pos e2];simp (disch:=omega) only[X8,List.take,List.foldl,if_pos,if_neg])
theorem BV8 (n:Int) (h1:11904≤n) (h2:n<12351):R8 n=H5 n:=by
  have e0:inTab n K4=false:=by simp [inTab,K4];omega
  have e1:inTab n O7=true:=by simp [inTab,O7];omega
  have e2:O4 n=true:=by unfold O4;simp;omega
  exact Q7 n 2 (by rw[if_neg (by rw[e0];simp;omega),if_pos e1]) (by rw[if_pos e2];simp (disch:=omega) only[X8,List.take,List.foldl,if_pos,if_neg])
theorem BX6 (n:Int) (h1:12351≤n) (h2:n<12353):R8 n=H5 n:=by
  have e0:inTab n K4=false:=by simp [inTab,K4];omega
  have e1:inTab n O7=false:=by simp [inTab,O7];omega
  have e2:O4 n=true:=by unfold O4;simp;omega
  exact Q7 n 1 (by rw[if_neg (by rw[e0];simp;omega),if_neg (by rw[e1];simp)]) (by rw[if_pos e2];simp (disch:=omega) only[X8,List.take,List.foldl,if_pos,if_neg])
theorem BW7 (n:Int) (h1:12353≤n) (h2:n<19904):R8 n=H5 n:=by
  have e0:inTab n K4=false:=by simp [inTab,K4];omega
  have e1:inTab n O7=true:=by simp [inTab,O7];omega
  have e2:O4 n=true:=by unfold O4;simp;omega
  exact Q7 n 2 (by rw[if_neg (by rw[e0];simp;omega),if_pos e1]) (by rw[if_pos e2];simp (disch:=omega) only[X8,List.take,List.foldl,if_pos,if_neg])
theorem BM7 (n:Int) (h1:19904≤n) (h2:n<19968):R8 n=H5 n:=by
  have e0:inTab n K4=false:=by simp [inTab,K4];omega
  have e1:inTab n O7=false:=by simp [inTab,O7];omega
  have e2:O4 n=true:=by unfold O4;simp;omega
  exact Q7 n 1 (by rw[if_neg (by rw[e0];simp;omega),if_neg (by rw[e1];simp)]) (by rw[if_pos e2];simp (disch:=omega) only[X8,List.take,List.foldl,if_pos,if_neg])
theorem BU8 (n:Int) (h1:19968≤n) (h2:n<42192):R8 n=H5 n:=by
  have e0:inTab n K4=false:=by simp [inTab,K4];omega
  have e1:inTab n O7=true:=by simp [inTab,O7];omega
  have e2:O4 n=true:=by unfold O4;simp;omega
  exact Q7 n 2 (by rw[if_neg (by rw[e0];simp;omega),if_pos e1]) (by rw[if_pos e2];simp (disch:=omega) only[X8,List.take,List.foldl,if_pos,if_neg])
theorem BR6 (n:Int) (h1:42192≤n) (h2:n<44032):R8 n=H5 n:=by
  have e0:inTab n K4=false:=by simp [inTab,K4];omega
  have e1:inTab n O7=false:=by simp [inTab,O7];omega
  have e2:O4 n=true:=by unfold O4;simp;omega
  exact Q7 n 1 (by rw[if_neg (by rw[e0];simp;omega),if_neg (by rw[e1];simp)]) (by rw[if_pos e2];simp (disch:=omega) only[X8,List.take,List.foldl,if_pos,if_neg])
theorem BQ4 (n:Int) (h1:44032≤n) (h2:n<55204):R8 n=H5 n:=by
  have e0:inTab n K4=false:=by simp [inTab,K4];omega
  have e1:inTab n O7=true:=by simp [inTab,O7];omega
  have e2:O4 n=true:=by unfold O4;simp;omega
  exact Q7 n 2 (by rw[if_neg (by rw[e0];simp;omega),if_pos e1]) (by rw[if_pos e2];simp (disch:=omega) only[X8,List.take,List.foldl,if_pos,if_neg])
theorem BN1 (n:Int) (h1:55204≤n) (h2:n<55296):R8 n=H5 n:=by
  have e0:inTab n K4=false:=by simp [inTab,K4];omega
  have e1:inTab n O7=false:=by simp [inTab,O7];omega
  have e2:O4 n=true:=by unfold O4;simp;omega
  exact Q7 n 1 (by rw[if_neg (by rw[e0];simp;omega),if_neg (by rw[e1];simp)]) (by rw[if_pos e2];simp (disch:=omega) only[X8,List.take,List.foldl,if_pos,if_neg])
theorem BX2 (n:Int) (h1:55296≤n) (h2:n<57344):R8 n=H5 n:=by
  have e0:inTab n K4=true:=by simp [inTab,K4];omega
  have e2:O4 n=false:=by unfold O4;simp;omega
  exact Q7 n 0 (by rw[if_pos (by rw[e0];simp)]) (by rw[if_neg (by rw[e2];simp)])
theorem BW2 (n:Int) (h1:57344≤n) (h2:n<63744):R8 n=H5 n:=by
  have e0:inTab n K4=false:=by simp [inTab,K4];omega
  have e1:inTab n O7=false:=by simp [inTab,O7];omega
  have e2:O4 n=true:=by unfold O4;simp;omega
  exact Q7 n 1 (by rw[if_neg (by rw[e0];simp;omega),if_neg (by rw[e1];simp)]) (by rw[if_pos e2];simp (disch:=omega) only[X8,List.take,List.foldl,if_pos,if_neg])
theorem BS1 (n:Int) (h1:63744≤n) (h2:n<64256):R8 n=H5 n:=by
  have e0:inTab n K4=false:=by simp [inTab,K4];omega
  have e1:inTab n O7=true:=by simp [inTab,O7];omega
  have e2:O4 n=true:=by unfold O4;simp;omega
  exact Q7 n 2 (by rw[if_neg (by rw[e0];simp;omega),if_pos e1]) (by rw[if_pos e2];simp (disch:=omega) only[X8,List.take,List.foldl,if_pos,if_neg])
theorem BW6 (n:Int) (h1:64256≤n) (h2:n<65024):R8 n=H5 n:=by
  have e0:inTab n K4=false:=by simp [inTab,K4];omega
  have e1:inTab n O7=false:=by simp [inTab,O7];omega
  have e2:O4 n=true:=by unfold O4;simp;omega
  exact Q7 n 1 (by rw[if_neg (by rw[e0];simp;omega),if_neg (by rw[e1];simp)]) (by rw[if_pos e2];simp (disch:=omega) only[X8,List.take,List.foldl,if_pos,if_neg])
theorem BS0 (n:Int) (h1:65024≤n) (h2:n<65040):R8 n=H5 n:=by
  have e0:inTab n K4=true:=by simp [inTab,K4];omega
  have e2:O4 n=true:=by unfold O4;simp;omega
  exact Q7 n 0 (by rw[if_pos (by rw[e0];simp)]) (by rw[if_pos e2];simp (disch:=omega) only[X8,List.take,List.foldl,if_pos,if_neg])
theorem BZ4 (n:Int) (h1:65040≤n) (h2:n<65072):R8 n=H5 n:=by
  have e0:inTab n K4=false:=by simp [inTab,K4];omega
  have e1:inTab n O7=false:=by simp [inTab,O7];omega
  have e2:O4 n=true:=by unfold O4;simp;omega
  exact Q7 n 1 (by rw[if_neg (by rw[e0];simp;omega),if_neg (by rw[e1];simp)]) (by rw[if_pos e2];simp (disch:=omega) only[X8,List.take,List.foldl,if_pos,if_neg])
theorem Bb0 (n:Int) (h1:65072≤n) (h2:n<65136):R8 n=H5 n:=by
  have e0:inTab n K4=false:=by simp [inTab,K4];omega
  have e1:inTab n O7=true:=by simp [inTab,O7];omega
  have e2:O4 n=true:=by unfold O4;simp;omega
  exact Q7 n 2 (by rw[if_neg (by rw[e0];simp;omega),if_pos e1]) (by rw[if_pos e2];simp (disch:=omega) only[X8,List.take,List.foldl,if_pos,if_neg])
theorem BQ8 (n:Int) (h1:65136≤n) (h2:n<65280):R8 n=H5 n:=by
  have e0:inTab n K4=false:=by simp [inTab,K4];omega
  have e1:inTab n O7=false:=by simp [inTab,O7];omega
  have e2:O4 n=true:=by unfold O4;simp;omega
  exact Q7 n 1 (by rw[if_neg (by rw[e0];simp;omega),if_neg (by rw[e1];simp)]) (by rw[if_pos e2];simp (disch:=omega) only[X8,List.take,List.foldl,if_pos,if_neg])
theorem BP3 (n:Int) (h1:65280≤n) (h2:n<65377):R8 n=H5 n:=by
  have e0:inTab n K4=false:=by simp [inTab,K4];omega
  have e1:inTab n O7=true:=by simp [inTab,O7];omega
  have e2:O4 n=true:=by unfold O4;simp;omega
  exact Q7 n 2 (by rw[if_neg (by rw[e0];simp;omega),if_pos e1]) (by rw[if_pos e2];simp (disch:=omega) only[X8,List.take,List.foldl,if_pos,if_neg])
theorem BP7 (n:Int) (h1:65377≤n) (h2:n<65504):R8 n=H5 n:=by
  have e0:inTab n K4=false:=by simp [inTab,K4];omega
  have e1:inTab n O7=false:=by simp [inTab,O7];omega
  have e2:O4 n=true:=by unfold O4;simp;omega
  exact Q7 n 1 (by rw[if_neg (by rw[e0];simp;omega),if_neg (by rw[e1];simp)]) (by rw[if_pos e2];simp (disch:=omega) only[X8,List.take,List.foldl,if_pos,if_neg])
theorem BN3 (n:Int) (h1:65504≤n) (h2:n<65511):R8 n=H5 n:=by
  have e0:inTab n K4=false:=by simp [inTab,K4];omega
  have e1:inTab n O7=true:=by simp [inTab,O7];omega
  have e2:O4 n=true:=by unfold O4;simp;omega
  exact Q7 n 2 (by rw[if_neg (by rw[e0];simp;omega),if_pos e1]) (by rw[if_pos e2];simp (disch:=omega) only[X8,List.take,List.foldl,if_pos,if_neg])
theorem BN5 (n:Int) (h1:65511≤n) (h2:n<127744):R8 n=H5 n:=by
  have e0:inTab n K4=false:=by simp [inTab,K4];omega
  have e1:inTab n O7=false:=by simp [inTab,O7];omega
  have e2:O4 n=true:=by unfold O4;simp;omega
  exact Q7 n 1 (by rw[if_neg (by rw[e0];simp;omega),if_neg (by rw[e1];simp)]) (by rw[if_pos e2];simp (disch:=omega) only[X8,List.take,List.foldl,if_pos,if_neg])
theorem BV1 (n:Int) (h1:127744≤n) (h2:n<128592):R8 n=H5 n:=by
  have e0:inTab n K4=false:=by simp [inTab,K4];omega
  have e1:inTab n O7=true:=by simp [inTab,O7];omega
  have e2:O4 n=true:=by unfold O4;simp;omega
  exact Q7 n 2 (by rw[if_neg (by rw[e0];simp;omega),if_pos e1]) (by rw[if_pos e2];simp (disch:=omega) only[X8,List.take,List.foldl,if_pos,if_neg])
theorem BZ5 (n:Int) (h1:128592≤n) (h2:n<129280):R8 n=H5 n:=by
  have e0:inTab n K4=false:=by simp [inTab,K4];omega
  have e1:inTab n O7=false:=by simp [inTab,O7];omega
  have e2:O4 n=true:=by unfold O4;simp;omega
  exact Q7 n 1 (by rw[if_neg (by rw[e0];simp;omega),if_neg (by rw[e1];simp)]) (by rw[if_pos e2];simp (disch:=omega) only[X8,List.take,List.foldl,if_pos,if_neg])
theorem BR1 (n:Int) (h1:129280≤n) (h2:n<129536):R8 n=H5 n:=by
  have e0:inTab n K4=false:=by simp [inTab,K4];omega
  have e1:inTab n O7=true:=by simp [inTab,O7];omega
  have e2:O4 n=true:=by unfold O4;simp;omega
  exact Q7 n 2 (by rw[if_neg (by rw[e0];simp;omega),if_pos e1]) (by rw[if_pos e2];simp (disch:=omega) only[X8,List.take,List.foldl,if_pos,if_neg])
theorem BV4 (n:Int) (h1:129536≤n) (h2:n<131072):R8 n=H5 n:=by
  have e0:inTab n K4=false:=by simp [inTab,K4];omega
  have e1:inTab n O7=false:=by simp [inTab,O7];omega
  have e2:O4 n=true:=by unfold O4;simp;omega
  exact Q7 n 1 (by rw[if_neg (by rw[e0];simp;omega),if_neg (by rw[e1];simp)]) (by rw[if_pos e2];simp (disch:=omega) only[X8,List.take,List.foldl,if_pos,if_neg])
theorem BP5 (n:Int) (h1:131072≤n) (h2:n<262142):R8 n=H5 n:=by
  have e0:inTab n K4=false:=by simp [inTab,K4];omega
  have e1:inTab n O7=true:=by simp [inTab,O7];omega
  have e2:O4 n=true:=by unfold O4;simp;omega
  exact Q7 n 2 (by rw[if_neg (by rw[e0];simp;omega),if_pos e1]) (by rw[if_pos e2];simp (disch:=omega) only[X8,List.take,List.foldl,if_pos,if_neg])
theorem BU1 (n:Int) (h1:262142≤n) (h2:n<1114112):R8 n=H5 n:=by
  have e0:inTab n K4=false:=by simp [inTab,K4];omega
  have e1:inTab n O7=false:=by simp [inTab,O7];omega
  have e2:O4 n=true:=by unfold O4;simp;omega
  exact Q7 n 1 (by rw[if_neg (by rw[e0];simp;omega),if_neg (by rw[e1];simp)]) (by rw[if_pos e2];simp (disch:=omega) only[X8,List.take,List.foldl,if_pos])
theorem BN4 (n:Int) (h1:1114112≤n):R8 n=H5 n:=by
  have e:O4 n=false:=by unfold O4;simp;omega
  exact Q7 n 0 (by rw[if_pos (by omega)]) (by rw[e];rfl)
theorem Aa6 (n:Int):R8 n=H5 n:=by
  rcases Int.lt_or_le n 0 with c0|c0
  · exact Bl0 n c0
  rcases Int.lt_or_le n 32 with c1|c1
  · exact Bj0 n c0 c1
  rcases Int.lt_or_le n 127 with c2|c2
  · exact Bd3 n c1 c2
  rcases Int.lt_or_le n 160 with c3|c3
  · exact Bj6 n c2 c3
  rcases Int.lt_or_le n 768 with c4|c4
  · exact Bi4 n c3 c4
  rcases Int.lt_or_le n 880 with c5|c5
  · exact Be0 n c4 c5
  rcases Int.lt_or_le n 4352 with c6|c6
  · exact Bf6 n c5 c6
  rcases Int.lt_or_le n 4448 with c7|c7
  · exact Bm6 n c6 c7
  rcases Int.lt_or_le n 8203 with c8|c8
  · exact Bn3 n c7 c8
  rcases Int.lt_or_le n 8208 with c9|c9
  · exact Bm2 n c8 c9
  rcases Int.lt_or_le n 11904 with c10|c10
  · exact BY8 n c9 c10
  rcases Int.lt_or_le n 12351 with c11|c11
  · exact BV8 n c10 c11
  rcases Int.lt_or_le n 12353 with c12|c12
  · exact BX6 n c11 c12
  rcases Int.lt_or_le n 19904 with c13|c13
  · exact BW7 n c12 c13
  rcases Int.lt_or_le n 19968 with c14|c14
  · exact BM7 n c13 c14
  rcases Int.lt_or_le n 42192 with c15|c15
  · exact BU8 n c14 c15
  rcases Int.lt_or_le n 44032 with c16|c16
  · exact BR6 n c15 c16
  rcases Int.lt_or_le n 55204 with c17|c17
  · exact BQ4 n c16 c17
  rcases Int.lt_or_le n 55296 with c18|c18
  · exact BN1 n c17 c18
  rcases Int.lt_or_le n 57344 with c19|c19
  · exact BX2 n c18 c19
  rcases Int.lt_or_le n 63744 with c20|c20
  · exact BW2 n c19 c20
  rcases Int.lt_or_le n 64256 with c21|c21
  · exact BS1 n c20 c21
  rcases Int.lt_or_le n 65024 with c22|c22
  · exact BW6 n c21 c22
  rcases Int.lt_or_le n 65040 with c23|c23
  · exact BS0 n c22 c23
  rcases Int.lt_or_le n 65072 with c24|c24
  · exact BZ4 n c23 c24
  rcases Int.lt_or_le n 65136 with c25|c25
  · exact Bb0 n c24 c25
  rcases Int.lt_or_le n 65280 with c26|c26
  · exact BQ8 n c25 c26
  rcases Int.lt_or_le n 65377 with c27|c27
  · exact BP3 n c26 c27
  rcases Int.lt_or_le n 65504 with c28|c28
  · exact BP7 n c27 c28
  rcases Int.lt_or_le n 65511 with c29|c29
  · exact BN3 n c28 c29
  rcases Int.lt_or_le n 127744 with c30|c30
  · exact BN5 n c29 c30
  rcases Int.lt_or_le n 128592 with c31|c31
  · exact BV1 n c30 c31
  rcases Int.lt_or_le n 129280 with c32|c32
  · exact BZ5 n c31 c32
  rcases Int.lt_or_le n 129536 with c33|c33
  · exact BR1 n c32 c33
  rcases Int.lt_or_le n 131072 with c34|c34
  · exact BV4 n c33 c34
  rcases Int.lt_or_le n 262142 with c35|c35
  · exact BP5 n c34 c35
  rcases Int.lt_or_le n 1114112 with c36|c36
  · exact BU1 n c35 c36
  exact BN4 n c36
end
section
set_option maxHeartbeats 1000000
attribute [local irreducible] SW SL SQ AtQ SV SC BB LD PK Yields SO SOT SOA SY
theorem AK6 (G:Ctx) (H:List Ent) (x:Int):SV Tryz.prog G 112 [.int .i64 x] H (.int .i64 (H5 x)):=
  AA4 (j6 Tryz.func112 rfl rfl) fun w _=>by rw[←Aa6];exact BA5 x w
end
end Go.Proofs.YtmmnimagbnlcmaaGreatDoor
section
namespace Go.Fw
open Go Go.RowKit Go.Sx
/-- A cell: its rune, and its pen's flags, foreground and background. -/
abbrev Qd:=Int×Int×Int×Int
def qd (q:Qd):List Value:=[.int .i64 q.1,.int .i64 q.2.1,.int .i64 q.2.2.1,.int .i64 q.2.2.2]
def qds (C:List Qd):List Value:=C.flatMap qd
abbrev qz:Qd:=(0,0,0,0)
theorem AY2 (q:Qd):(qd q).length=4:=rfl
theorem AH4 (q:Qd) (C:List Qd):qds (q::C)=qd q++qds C:=by simp [qds]
theorem AE2 (C D:List Qd):qds (C++D)=qds C++qds D:=by simp [qds]
theorem Z4:∀C:List Qd,(qds C).length=C.length * 4
  | []=>rfl
  | q::C=>by rw[AH4,List.length_append,Z4 C,AY2,List.length_cons];omega
theorem AL9:∀(k:Nat) (C:List Qd),(qds C).drop (k * 4)=qds (C.drop k)
  | 0,C=>by simp
  | k+1,[]=>by simp [qds]
  | k+1,q::C=>by
    rw[AH4,show (k+1) * 4=(qd q).length+k * 4 from by rw[AY2];omega,List.drop_length_add_append,AL9 k C]
    rfl
theorem AL6:∀(k:Nat) (C:List Qd),(qds C).take (k * 4)=qds (C.take k)
  | 0,C=>by simp [qds]
  | k+1,[]=>by simp [qds]
  | k+1,q::C=>by
    rw[AH4,show (k+1) * 4=(qd q).length+k * 4 from by rw[AY2];omega,List.take_length_add_append,AL6 k C,List.take_succ_cons,AH4]
theorem BX7 (C:List Qd) (q m:Nat) (l h:Int) (hl:l=q) (hh:h=q+m):((qds C).drop (l.toNat * 4)).take ((h.toNat-l.toNat) * 4)=qds ((C.drop q).take m):=by
  rw[show l.toNat=q from by omega,show h.toNat-q=m from by omega,AL9,AL6]
theorem AO1 {C:List Qd} {k:Nat} (hk:k<C.length):C.drop k=C.getD k qz::C.drop (k+1):=by
  rw[List.drop_eq_getElem_cons hk,List.getD_eq_getElem?_getD,List.getElem?_eq_getElem hk]
  rfl
theorem Bc4 {C:List Qd} {k:Nat} (j:Nat) (hk:k<C.length) (hj:j<4):(qds C)[k * 4+j]? =(qd (C.getD k qz))[j]? :=by
  rw[←List.getElem?_drop,AL9,AO1 hk,AH4,List.getElem?_append_left (by rw[AY2];exact hj)]
theorem Bf9 {C:List Qd} {k:Nat} (hk:k<C.length):take? ((qds C).drop (k * 4)) 4=some (qd (C.getD k qz)):=by
  rw[AL9,AO1 hk,AH4]
  simp [take?,qd]
theorem B13 {C:List Qd} {k:Nat} (hk:k<C.length):take? ((qds C).drop (k * 4+1)) 3=some [.int .i64 (C.getD k qz).2.1,.int .i64 (C.getD k qz).2.2.1,.int .i64 (C.getD k qz).2.2.2]:=by
  rw[←List.drop_drop,AL9,AO1 hk,AH4]
  simp [take?,qd]
theorem Be1 {C:List Qd} {k:Nat} (q:Qd) (hk:k<C.length):over (qds C) (k * 4) (qd q)=qds (C.set k q):=by
  unfold over
  rw[AL6,AY2,show k * 4+4=(k+1) * 4 from by omega,AL9,List.set_eq_take_append_cons_drop,if_pos hk,AE2,AH4,List.append_assoc]
theorem Aq6 (C:List Qd):(qds C).all (·.oneCell')=true:=by
  unfold qds
  rw[List.all_flatMap]
  exact List.all_eq_true.2 fun _ _=>rfl
/-- The other half of the sign ahead. -/
def tailP (C:List Qd) (k:Nat):Prop:=k<C.length∧(C.getD k qz).1=0∧(C.getD k qz).2=(C.getD (k-1) qz).2
instance (C:List Qd) (k:Nat):Decidable (tailP C k):=by unfold tailP;infer_instance
/-- Half of nothing. -/
def loneB (wd:Int→Int) (C:List Qd) (i:Nat):Bool:=
  if (C.getD i qz).1=0 then decide (i=0∨wd (C.getD (i-1) qz).1≠2∨¬tailP C i) else decide (wd (C.getD i qz).1=2∧¬tailP C (i+1))
end Go.Fw
namespace Go.Proofs.YtmmnimagbnlcmaaGreatDoor
open Go Go.RowKit Go.Fw Go.Sx
set_option maxRecDepth 100000
set_option maxHeartbeats 1000000
attribute [local irreducible] SW SL SQ AtQ SV SC BB LD PK Yields SO SOT SOA SY
def sizeE (w h:Int):Int:=if 1≤w∧w≤160∧1≤h∧h≤60 then 0 else 1
theorem AV4 (G:Ctx) (H:List Ent) (w h:Int):SV Tryz.prog G 111 [.int .i64 w,.int .i64 h] H (.int .i64 (sizeE w h)):=by
  unfold sizeE
  refine P7 Tryz.func111 rfl rfl rfl rfl rfl ?_
  repeat' (first|(apply F3;first|(apply C8;refine A8 ?_)|(apply C9;refine D8 rfl rfl ?_)|(apply E5;refine F5 rfl rfl rfl ?_;refine F7 rfl ?_)|(apply D6;refine D9 rfl rfl ?_)|(apply I6;refine I9 rfl rfl ?_;first|(apply Q9;refine Q8 rfl ?_)|(apply O1;refine O3 rfl ?_))|(apply I1;refine J9 rfl rfl rfl rfl ?_;first|(apply I7)|(apply X9)|(apply O8<;>intro hq<;>(try (exfalso;omega)))))|(apply D7)|(apply G9)|(apply H7)|(apply A7)|(refine G5 rfl ?_;first|(apply I7)|(apply E9<;>intro hq<;>(try (exfalso;omega))))|(apply D5)|(apply J4))
  all_goals (refine M3 (by (exact .inr rfl)) rfl N7 ?_;first|exact B82 (by omega) rfl|exact CB6 (by omega) rfl)
theorem BC9 (d:Nat) (x y z x' y' z':Int) (b:Bool) (h:b=decide ((x,y,z)=(x',y',z'))):EqVal Tryz.prog (d+1+1) 31 (.agg [.int .i64 x,.int .i64 y,.int .i64 z].toArray) (.agg [.int .i64 x',.int .i64 y',.int .i64 z'].toArray) b:=by
  have hfs:Tryz.prog.fieldsOf 31=(match Tryz.prog.underlying 31 with|some (.struct fs)=>fs|_=>#[]):=rfl
  refine Ae3 (d:=d+1) (by rw[hfs,Tryz.underlying31]) (by kernel_rfl) ?_
  rw[hfs,Tryz.underlying31]
  have ne:∀a b:Int,¬a=b→EqVal Tryz.prog (d+1) 3 (.int .i64 a) (.int .i64 b) false:=fun a b hab=>by
    have:=Ar7 (P:=Tryz.prog) (t:=3) (d:=d) (k:= .i64) a b
    rwa [show (a==b)=false from by simpa using hab] at this
  by_cases hx:x=x'
  · subst hx
    refine .eq (by decide) (u:= .int .i64 x) (v:= .int .i64 x) (AA0 rfl) (AA0 rfl) (AR8 _) ?_
    by_cases hy:y=y'
    · subst hy
      refine .eq (by decide) (u:= .int .i64 y) (v:= .int .i64 y) (AA0 rfl) (AA0 rfl) (AR8 _) ?_
      by_cases hz:z=z'
      · subst hz
        rw[h,decide_eq_true rfl]
        exact .eq (by decide) (u:= .int .i64 z) (v:= .int .i64 z) (AA0 rfl) (AA0 rfl) (AR8 _) .nil
      · rw[h,decide_eq_false (by simp [hz])]
        exact .ne (by decide) (u:= .int .i64 z) (v:= .int .i64 z') (AA0 rfl) (AA0 rfl) (ne _ _ hz)
    · rw[h,decide_eq_false (by simp [hy])]
      exact .ne (by decide) (u:= .int .i64 y) (v:= .int .i64 y') (AA0 rfl) (AA0 rfl) (ne _ _ hy)
  · rw[h,decide_eq_false (by simp [hx])]
    exact .ne (by decide) (u:= .int .i64 x) (v:= .int .i64 x') (AA0 rfl) (AA0 rfl) (ne _ _ hx)
theorem Ay2 (x y z x' y' z':Int) (b:Bool) (h:b=decide ((x,y,z)=(x',y',z'))):EqVal Tryz.prog 10000 31 (.agg [.int .i64 x,.int .i64 y,.int .i64 z].toArray) (.agg [.int .i64 x',.int .i64 y',.int .i64 z'].toArray) b:=BC9 9998 x y z x' y' z' b h
theorem Bv4 (x y z x' y' z':Int) (b:Bool) (h:b=decide ((x,y,z)=(x',y',z'))):EqVal Tryz.prog 9999 31 (.agg [.int .i64 x,.int .i64 y,.int .i64 z].toArray) (.agg [.int .i64 x',.int .i64 y',.int .i64 z'].toArray) b:=BC9 9997 x y z x' y' z' b h
theorem Ap0 {C:List Qd} {i:Int} (hi:i.toNat<C.length):(qds C)[i.toNat * 4+0]? =some (.int .i64 (C.getD i.toNat qz).1):=Bc4 0 hi (by decide)
theorem A28 {C:List Qd} {i:Int} (hi:i.toNat<C.length):take? ((qds C).drop (i.toNat * 4+1)) 3=some [.int .i64 (C.getD i.toNat qz).2.1,.int .i64 (C.getD i.toNat qz).2.2.1,.int .i64 (C.getD i.toNat qz).2.2.2]:=B13 hi
theorem Aw7 {C:List Qd} {i:Int} (hi:i.toNat<C.length):i.toNat * 4<(qds C).length:=by rw[Z4];omega
theorem BE3 (G:Ctx) (H:List Ent) (C:List Qd) {vs:List Value} (a:Option Addr) (n c b k:Nat) [hB:HasBlk H b 27 [.slice a n c]] [h1:RdC G H a vs] (hv:vs=qds C) (hn:n=C.length) (hm:n≤100000) (hk:1≤k∧k≤n):SV Tryz.prog G 173 [.int .i64 k,.pointer (some ⟨b,0,none⟩)] H (.bool (decide (tailP C k))):=by
  subst hv
  have hlx:(qds C).length=n * 4:=by rw[Z4,hn]
  by_cases h2:k<n
  · have hc:=Ap0 (C:=C) (i:=(k:Int)) (by omega)
    have hp:=A28 (C:=C) (i:=(k:Int)) (by omega)
    have hp1:=A28 (C:=C) (i:=(k:Int)-1) (by omega)
    have hl:=Aw7 (C:=C) (i:=(k:Int)) (by omega)
    have hl1:=Aw7 (C:=C) (i:=(k:Int)-1) (by omega)
    have e1:((k:Int)-1).toNat=k-1:=by omega
    have hE:=Ay2 (C.getD (k:Int).toNat qz).2.1 (C.getD (k:Int).toNat qz).2.2.1 (C.getD (k:Int).toNat qz).2.2.2 (C.getD ((k:Int)-1).toNat qz).2.1 (C.getD ((k:Int)-1).toNat qz).2.2.1 (C.getD ((k:Int)-1).toNat qz).2.2.2 _ rfl
    have ht:decide (tailP C k)=(decide ((C.getD (k:Int).toNat qz).1=0)&&decide (((C.getD (k:Int).toNat qz).2.1,(C.getD (k:Int).toNat qz).2.2.1,(C.getD (k:Int).toNat qz).2.2.2)=((C.getD ((k:Int)-1).toNat qz).2.1,(C.getD ((k:Int)-1).toNat qz).2.2.1,(C.getD ((k:Int)-1).toNat qz).2.2.2))):=by
      rw[e1,Int.toNat_natCast]
      refine Bool.eq_iff_iff.2 ⟨fun h=>?_,fun h=>?_⟩
      · have h:=of_decide_eq_true h
        rw[Bool.and_eq_true]
        exact⟨decide_eq_true h.2.1,decide_eq_true h.2.2⟩
      · rw[Bool.and_eq_true] at h
        exact decide_eq_true ⟨by omega,of_decide_eq_true h.1,of_decide_eq_true h.2⟩
    rw[ht]
    clear ht
    generalize C.getD (k:Int).toNat qz=q at *
    generalize C.getD ((k:Int)-1).toNat qz=q1 at *
    obtain⟨r,x,y,z⟩:=q
    obtain⟨r1,x1,y1,z1⟩:=q1
    dsimp only at *
    generalize decide ((x,y,z)=(x1,y1,z1))=B at *
    refine P7 Tryz.func173 rfl rfl rfl rfl rfl ?_
    repeat' (first|(apply F3;first|(apply C8;refine A8 ?_)|(apply D6;refine D9 rfl rfl ?_))|(apply AN1;first|(apply AF4;refine AF2 ?_)|(apply AE3;refine AG6 rfl rfl ?_)|(apply AG3;refine AK5 rfl rfl rfl ?_;first|(refine A05 hE (by kernel_rfl) ?_)|(first|(apply y9;refine AA2 ⟨by omega,by omega⟩ ?_)|refine F7 rfl ?_))|(apply AE1;first|(refine AE9 rfl rfl ?_;refine G6 rfl ?_)|(refine AE9 rfl rfl ?_;first|refine X5 hc ?_ |refine Y5 hp rfl ?_ |refine Y5 hp1 rfl ?_))|(apply AG4;refine AK1 rfl rfl ?_)|(apply BF9;refine BX8 rfl rfl ?_;first|(apply Q9;refine Q8 rfl ?_)|(apply O1;refine O3 rfl ?_))|(apply AK0;refine AH6 (K6 rfl rfl rfl hlx (by omega) (by omega)) rfl ?_)|(apply Bq6;refine Ba0 (Q5 rfl rfl) rfl ?_)|(apply A52;refine Bq3 rfl rfl rfl rfl ?_;first|(apply I7)|(apply I5)|(apply E9<;>intro hq<;>(try (exfalso;omega))))|(first|(refine AI8 (AL8 rfl rfl hl) rfl ?_)|(refine AI8 (AL8 rfl rfl hl1) rfl ?_)))|(apply D7)|(apply H7)|(apply A7)|(apply D5)|refine AC9 (by kernel_rfl) ?_)
    · rw[decide_eq_true hq,Bool.true_and]
      refine M3 (by (exact .inr rfl)) rfl N7 ?_
      rfl
    · rw[decide_eq_false hq,Bool.false_and]
      refine M3 (by (exact .inr rfl)) rfl N7 ?_
      rfl
  · rw[decide_eq_false (fun h=>h2 (by rw[hn];exact h.1))]
    clear hlx
    refine P7 Tryz.func173 rfl rfl rfl rfl rfl ?_
    repeat' (first|(apply F3;first|(apply C8;refine A8 ?_)|(apply D6;refine D9 rfl rfl ?_))|(apply AN1;first|(apply AF4;refine AF2 ?_)|(apply AE3;refine AG6 rfl rfl ?_)|(apply AG3;refine AK5 rfl rfl rfl ?_;refine F7 rfl ?_)|(apply AE1;refine AE9 rfl rfl ?_;refine G6 rfl ?_)|(apply AG4;refine AK1 rfl rfl ?_)|(apply BF9;refine BX8 rfl rfl ?_;apply O1;refine O3 rfl ?_)|(apply Bq6;refine Ba0 (Q5 rfl rfl) rfl ?_)|(apply A52;refine Bq3 rfl rfl rfl rfl ?_;first|(apply I5)|(apply E9<;>intro hq<;>(try (exfalso;omega)))))|(apply D7)|(apply H7)|(apply A7)|(apply D5)|refine AC9 (by kernel_rfl) ?_)
    all_goals (refine M3 (by (exact .inr rfl)) rfl N7 ?_;rfl)
theorem Bm4 (wd:Int→Int) (C:List Qd) (i:Nat):loneB wd C i=(if (C.getD i qz).1=0 then (decide (i=0)||(decide (wd (C.getD (i-1) qz).1≠2)||!decide (tailP C i))) else (decide (wd (C.getD i qz).1=2)&&!decide (tailP C (i+1)))):=by
  unfold loneB
  split
  · rw[Bool.eq_iff_iff];simp
  · rw[Bool.eq_iff_iff];simp
theorem BE4 (G:Ctx) (H:List Ent) (C:List Qd) {vs:List Value} (a:Option Addr) (n c i:Nat) [h1:RdC G H a vs] (hv:vs=qds C) (hn:n=C.length) (hm:n≤100000) (hi:i<n):SV Tryz.prog G 113 [.slice a n c,.int .i64 i] H (.bool (loneB H5 C i)):=by
  subst hv
  have hlx:(qds C).length=n * 4:=by rw[Z4,hn]
  have hc:=Ap0 (C:=C) (i:=(i:Int)) (by omega)
  have hc1:=Ap0 (C:=C) (i:=(i:Int)-1) (by omega)
  have hl:=Aw7 (C:=C) (i:=(i:Int)) (by omega)
  have hl1:=Aw7 (C:=C) (i:=(i:Int)-1) (by omega)
  have cW:=fun H x=>AK6 G H x
  have cT:=fun (H:List Ent) (b:Nat) [HasBlk H b 27 [.slice a n c]] [RdC G H a (qds C)] (h:1≤i)=>BE3 G H C a n c b i rfl hn hm ⟨h,by omega⟩
  have cT2:=fun (H:List Ent) (b:Nat) [HasBlk H b 27 [.slice a n c]] [RdC G H a (qds C)]=>show SV Tryz.prog G 173 [.int .i64 ((i:Int)+1),.pointer (some ⟨b,0,none⟩)] H (.bool (decide (tailP C (i+1)))) from BE3 G H C a n c b (i+1) rfl hn hm ⟨by omega,by omega⟩
  rw[Bm4]
  have e1:((i:Int)-1).toNat=i-1:=by omega
  rw[e1] at hc1
  rw[Int.toNat_natCast] at hc
  have hc1':(qds C)[((i:Int)-1).toNat * 4+0]? =some (.int .i64 (C.getD (i-1) qz).1):=by rw[e1];exact hc1
  have hc':(qds C)[(i:Int).toNat * 4+0]? =some (.int .i64 (C.getD i qz).1):=by rw[Int.toNat_natCast];exact hc
  generalize (C.getD i qz).1=r at *
  generalize (C.getD (i-1) qz).1=r1 at *
  generalize decide (tailP C i)=B1 at *
  generalize decide (tailP C (i+1))=B2 at *
  clear hc hc1 e1
  by_cases hr:r=0
  · rw[if_pos hr]
    subst hr
    generalize hw:H5 r1=w1 at *
    have cW1:=fun H=>cW H r1
    rw[hw] at cW1
    clear cT2 cW hw
    refine P7 Tryz.func113 rfl rfl rfl rfl rfl ?_
    repeat' (first|(apply F3;first|(apply C8;refine A8 ?_)|(apply C9;refine D8 rfl rfl ?_)|(apply E5;refine F5 rfl rfl rfl ?_;first|(apply y9;refine AA2 ⟨by omega,by omega⟩ ?_)|refine F7 rfl ?_)|(apply F4;first|(refine F8 rfl rfl ?_;refine G6 rfl ?_)|(refine F8 rfl rfl ?_;first|refine X5 hc' ?_ |refine X5 hc1' ?_))|(apply D6;refine D9 rfl rfl ?_)|(apply I6;refine I9 rfl rfl ?_;first|(apply Q9;refine Q8 rfl ?_)|(apply O1;refine O3 rfl ?_))|(apply Y0;refine Z8 (Z7 rfl rfl rfl) rfl ?_)|(apply M4;refine N9 (K6 rfl rfl rfl hlx (by omega) (by omega)) rfl ?_)|(apply H6;refine F9 rfl rfl rfl (cW1 _) rfl rfl ?_)|(apply K9;refine O5 rfl rfl rfl rfl rfl rfl (fun _=>?_))|(apply I1;refine J9 rfl rfl rfl rfl ?_;first|(apply I7)|(apply X9)|(apply O8<;>intro hq<;>(try (exfalso;omega)))|(apply AP0<;>intro hq<;>(try (exfalso;omega))))|(first|(refine A65 (Az4 rfl rfl rfl) rfl ?_)|(refine G8 (AL8 rfl rfl hl) rfl ?_)|(refine G8 (AL8 rfl rfl hl1) rfl ?_)|(refine AJ5 rfl rfl rfl rfl (cT _ _ (by omega)) rfl rfl ?_)))|(apply D7)|(apply H7)|(apply A7)|(refine G5 rfl ?_;apply I7)|(apply D5)|(apply J4))
    all_goals
      refine M3 (by (exact .inr rfl)) rfl N7 ?_
      first
        | (have h0:i=0:=(by omega)
           simp [h0,resV]
           done)
        | (have h0:¬i=0:=(by omega)
           simp [h0,hq,resV]
           done)
  · rw[if_neg hr]
    generalize hw:H5 r=w at *
    have cW1:=fun H=>cW H r
    rw[hw] at cW1
    clear cT cW hw
    refine P7 Tryz.func113 rfl rfl rfl rfl rfl ?_
    repeat' (first|(apply F3;first|(apply C8;refine A8 ?_)|(apply C9;refine D8 rfl rfl ?_)|(apply E5;refine F5 rfl rfl rfl ?_;first|(apply M0;refine L9 ⟨by omega,by omega⟩ ?_)|refine F7 rfl ?_)|(apply F4;first|(refine F8 rfl rfl ?_;refine G6 rfl ?_)|(refine F8 rfl rfl ?_;refine X5 hc' ?_))|(apply D6;refine D9 rfl rfl ?_)|(apply I6;refine I9 rfl rfl ?_;first|(apply Q9;refine Q8 rfl ?_)|(apply O1;refine O3 rfl ?_))|(apply Y0;refine Z8 (Z7 rfl rfl rfl) rfl ?_)|(apply M4;refine N9 (K6 rfl rfl rfl hlx (by omega) (by omega)) rfl ?_)|(apply H6;refine F9 rfl rfl rfl (cW1 _) rfl rfl ?_)|(apply K9;refine O5 rfl rfl rfl rfl rfl rfl (fun _=>?_))|(apply I1;refine J9 rfl rfl rfl rfl ?_;first|(apply I7)|(apply I5)|(apply E9<;>intro hq<;>(try (exfalso;omega))))|(first|(refine A65 (Az4 rfl rfl rfl) rfl ?_)|(refine G8 (AL8 rfl rfl hl) rfl ?_)|(refine AJ5 rfl rfl rfl rfl (cT2 _ _) rfl rfl ?_)))|(apply D7)|(apply G9)|(apply H7)|(apply A7)|(refine G5 rfl ?_;apply E9<;>intro hq<;>(try (exfalso;omega)))|(apply D5))
    all_goals
      refine M3 (by (exact .inr rfl)) rfl N7 ?_
      simp [hq,resV]
end Go.Proofs.YtmmnimagbnlcmaaGreatDoor
namespace Go.Proofs.YtmmnimagbnlcmaaGreatDoor
open Go Go.RowKit Go.Fw Go.Sx
set_option maxRecDepth 100000
set_option maxHeartbeats 1000000
attribute [local irreducible] SW SL SQ AtQ SV SC BB LD PK Yields SO SOT SOA SY
theorem AQ5 (G:Ctx) (H:List Ent) (C:List Qd) {vs:List Value} (a:Option Addr) (n c:Nat) [h1:RdC G H a vs] (hv:vs=qds C) (hn:n=C.length) (hm:n≤100000):SC Tryz.prog G 64 [.slice a n c] H fun v H'=>∃a' c',v= .slice a' n c'∧H'= .own 97 4 a' n c' (qds C)::H:=by
  subst hv
  have hlx:(qds C).length=n * 4:=by rw[Z4,hn]
  have hone:=Aq6 C
  refine Af9 (j6 Tryz.func64 rfl rfl) fun w0 hw0=>?_
  cases a with
  | none=>
    have h0:=At.none_nil (h1.here w0 hw0)
    have hl0:C.length=0:=by
      have:=congrArg List.length h0
      rw[Z4,List.length_nil] at this
      omega
    obtain rfl:C=[]:=List.eq_nil_of_length_eq_zero hl0
    obtain rfl:n=0:=hn
    clear h0 hlx hone
    refine Y3 Tryz.func64 rfl rfl rfl rfl rfl ?_
    repeat' (first|(apply F3;first|(apply C8;refine A8 ?_)|(apply C9;refine D8 rfl rfl ?_)|(apply E5;refine F5 rfl rfl rfl ?_;refine AS0 ?_)|(apply D6;refine D9 rfl rfl ?_))|(apply D7)|(apply H7)|(apply A7)|(refine G5 rfl ?_;apply I7)|(apply D5)|(apply J4))
    · exact M9 (.own 97 4 none 0 0 []::H) (.inr rfl) rfl (fun _ hw=>hw.nilrow _ _) ⟨_,_,rfl,rfl⟩
  | some a=>
    clear hn
    refine Y3 Tryz.func64 rfl rfl rfl rfl rfl ?_
    repeat' (first|(apply F3;first|(apply C8;refine A8 ?_)|(apply C9;refine D8 rfl rfl ?_)|(apply E5;refine F5 rfl rfl rfl ?_;refine AS0 ?_)|(apply D6;refine D9 rfl rfl ?_)|(apply J5;refine R6 rfl rfl rfl rfl hlx hone (by omega) rfl rfl (fun _ _=>?_))|(apply V8;refine A83 rfl rfl rfl rfl (fun _=>?_)))|(apply D7)|(apply G9)|(apply H7)|(apply A7)|(refine G5 rfl ?_;apply I5)|(apply D5))
    refine AG7 _ (.inr rfl) rfl (List.Sublist.refl _) ?_
    simp only[Nat.zero_add,List.nil_append]
    exact⟨_,_,rfl,rfl⟩
theorem B57 (q q':Qd) (b:Bool) (h:b=decide (q=q')):EqVal Tryz.prog 10000 97 (.agg (qd q).toArray) (.agg (qd q').toArray) b:=by
  obtain⟨r,x,y,z⟩:=q
  obtain⟨r',x',y',z'⟩:=q'
  have hfs:Tryz.prog.fieldsOf 97=(match Tryz.prog.underlying 97 with|some (.struct fs)=>fs|_=>#[]):=rfl
  refine Ae3 (d:=9999) (by rw[hfs,Tryz.underlying97]) (by kernel_rfl) ?_
  rw[hfs,Tryz.underlying97]
  by_cases hr:r=r'
  · subst hr
    refine .eq (by decide) (u:= .int .i64 r) (v:= .int .i64 r) (AA0 rfl) (AA0 rfl) (AR8 _) ?_
    have hp:=Bv4 x y z x' y' z' _ rfl
    by_cases hE:(x,y,z)=(x',y',z')
    · rw[decide_eq_true hE] at hp
      rw[h,decide_eq_true (by simp only[Prod.mk.injEq] at hE ⊢;exact⟨trivial,hE⟩)]
      exact .eq (by decide) (AY3 (sz:=3) rfl) (AY3 (sz:=3) rfl) hp .nil
    · rw[decide_eq_false hE] at hp
      rw[h,decide_eq_false (by simp only[Prod.mk.injEq] at hE ⊢;exact fun e=>hE e.2)]
      exact .ne (by decide) (AY3 (sz:=3) rfl) (AY3 (sz:=3) rfl) hp
  · rw[h,decide_eq_false (by simp [hr])]
    refine .ne (by decide) (u:= .int .i64 r) (v:= .int .i64 r') (AA0 rfl) (AA0 rfl) ?_
    have:=Ar7 (P:=Tryz.prog) (t:=3) (d:=9998) (k:= .i64) r r'
    rwa [show (r==r')=false from by simpa using hr] at this
theorem Af0 {C:List Qd} {i:Int} (hi:i.toNat<C.length):take? ((qds C).drop (i.toNat * 4)) 4=some (qd (C.getD i.toNat qz)):=Bf9 hi
theorem Ab6 (G:Ctx) (H:List Ent) (C D:List Qd) {vs us:List Value} (a a2:Option Addr) (n m c c2:Nat) [h1:RdC G H a vs] [h2:RdC G H a2 us] (hv:vs=qds C) (hu:us=qds D) (hn:n=C.length) (hm:m=D.length) (hb:n≤100000) (hb2:m≤100000):SV Tryz.prog G 35 [.slice a n c,.slice a2 m c2] H (.bool (decide (C=D))):=by
  subst hv hu
  have hlx:(qds C).length=n * 4:=by rw[Z4,hn]
  have hly:(qds D).length=m * 4:=by rw[Z4,hm]
  by_cases hnm:n=m
  · subst hnm
    have hec:=fun j (hj:j<n)=>Af0 (C:=C) (i:=(j:Int)) (by omega)
    have hed:=fun j (hj:j<n)=>Af0 (C:=D) (i:=(j:Int)) (by omega)
    have hall:(∀j,j<n→C.getD j qz=D.getD j qz)→C=D:=fun h=>List.ext_getElem (by omega) fun j h1 h2=>by
      have:=h j (by omega)
      rw[List.getD_eq_getElem?_getD,List.getD_eq_getElem?_getD,List.getElem?_eq_getElem h1,List.getElem?_eq_getElem h2] at this
      exact this
    have Hec:=Lib.hid hec
    have Hed:=Lib.hid hed
    have Hall:=Lib.hid hall
    clear hec hed hall hn hm
    refine P7 Tryz.func35 rfl rfl rfl rfl rfl ?_
    repeat' (first|(apply F3;first|(apply C8;refine A8 ?_)|(apply C9;refine D8 rfl rfl ?_)|(apply E5;refine F5 rfl rfl rfl ?_;refine F7 rfl ?_)|(apply D6;refine D9 rfl rfl ?_)|(apply J5;refine s_call (Q5 rfl rfl) rfl ?_))|(apply D7)|(apply G9)|(apply F6)|(apply A7)|(refine G5 rfl ?_;apply X6<;>intro hq<;>(try (exfalso;omega)))|(apply D5))
    refine R9 (α:=Nat) (fun j=>[(0,.slice a n c),(1,.slice a2 n c2),(12,.int .i64 n),(13,.int .i64 j)]) (fun _=>H)
      (fun j=>j≤n∧∀i,i<j→C.getD i qz=D.getD i qz) (fun j=>n-j) 0 ⟨Nat.zero_le _,fun i hi=>absurd hi (Nat.not_lt_zero _)⟩ (by repeat (first|exact Le.nil _|refine Le.cons (by (rfl)) ?_)) I8 ?_
    rintro j ⟨hj,hs⟩
    have Hs:=Lib.hid hs
    clear hs
    by_cases hlt:(j:Int)<n
    · have he1:=Hec.out j (by omega)
      have he2:=Hed.out j (by omega)
      have hE:=B57 (C.getD (j:Int).toNat qz) (D.getD (j:Int).toNat qz) _ rfl
      rw[Int.toNat_natCast] at hE
      rw[show C.getD (j:Int).toNat qz=C.getD j qz from by rw[Int.toNat_natCast]] at he1
      rw[show D.getD (j:Int).toNat qz=D.getD j qz from by rw[Int.toNat_natCast]] at he2
      by_cases hqq:C.getD j qz=D.getD j qz
      · rw[decide_eq_true hqq] at hE
        repeat' (first|(apply F3;first|(apply C8;refine A8 ?_)|(apply C9;refine D8 rfl rfl ?_)|(apply E5;refine F5 rfl rfl rfl ?_;first|(apply M0;refine L9 ⟨by omega,by omega⟩ ?_)|refine F7 rfl ?_)|(apply D6;refine D9 rfl rfl ?_))|(apply AN1;first|(apply AF4;refine AF2 ?_)|(apply AE3;refine AG6 rfl rfl ?_)|(apply AG3;refine AK5 rfl rfl rfl ?_;refine Ba5 hE (by kernel_rfl) ?_)|(apply AE1;refine AE9 rfl rfl ?_;first|refine Y5 he1 rfl ?_ |refine Y5 he2 rfl ?_)|(apply AK0;first|(refine AH6 (K6 rfl rfl rfl hlx (by omega) (by omega)) rfl ?_)|(refine AH6 (K6 rfl rfl rfl hly (by omega) (by omega)) rfl ?_)))|(apply D7)|(apply G9)|(apply F6)|(apply A7)|(refine G5 rfl ?_;first|(apply I5)|(apply E9<;>intro hq<;>(try (exfalso;omega))))|(apply D5)|(apply J2)|refine AC9 (by kernel_rfl) ?_)
        refine J6 (j+1) ⟨⟨by omega,fun i hi=>?_⟩,by omega⟩ (by repeat (first|exact Le.nil _|refine Le.cons (by (rfl)) ?_)) I8
        rcases Nat.lt_or_ge i j with h|h
        · exact Hs.out i h
        · obtain rfl:i=j:=by omega
          exact hqq
      · rw[decide_eq_false hqq] at hE
        repeat' (first|(apply F3;first|(apply C8;refine A8 ?_)|(apply C9;refine D8 rfl rfl ?_)|(apply E5;refine F5 rfl rfl rfl ?_;refine F7 rfl ?_)|(apply D6;refine D9 rfl rfl ?_))|(apply AN1;first|(apply AF4;refine AF2 ?_)|(apply AE3;refine AG6 rfl rfl ?_)|(apply AG3;refine AK5 rfl rfl rfl ?_;refine Ba5 hE (by kernel_rfl) ?_)|(apply AE1;refine AE9 rfl rfl ?_;first|refine Y5 he1 rfl ?_ |refine Y5 he2 rfl ?_)|(apply AK0;first|(refine AH6 (K6 rfl rfl rfl hlx (by omega) (by omega)) rfl ?_)|(refine AH6 (K6 rfl rfl rfl hly (by omega) (by omega)) rfl ?_)))|(apply D7)|(apply G9)|(apply H7)|(apply F6)|(apply A7)|(refine G5 rfl ?_;first|(apply I7)|(apply E9<;>intro hq<;>(try (exfalso;omega))))|(apply D5)|(apply J4)|(apply U1)|refine AC9 (by kernel_rfl) ?_)
        refine M3 (by (exact .inr rfl)) rfl N7 ?_
        rw[decide_eq_false (fun e=>hqq (by rw[e]))]
        rfl
    · obtain rfl:j=n:=by omega
      repeat' (first|(apply F3;first|(apply C8;refine A8 ?_)|(apply E5;refine F5 rfl rfl rfl ?_;refine F7 rfl ?_)|(apply D6;refine D9 rfl rfl ?_))|(apply D7)|(apply H7)|(apply N8)|(apply A7)|(refine G5 rfl ?_;apply E9<;>intro hq<;>(try (exfalso;omega)))|(apply D5)|(apply J7)|(apply J8))
      refine M3 (by (exact .inr rfl)) rfl N7 ?_
      rw[decide_eq_true (Hall.out Hs.out)]
      rfl
  · rw[decide_eq_false (fun e=>hnm (by rw[hn,hm,e]))]
    clear hlx hly
    refine P7 Tryz.func35 rfl rfl rfl rfl rfl ?_
    repeat' (first|(apply F3;first|(apply C8;refine A8 ?_)|(apply C9;refine D8 rfl rfl ?_)|(apply E5;refine F5 rfl rfl rfl ?_;refine F7 rfl ?_)|(apply D6;refine D9 rfl rfl ?_)|(apply J5;refine s_call (Q5 rfl rfl) rfl ?_))|(apply D7)|(apply H7)|(apply A7)|(refine G5 rfl ?_;apply X6<;>intro hq<;>(try (exfalso;omega)))|(apply D5)|(apply J4))
    all_goals (refine M3 (by (exact .inr rfl)) rfl N7 ?_;rfl)
abbrev gridV (w h:Int) (a:Option Addr) (n c:Nat):Value:= .agg [.int .i64 w,.int .i64 h,.slice a n c].toArray
theorem AN5 {w h k n:Nat} (hk:k<h) (hn:n=w * h):k * w+w≤n:=by
  have:=Nat.mul_le_mul_right w (show k+1≤h from hk)
  rw[Nat.succ_mul,Nat.mul_comm h w] at this
  omega
/-- Row k of a grid. -/
def rowQ (w:Nat) (C:List Qd) (k:Nat):List Qd:=(C.drop (k * w)).take w
theorem j5 {w h k:Nat} {C:List Qd} (hk:k<h) (hn:C.length=w * h):(rowQ w C k).length=w:=by
  unfold rowQ
  have:=AN5 hk hn
  rw[List.length_take,List.length_drop]
  omega
theorem Ak4 (G:Ctx) (H:List Ent) (C:List Qd) {vs:List Value} (a:Option Addr) (w h n c k:Nat) [h1:RdC G H a vs] (hv:vs=qds C) (hn:n=C.length) (hm:n≤100000) (hnc:n≤c) (hwh:n=w * h) (hw:1≤w∧w≤160) (hk:k<h) (hk2:k≤1000):SC Tryz.prog G 65 [gridV w h a n c,.int .i64 k] H fun v H'=>H'=H∧∃a' c',v= .slice a' w c'∧w≤c'∧RdC G H a' (qds (rowQ w C k)):=by
  subst hv
  have hlx:(qds C).length=n * 4:=by rw[Z4,hn]
  have hr:=AN5 hk hwh
  have e1:(k:Int) * (w:Int)=((k * w:Nat):Int):=by simp
  have e2:((k:Int)+1) * (w:Int)=((k * w+w:Nat):Int):=by rw[Int.add_mul];simp
  have hpc:((qds C).drop (((k:Int) * (w:Int)).toNat * 4)).take (((((k:Int)+1) * (w:Int)).toNat-((k:Int) * (w:Int)).toNat) * 4)=qds (rowQ w C k):=BX7 C (k * w) w _ _ e1 (by rw[e2];simp)
  have el:((((k:Int)+1) * (w:Int)).toNat-((k:Int) * (w:Int)).toNat)=w:=by rw[e1,e2];omega
  have ec:w≤c-((k:Int) * (w:Int)).toNat:=by rw[e1];omega
  generalize hp:k * w=p at *
  have hz:(Int.ofNat 0)≤(k:Int) * (w:Int):=by rw[e1];exact Int.natCast_nonneg _
  refine J3 Tryz.func65 rfl rfl rfl rfl rfl ?_
  repeat' (first|(apply F3;first|(apply C8;refine A8 ?_)|(apply C9;refine D8 rfl rfl ?_)|(apply E5;refine F5 rfl rfl rfl ?_;first|(refine AQ7 ⟨by omega,by omega⟩ ?_)|(apply M0;refine L9 ⟨by omega,by omega⟩ ?_))|(apply F4;refine F8 rfl rfl ?_;refine G6 rfl ?_)|(apply D6;refine D9 rfl rfl ?_)|(apply G7;refine G8 (E8 rfl rfl) rfl ?_)|(apply K9;refine O5 rfl rfl rfl rfl rfl rfl (fun _=>?_))|(apply o7;refine AD6 (Hr:=H) rfl rfl rfl rfl rfl RdC.here hlx (by omega) (by omega) (by omega) (by omega) rfl rfl (fun _ _=>?_)))|(apply D7)|(apply H7)|(apply A7)|(apply D5))
  rename_i b a' hI
  rw[hpc] at hI
  refine AG7 H (by (exact .inr rfl)) rfl N7 ?_
  refine⟨rfl,a',_,?_,ec,hI⟩
  exact congrArg (fun m=>Value.slice a' m (c-((k:Int) * (w:Int)).toNat)) el
end Go.Proofs.YtmmnimagbnlcmaaGreatDoor
namespace Go.Proofs.YtmmnimagbnlcmaaGreatDoor
open Go Go.RowKit Go.Fw Go.Sx
set_option maxRecDepth 100000
set_option maxHeartbeats 1000000
attribute [local irreducible] SW SL SQ AtQ SV SC BB LD PK Yields SO SOT SOA SY
def l7 (R:List Qd) (i:Nat):Bool:=penB (R.getD i qz).2.1 (R.getD i qz).2.2.1 (R.getD i qz).2.2.2&&((decide ((R.getD i qz).1=0)||!decide (H5 (R.getD i qz).1=0))&&!loneB H5 R i)
def A58 (w h:Nat) (C:List Qd):Bool:=(List.range h).all fun k=>(List.range w).all fun i=>l7 (rowQ w C k) i
def gridE (w h:Int) (C:List Qd):Int:=if sizeE w h=1 then 1 else if ¬(C.length:Int)=w * h then 4 else if A58 w.toNat h.toNat C=true then 0 else 4
theorem AY5 (w h:Nat) (C:List Qd):A58 w h C=true↔∀k,k<h→∀i,i<w→l7 (rowQ w C k) i=true:=by
  unfold A58
  rw[List.all_eq_true]
  constructor
  · intro H k hk i hi
    exact List.all_eq_true.1 (H k (List.mem_range.2 hk)) i (List.mem_range.2 hi)
  · intro H k hk
    exact List.all_eq_true.2 fun i hi=>H k (List.mem_range.1 hk) i (List.mem_range.1 hi)
theorem AL5 (w h:Int):sizeE w h=0∧(1≤w∧w≤160∧1≤h∧h≤60)∨sizeE w h=1∧¬(1≤w∧w≤160∧1≤h∧h≤60):=by
  unfold sizeE
  split
  · exact .inl ⟨rfl,by assumption⟩
  · exact .inr ⟨rfl,by assumption⟩
theorem Am1 {w h:Nat} {C:List Qd} (hs:sizeE w h=0) (hn:C.length=w * h) (hk:∀k,k<h→∀i,i<w→l7 (rowQ w C k) i=true):gridE w h C=0:=by
  unfold gridE
  rw[if_neg (by rw[hs];decide),if_neg (by rw[hn];simp),if_pos]
  rw[AY5]
  exact hk
theorem BT5 {w h:Nat} {C:List Qd} (hs:sizeE w h=0) (hn:C.length=w * h) {k i:Nat} (hk:k<h) (hi:i<w) (hb:l7 (rowQ w C k) i=false):gridE w h C=4:=by
  unfold gridE
  rw[if_neg (by rw[hs];decide),if_neg (by rw[hn];simp),if_neg]
  rw[AY5]
  intro H
  have h2:l7 (rowQ w C k) i=true:=H k hk i hi
  rw[hb] at h2
  cases h2
theorem AG5 (G:Ctx) (H:List Ent) (C:List Qd) {vs:List Value} (w h:Int) (a:Option Addr) (n c:Nat) [h1:RdC G H a vs] (hv:vs=qds C) (hn:n=C.length) (hm:n≤9223372036854775807) (hnc:n≤c):SV Tryz.prog G 59 [gridV w h a n c] H (.int .i64 (gridE w h C)):=by
  subst hv
  have cS:=fun H=>AV4 G H w h
  rcases AL5 w h with ⟨hs,hwh⟩|⟨hs,hwh⟩
  · obtain⟨w1,w2,h3,h4⟩:=hwh
    obtain⟨w,rfl⟩:=Int.eq_ofNat_of_zero_le (show 0≤w by omega)
    obtain⟨h,rfl⟩:=Int.eq_ofNat_of_zero_le (show 0≤h by omega)
    have hS:=hs
    rw[hs] at cS
    have e1:(w:Int) * (h:Int)=((w * h:Nat):Int):=by simp
    have hb:w * h≤160 * 60:=Nat.mul_le_mul (by omega) (by omega)
    by_cases hnw:n=w * h
    · have cR:=fun (H:List Ent) {vs:List Value} [RdC G H a vs] (hv:vs=qds C) (k:Nat) (hk:k<h)=>Ak4 G H C a w h n c k hv hn (by omega) hnc hnw ⟨by omega,by omega⟩ hk (by omega)
      have hgood:=fun hk=>Am1 (C:=C) hS (by omega) hk
      have hbad:=fun {k i:Nat} hk hi hb=>BT5 (C:=C) (k:=k) (i:=i) hS (by omega) hk hi hb
      have hRl:=fun k hk=>j5 (w:=w) (h:=h) (k:=k) (C:=C) hk (by omega)
      have CR:=Lib.hid cR
      have Hgood:=Lib.hid hgood
      have Hbad:=Lib.hid (fun k i=>@hbad k i)
      have HRl:=Lib.hid hRl
      have Hn:=Lib.hid hnw
      generalize hwh:w * h=p at *
      clear cR hgood hbad hRl hn hS hs hwh
      refine M5 Tryz.func59 rfl rfl rfl rfl rfl ?_
      repeat' (first|(apply F3;first|(apply C8;refine A8 ?_)|(apply C9;refine D8 rfl rfl ?_)|(apply E5;refine F5 rfl rfl rfl ?_;first|(refine AQ7 ⟨by omega,by omega⟩ ?_)|(refine F7 rfl ?_))|(apply F4;refine F8 rfl rfl ?_;refine G6 rfl ?_)|(apply D6;refine D9 rfl rfl ?_)|(apply G7;refine G8 (E8 rfl rfl) rfl ?_)|(apply H6;refine F9 rfl rfl rfl (cS _) rfl rfl ?_)|(apply J5;refine s_call (Q5 rfl rfl) rfl ?_)|(apply K9;refine O5 rfl rfl rfl rfl rfl rfl (fun _=>?_)))|(apply D7)|(apply G9)|(apply F6)|(apply A7)|(refine G5 rfl ?_;first|(apply I5)|(apply X6<;>intro hq<;>(try (exfalso;omega))))|(apply D5))
      rename_i b
      have cP:=fun H x y z=>AC3 G H x y z
      have cW:=fun H x=>AK6 G H x
      refine R9 (α:=Nat) (fun k=>[(1,.pointer (some ⟨b,0,none⟩)),(26,.int .i64 h),(27,.int .i64 k)]) (fun _=> .blk b 29 [.int .i64 w,.int .i64 h,.slice a n c]::H)
        (fun k=>k≤h∧∀j,j<k→∀i,i<w→l7 (rowQ w C j) i=true) (fun k=>h-k) 0 ⟨Nat.zero_le _,fun j hj=>absurd hj (Nat.not_lt_zero _)⟩ (by repeat (first|exact Le.nil _|refine Le.cons (by (rfl)) ?_)) I8 ?_
      rintro k ⟨hk,hs⟩
      have Hs:=Lib.hid hs
      clear hs
      by_cases hlt:(k:Int)<h
      · have cRk:=fun (H:List Ent) {vs:List Value} [RdC G H a vs] (hv:vs=qds C)=>CR.out H hv k (by omega)
        have hRl:=HRl.out k (by omega)
        have hbad:=fun i hi hb=>Hbad.out k i (by omega) hi hb
        have Hbk:=Lib.hid hbad
        clear hbad CR Hbad HRl Hgood
        generalize hR:rowQ w C k=R at *
        repeat' (first|(apply F3;first|(apply C8;refine A8 ?_)|(apply C9;refine D8 rfl rfl ?_)|(apply E5;refine F5 rfl rfl rfl ?_;refine F7 rfl ?_)|(apply F4;refine F8 rfl rfl ?_;refine K5 rfl ?_)|(apply D6;refine D9 rfl rfl ?_)|(apply H6;refine c_call rfl rfl rfl (cRk _ rfl) rfl rfl ?_;rintro _ _ ⟨rfl,a',c',rfl,hc',hI⟩)|(apply J5;refine s_call (Q5 rfl rfl) rfl ?_))|(apply D7)|(apply G9)|(apply F6)|(apply A7)|(refine G5 rfl ?_;apply E9<;>intro hq<;>(try (exfalso;omega)))|(apply D5))
        have hlR:(qds R).length=w * 4:=by rw[Z4,hRl]
        have cL:=fun (H:List Ent) {vs:List Value} [RdC G H a' vs] (hv:vs=qds R) (i:Nat) (hi:i<w)=>BE4 G H R a' w c' i hv hRl.symm (by omega) hi
        have CL:=Lib.hid cL
        clear cL
        refine R9 (α:=Nat) (fun i=>[(1,.pointer (some ⟨b,0,none⟩)),(26,.int .i64 h),(27,.int .i64 k),(5,.slice a' w c'),(33,.slice a' w c'),(34,.int .i64 w),(35,.int .i64 i)]) (fun _=> .blk b 29 [.int .i64 w,.int .i64 h,.slice a n c]::H)
          (fun i=>i≤w∧∀j,j<i→l7 R j=true) (fun i=>w-i) 0 ⟨Nat.zero_le _,fun j hj=>absurd hj (Nat.not_lt_zero _)⟩ (by repeat (first|exact Le.nil _|refine Le.cons (by (rfl)) ?_)) I8 ?_
        rintro i ⟨hi,hs2⟩
        have Hs2:=Lib.hid hs2
        clear hs2
        by_cases hlt2:(i:Int)<w
        · have hel:=Af0 (C:=R) (i:=(i:Int)) (by omega)
          rw[show R.getD (i:Int).toNat qz=R.getD i qz from by rw[Int.toNat_natCast]] at hel
          have cLi:=fun (H:List Ent) {vs:List Value} [RdC G H a' vs] (hv:vs=qds R)=>CL.out H hv i (by omega)
          have hok:l7 R i=(penB (R.getD i qz).2.1 (R.getD i qz).2.2.1 (R.getD i qz).2.2.2&&((decide ((R.getD i qz).1=0)||!decide (H5 (R.getD i qz).1=0))&&!loneB H5 R i)):=rfl
          have hbd:=fun hb=>Hbk.out i (by omega) hb
          have hnx:l7 R i=true→∀j,j<i+1→l7 R j=true:=fun h j hj=>by
            rcases Nat.lt_or_ge j i with h'|h'
            · exact Hs2.out j h'
            · obtain rfl:j=i:=by omega
              exact h
          have Hnx:=Lib.hid hnx
          clear CL hnx
          generalize loneB H5 R i=L at *
          generalize hqq:R.getD i qz=q at *
          obtain⟨r,x,y,z⟩:=q
          dsimp only at hok
          have cPi:=fun H=>cP H x y z
          have cWi:=fun H=>cW H r
          generalize penB x y z=B at *
          generalize H5 r=wd at *
          replace hel:take? ((qds R).drop ((i:Int).toNat * 4)) 4=some [.int .i64 r,.int .i64 x,.int .i64 y,.int .i64 z]:=hel
          cases B
          · have hf:l7 R i=false:=by rw[hok];rfl
            have hbd:=hbd hf
            rw[hbd]
            clear hok hf hbd Hnx cLi cW cWi
            repeat' (first|(apply F3;first|(apply C8;refine A8 ?_)|(apply C9;refine D8 rfl rfl ?_)|(apply E5;refine F5 rfl rfl rfl ?_;refine F7 rfl ?_)|(apply F4;first|(refine F8 rfl rfl ?_;refine L8 rfl rfl ?_)|(refine F8 rfl rfl ?_;refine Y5 hel rfl ?_))|(apply D6;refine D9 rfl rfl ?_)|(apply I6;refine I9 rfl rfl ?_;apply Q9;refine Q8 rfl ?_)|(apply G7;refine G8 (E8 rfl rfl) rfl ?_)|(apply M4;refine N9 (K6 rfl rfl rfl hlR (by omega) (by omega)) rfl ?_)|(apply H6;refine F9 rfl rfl rfl (cPi _) rfl rfl ?_)|(apply H9;refine M6 rfl rfl rfl rfl rfl rfl rfl rfl ?_)|(apply L6;refine O0 rfl rfl rfl rfl (fun _=>?_))|(apply I1;first|(refine J9 rfl rfl rfl rfl ?_;apply X9)|refine o5 rfl rfl rfl rfl rfl rfl ?_))|(apply D7)|(apply G9)|(apply H7)|(apply F6)|(apply A7)|(refine G5 rfl ?_;first|(apply I7)|(apply E9<;>intro hq<;>(try (exfalso;omega))))|(apply D5)|(apply J4)|(apply U1))
            all_goals (refine M3 (by (exact .inr rfl)) rfl N7 ?_;rfl)
          · cases L
            · by_cases hg:r=0∨¬wd=0
              · have hf:l7 R i=true:=by rw[hok];rcases hg with h'|h'<;>simp [h']
                have hnx:=Hnx.out hf
                clear hok hf hbd Hnx
                rcases hg with hg|hg
                all_goals
                  repeat' (first|(apply F3;first|(apply C8;refine A8 ?_)|(apply C9;refine D8 rfl rfl ?_)|(apply E5;refine F5 rfl rfl rfl ?_;first|(apply M0;refine L9 ⟨by omega,by omega⟩ ?_)|refine F7 rfl ?_)|(apply F4;first|(refine F8 rfl rfl ?_;first|refine G6 rfl ?_ |refine L8 rfl rfl ?_)|(refine F8 rfl rfl ?_;refine Y5 hel rfl ?_))|(apply D6;refine D9 rfl rfl ?_)|(apply I6;refine I9 rfl rfl ?_;first|(apply Q9;refine Q8 rfl ?_)|(apply O1;refine O3 rfl ?_))|(apply G7;refine G8 (E8 rfl rfl) rfl ?_)|(apply M4;refine N9 (K6 rfl rfl rfl hlR (by omega) (by omega)) rfl ?_)|(apply H6;first|refine F9 rfl rfl rfl (cPi _) rfl rfl ?_ |refine F9 rfl rfl rfl (cWi _) rfl rfl ?_ |refine F9 rfl rfl rfl (cLi _ rfl) rfl rfl ?_)|(apply H9;refine M6 rfl rfl rfl rfl rfl rfl rfl rfl ?_)|(apply L6;refine O0 rfl rfl rfl rfl (fun _=>?_))|(apply I1;refine J9 rfl rfl rfl rfl ?_;first|(apply I7)|(apply I5)|(apply O8<;>intro hq<;>(try (exfalso;omega)))|(apply X6<;>intro hq<;>(try (exfalso;omega)))))|(apply D7)|(apply G9)|(apply F6)|(apply A7)|(refine G5 rfl ?_;first|(apply I5)|(apply E9<;>intro hq<;>(try (exfalso;omega))))|(apply D5)|(apply J2))
                  all_goals (exact J6 (i+1) ⟨⟨by omega,hnx⟩,by omega⟩ (by repeat (first|exact Le.nil _|refine Le.cons (by (rfl)) ?_)) I8)
              · have hg1:¬r=0:=fun h=>hg (.inl h)
                have hg2:wd=0:=Classical.byContradiction fun h=>hg (.inr h)
                have hf:l7 R i=false:=by rw[hok,decide_eq_false hg1,decide_eq_true hg2];rfl
                have hbd:=hbd hf
                rw[hbd]
                clear hok hf hbd Hnx cLi hg
                repeat' (first|(apply F3;first|(apply C8;refine A8 ?_)|(apply C9;refine D8 rfl rfl ?_)|(apply E5;refine F5 rfl rfl rfl ?_;refine F7 rfl ?_)|(apply F4;first|(refine F8 rfl rfl ?_;first|refine G6 rfl ?_ |refine L8 rfl rfl ?_)|(refine F8 rfl rfl ?_;refine Y5 hel rfl ?_))|(apply D6;refine D9 rfl rfl ?_)|(apply I6;refine I9 rfl rfl ?_;first|(apply Q9;refine Q8 rfl ?_)|(apply O1;refine O3 rfl ?_))|(apply G7;refine G8 (E8 rfl rfl) rfl ?_)|(apply M4;refine N9 (K6 rfl rfl rfl hlR (by omega) (by omega)) rfl ?_)|(apply H6;first|refine F9 rfl rfl rfl (cPi _) rfl rfl ?_ |refine F9 rfl rfl rfl (cWi _) rfl rfl ?_)|(apply H9;refine M6 rfl rfl rfl rfl rfl rfl rfl rfl ?_)|(apply L6;refine O0 rfl rfl rfl rfl (fun _=>?_))|(apply I1;refine J9 rfl rfl rfl rfl ?_;first|(apply I7)|(apply X9)|(apply O8<;>intro hq<;>(try (exfalso;omega)))|(apply X6<;>intro hq<;>(try (exfalso;omega)))))|(apply D7)|(apply G9)|(apply H7)|(apply F6)|(apply A7)|(refine G5 rfl ?_;first|(apply I7)|(apply E9<;>intro hq<;>(try (exfalso;omega))))|(apply D5)|(apply J4)|(apply U1))
                all_goals (refine M3 (by (exact .inr rfl)) rfl N7 ?_;rfl)
            · have hf:l7 R i=false:=by rw[hok];simp
              have hbd:=hbd hf
              rw[hbd]
              clear hok hf hbd Hnx
              repeat' (first|(apply F3;first|(apply C8;refine A8 ?_)|(apply C9;refine D8 rfl rfl ?_)|(apply E5;refine F5 rfl rfl rfl ?_;refine F7 rfl ?_)|(apply F4;first|(refine F8 rfl rfl ?_;first|refine G6 rfl ?_ |refine L8 rfl rfl ?_)|(refine F8 rfl rfl ?_;refine Y5 hel rfl ?_))|(apply D6;refine D9 rfl rfl ?_)|(apply I6;refine I9 rfl rfl ?_;first|(apply Q9;refine Q8 rfl ?_)|(apply O1;refine O3 rfl ?_))|(apply G7;refine G8 (E8 rfl rfl) rfl ?_)|(apply M4;refine N9 (K6 rfl rfl rfl hlR (by omega) (by omega)) rfl ?_)|(apply H6;first|refine F9 rfl rfl rfl (cPi _) rfl rfl ?_ |refine F9 rfl rfl rfl (cWi _) rfl rfl ?_ |refine F9 rfl rfl rfl (cLi _ rfl) rfl rfl ?_)|(apply H9;refine M6 rfl rfl rfl rfl rfl rfl rfl rfl ?_)|(apply L6;refine O0 rfl rfl rfl rfl (fun _=>?_))|(apply I1;refine J9 rfl rfl rfl rfl ?_;first|(apply I7)|(apply I5)|(apply X9)|(apply O8<;>intro hq<;>(try (exfalso;omega)))|(apply X6<;>intro hq<;>(try (exfalso;omega)))))|(apply D7)|(apply G9)|(apply H7)|(apply F6)|(apply A7)|(refine G5 rfl ?_;first|(apply I7)|(apply E9<;>intro hq<;>(try (exfalso;omega))))|(apply D5)|(apply J4)|(apply U1))
              all_goals (refine M3 (by (exact .inr rfl)) rfl N7 ?_;rfl)
        · obtain rfl:i=w:=by omega
          repeat' (first|(apply F3;first|(apply C8;refine A8 ?_)|(apply C9;refine D8 rfl rfl ?_)|(apply E5;refine F5 rfl rfl rfl ?_;first|(apply M0;refine L9 ⟨by omega,by omega⟩ ?_)|refine F7 rfl ?_))|(apply D7)|(apply N8)|(apply A7)|(refine G5 rfl ?_;apply E9<;>intro hq<;>(try (exfalso;omega)))|(apply D5)|(apply J7)|(apply J2)|(apply J8))
          refine J6 (k+1) ⟨⟨by omega,fun j hj i2 hi2=>?_⟩,by omega⟩ (by repeat (first|exact Le.nil _|refine Le.cons (by (rfl)) ?_)) I8
          rcases Nat.lt_or_ge j k with h'|h'
          · exact Hs.out j h' i2 hi2
          · obtain rfl:j=k:=by omega
            rw[hR]
            exact Hs2.out i2 hi2
      · obtain rfl:k=h:=by omega
        repeat' (first|(apply F3;first|(apply C8;refine A8 ?_)|(apply E5;refine F5 rfl rfl rfl ?_;refine F7 rfl ?_)|(apply D6;refine D9 rfl rfl ?_))|(apply D7)|(apply H7)|(apply N8)|(apply A7)|(refine G5 rfl ?_;apply E9<;>intro hq<;>(try (exfalso;omega)))|(apply D5)|(apply J7)|(apply J8))
        refine M3 (by (exact .inr rfl)) rfl N7 ?_
        rw[Hgood.out Hs.out]
        rfl
    · have hE:gridE w h C=4:=by
        unfold gridE
        rw[if_neg (by rw[hs];decide),if_pos (by rw[e1,←hn];omega)]
      rw[hE]
      generalize hwh:w * h=p at *
      clear hS hs hwh hn hE
      refine M5 Tryz.func59 rfl rfl rfl rfl rfl ?_
      repeat' (first|(apply F3;first|(apply C8;refine A8 ?_)|(apply C9;refine D8 rfl rfl ?_)|(apply E5;refine F5 rfl rfl rfl ?_;first|(refine AQ7 ⟨by omega,by omega⟩ ?_)|(refine F7 rfl ?_))|(apply F4;refine F8 rfl rfl ?_;refine G6 rfl ?_)|(apply D6;refine D9 rfl rfl ?_)|(apply G7;refine G8 (E8 rfl rfl) rfl ?_)|(apply H6;refine F9 rfl rfl rfl (cS _) rfl rfl ?_)|(apply J5;refine s_call (Q5 rfl rfl) rfl ?_)|(apply K9;refine O5 rfl rfl rfl rfl rfl rfl (fun _=>?_)))|(apply D7)|(apply G9)|(apply H7)|(apply A7)|(refine G5 rfl ?_;first|(apply I5)|(apply X6<;>intro hq<;>(try (exfalso;omega))))|(apply D5)|(apply J4))
      all_goals (refine M3 (by (exact .inr rfl)) rfl N7 ?_;rfl)
  · have hE:gridE w h C=1:=by unfold gridE;rw[if_pos hs]
    rw[hE]
    rw[hs] at cS
    refine M5 Tryz.func59 rfl rfl rfl rfl rfl ?_
    repeat' (first|(apply F3;first|(apply C8;refine A8 ?_)|(apply C9;refine D8 rfl rfl ?_)|(apply E5;refine F5 rfl rfl rfl ?_;refine F7 rfl ?_)|(apply F4;refine F8 rfl rfl ?_;refine G6 rfl ?_)|(apply D6;refine D9 rfl rfl ?_)|(apply G7;refine G8 (E8 rfl rfl) rfl ?_)|(apply H6;refine F9 rfl rfl rfl (cS _) rfl rfl ?_)|(apply K9;refine O5 rfl rfl rfl rfl rfl rfl (fun _=>?_)))|(apply D7)|(apply H7)|(apply A7)|(refine G5 rfl ?_;apply I7)|(apply D5)|(apply J4))
    all_goals (refine M3 (by (exact .inr rfl)) rfl N7 ?_;rfl)
end Go.Proofs.YtmmnimagbnlcmaaGreatDoor
end
section
namespace Go.Sx
open Go Go.RowKit Go.Fw
/-- A row of its own. -/
abbrev Rw:=Rx Qd
def rwV (x:Rw):Value:= .slice x.1 x.2.2.length x.2.1
theorem BG9 (X:List Rw):(X.map rwV).all (·.oneCell')=true:=by
  rw[List.all_map]
  exact List.all_eq_true.2 fun _ _=>rfl
theorem BO5 {X:List Rw} {k:Nat} {x:Rw} (h:X[k]? =some x):(X.map rwV)[k]? =some (.slice x.1 x.2.2.length x.2.1):=by
  rw[List.getElem?_map,h]
  rfl
end Go.Sx
namespace Go.Proofs.YtmmnimagbnlcmaaGreatDoor
open Go Go.RowKit Go.Fw Go.Sx
set_option maxRecDepth 100000
set_option maxHeartbeats 1000000
attribute [local irreducible] SW SL SQ AtQ SV SC BB LD PK Yields SO SOT SOA SY
end Go.Proofs.YtmmnimagbnlcmaaGreatDoor
namespace Go.Fw
open Go Go.RowKit Go.Sx
/-- A cell mended: half of nothing is a blank. -/
def mendC (wd:Int→Int) (R:List Qd) (i:Nat):Qd:=if loneB wd R i=true then (32,(R.getD i qz).2) else R.getD i qz
/-- The first j mended. -/
def AD2 (wd:Int→Int) (R:List Qd) (j:Nat):List Qd:=(List.range R.length).map fun i=>if i<j then mendC wd R i else R.getD i qz
theorem l5 (wd:Int→Int) (R:List Qd) (j:Nat):(AD2 wd R j).length=R.length:=by simp [AD2]
theorem AD7 (wd:Int→Int) (R:List Qd) (j i:Nat) (hi:i<R.length):(AD2 wd R j).getD i qz=if i<j then mendC wd R i else R.getD i qz:=by
  unfold AD2
  rw[List.getD_eq_getElem?_getD,List.getElem?_map,List.getElem?_range hi]
  rfl
theorem Ae8 {A B:List Qd} (hl:A.length=B.length) (h:∀i,i<A.length→A.getD i qz=B.getD i qz):A=B:=List.ext_getElem hl fun i h1 h2=>by
  have:=h i h1
  rw[List.getD_eq_getElem?_getD,List.getD_eq_getElem?_getD,List.getElem?_eq_getElem h1,List.getElem?_eq_getElem h2] at this
  exact this
theorem Bi3 (wd:Int→Int) (R:List Qd):AD2 wd R 0=R:=Ae8 (l5 _ _ _) fun i hi=>by
  rw[l5] at hi
  rw[AD7 _ _ _ _ hi,if_neg (Nat.not_lt_zero _)]
theorem Bb7 {wd:Int→Int} {R:List Qd} {j:Nat} (h:loneB wd R j=false):AD2 wd R (j+1)=AD2 wd R j:=Ae8 (by rw[l5,l5]) fun i hi=>by
  rw[l5] at hi
  rw[AD7 _ _ _ _ hi,AD7 _ _ _ _ hi]
  rcases Nat.lt_trichotomy i j with h'|rfl|h'
  · rw[if_pos h',if_pos (by omega)]
  · rw[if_pos (by omega),if_neg (by omega)]
    unfold mendC
    rw[h]
    rfl
  · rw[if_neg (by omega),if_neg (by omega)]
theorem BK4 {wd:Int→Int} {R:List Qd} {j:Nat} (h:loneB wd R j=true) (hj:j<R.length):(AD2 wd R j).set j (32,(R.getD j qz).2)=AD2 wd R (j+1):=Ae8 (by rw[List.length_set,l5,l5]) fun i hi=>by
  rw[List.length_set,l5] at hi
  rw[AD7 _ _ _ _ hi]
  rcases Nat.lt_trichotomy i j with h'|rfl|h'
  · rw[List.getD_eq_getElem?_getD,List.getElem?_set_ne (by omega),←List.getD_eq_getElem?_getD,AD7 _ _ _ _ hi,if_pos h',if_pos (by omega)]
  · rw[List.getD_eq_getElem?_getD,List.getElem?_set_self (by rw[l5];exact hi),if_pos (by omega)]
    unfold mendC
    rw[if_pos h]
    rfl
  · rw[List.getD_eq_getElem?_getD,List.getElem?_set_ne (by omega),←List.getD_eq_getElem?_getD,AD7 _ _ _ _ hi,if_neg (by omega),if_neg (by omega)]
def mendQ (wd:Int→Int) (R:List Qd):List Qd:=AD2 wd R R.length
/-- A right row is mended already. -/
theorem BC4 {wd:Int→Int} {R:List Qd} (h:∀i,i<R.length→loneB wd R i=false):mendQ wd R=R:=Ae8 (l5 _ _ _) fun i hi=>by
  unfold mendQ at hi ⊢
  rw[l5] at hi
  rw[AD7 _ _ _ _ hi,if_pos hi]
  unfold mendC
  rw[h i hi]
  rfl
end Go.Fw
namespace Go.Proofs.YtmmnimagbnlcmaaGreatDoor
open Go Go.RowKit Go.Fw Go.Sx
set_option maxRecDepth 100000
set_option maxHeartbeats 1000000
attribute [local irreducible] SW SL SQ AtQ SV SC BB LD PK Yields SO SOT SOA SY
theorem A62 (G:Ctx) (H:List Ent) (x y z:Int):SV Tryz.prog G 193 [penV x y z] H (.agg (qd (32,x,y,z)).toArray):=by
  refine M5 Tryz.func193 rfl rfl rfl rfl rfl ?_
  repeat' (first|(apply F3;first|(apply C8;refine A8 ?_)|(apply F4;refine F8 rfl rfl ?_;refine K5 rfl ?_)|(apply P5;refine R7 (O6 rfl rfl rfl) rfl ?_)|(apply H9;refine M6 rfl rfl rfl rfl rfl rfl rfl rfl ?_)|(apply K9;refine O5 rfl rfl rfl rfl rfl rfl (fun _=>?_))|(apply L6;refine O0 rfl rfl rfl rfl (fun _=>?_)))|(apply D7)|(apply H7)|(apply A7)|(apply D5))
  refine d9 H (by (exact .inr rfl)) rfl rfl rfl I8 ?_
  exact⟨rfl,rfl⟩
end Go.Proofs.YtmmnimagbnlcmaaGreatDoor
namespace Go.Fw
open Go Go.RowKit Go.Sx
theorem AH8 {A R B:List Qd} {i:Nat} (q:Qd) (hi:i<R.length):over (qds A++qds R++qds B) (A.length * 4+i * 4) (qd q)=qds A++qds (R.set i q)++qds B:=by
  have h1:A.length * 4+i * 4=(A.length+i) * 4:=by omega
  rw[←AE2,←AE2,h1,Be1 q (by rw[List.length_append,List.length_append];omega),List.append_assoc,List.set_append_right _ _ (by omega),show A.length+i-A.length=i from by omega,List.set_append_left _ _ hi,AE2,AE2,List.append_assoc]
end Go.Fw
namespace Go.Proofs.YtmmnimagbnlcmaaGreatDoor
open Go Go.RowKit Go.Fw Go.Sx
set_option maxRecDepth 100000
set_option maxHeartbeats 1000000
attribute [local irreducible] SW SL SQ AtQ SV SC BB LD PK Yields SO SOT SOA SY
theorem BV9 (G:Ctx) (H:List Ent) (A R B:List Qd) (b off w n c cp:Nat) (ho:off=A.length * 4) (hw:w=R.length) (hw1:1≤w∧w≤100000):SC Tryz.prog G 190 [.slice (some ⟨b,off,none⟩) w cp] (.own 97 4 (some ⟨b,0,none⟩) n c (qds A++qds R++qds B)::H) fun v H'=>v= .tuple #[]∧H'= .own 97 4 (some ⟨b,0,none⟩) n c (qds A++qds (mendQ H5 R)++qds B)::H:=by
  have hrd:=fun (R':List Qd) (h:R'.length=w) (H:List Ent)=>Ay0 (A84 (G:=G) (e:=97) (sz:=4) (len:=n) (c:=c) (b:=b) (xs:=qds A) (ys:=qds R') (zs:=qds B) (us:=[]) (H:=H) off (by rw[Z4,ho]) (by rw[Z4];omega))
  have cC:=fun (H:List Ent) (a:Option Addr) {vs:List Value} [RdC G H a vs] (hv:vs=qds R)=>AQ5 G H R a w cp hv hw hw1.2
  have cL:=fun (H:List Ent) (a:Option Addr) (c:Nat) {vs:List Value} [RdC G H a vs] (hv:vs=qds R) (i:Nat) (hi:i<w)=>BE4 G H R a w c i hv hw hw1.2 hi
  have CL:=Lib.hid cL
  haveI:=hrd R hw.symm H
  refine Y3 Tryz.func190 rfl rfl rfl rfl rfl ?_
  repeat' (first|(apply F3;first|(apply C8;refine A8 ?_)|(apply C9;refine D8 rfl rfl ?_)|(apply D6;refine D9 rfl rfl ?_)|(apply H6;refine c_call rfl rfl rfl (cC _ _ rfl) rfl rfl ?_;rintro _ _ ⟨a2,c2,rfl,rfl⟩)|(apply J5;refine s_call (Q5 rfl rfl) rfl ?_))|(apply D7)|(apply F6)|(apply A7)|(apply D5))
  clear cC cL
  refine R9 (α:=Nat) (fun j=>[(0,.slice (some ⟨b,off,none⟩) w cp),(2,.slice a2 w c2),(7,.int .i64 w),(8,.int .i64 j)]) (fun j=> .own 97 4 a2 w c2 (qds R):: .own 97 4 (some ⟨b,0,none⟩) n c (qds A++qds (AD2 H5 R j)++qds B)::H)
    (fun j=>j≤w) (fun j=>w-j) 0 (Nat.zero_le _) (by repeat (first|exact Le.nil _|refine Le.cons (by (rfl)) ?_)) (by rw[Bi3];exact I8) ?_
  intro j hj
  by_cases hlt:(j:Int)<w
  · have cLj:=fun (H:List Ent) (a:Option Addr) (c:Nat) {vs:List Value} [RdC G H a vs] (hv:vs=qds R)=>CL.out H a c hv j (by omega)
    have hlR:(qds R).length=w * 4:=by rw[Z4,hw]
    have hl2:(qds (AD2 H5 R j)).length=w * 4:=by rw[Z4,l5,hw]
    have hlt2:(j:Int).toNat * 4<(qds R).length:=by rw[hlR];omega
    cases hL:loneB H5 R j
    · rw[hL] at cLj
      repeat' (first|(apply F3;first|(apply C8;refine A8 ?_)|(apply C9;refine D8 rfl rfl ?_)|(apply E5;refine F5 rfl rfl rfl ?_;first|(apply M0;refine L9 ⟨by omega,by omega⟩ ?_)|refine F7 rfl ?_)|(apply D6;refine D9 rfl rfl ?_)|(apply H6;refine F9 rfl rfl rfl (cLj _ _ _ rfl) rfl rfl ?_))|(apply D7)|(apply G9)|(apply F6)|(apply A7)|(refine G5 rfl ?_;first|(apply I5)|(apply E9<;>intro hq<;>(try (exfalso;omega))))|(apply D5)|(apply J2))
      refine J6 (j+1) ⟨by omega,by omega⟩ (by repeat (first|exact Le.nil _|refine Le.cons (by (rfl)) ?_)) ?_
      rw[Bb7 hL]
      exact I8
    · rw[hL] at cLj
      haveI:=hrd (AD2 H5 R j) (by rw[l5,hw]) H
      have hp:=A28 (C:=R) (i:=(j:Int)) (by omega)
      have cBk:=fun H=>A62 G H (R.getD (j:Int).toNat qz).2.1 (R.getD (j:Int).toNat qz).2.2.1 (R.getD (j:Int).toNat qz).2.2.2
      have hov:over (qds A++qds (AD2 H5 R j)++qds B) (off+(j:Int).toNat * 4) (qd (32,(R.getD (j:Int).toNat qz).2.1,(R.getD (j:Int).toNat qz).2.2.1,(R.getD (j:Int).toNat qz).2.2.2))=qds A++qds (AD2 H5 R (j+1))++qds B:=by
        rw[ho,Int.toNat_natCast,AH8 _ (by rw[l5];omega)]
        exact congrArg (fun X=>qds A++qds X++qds B) (BK4 hL (by omega))
      have hll:off+(j:Int).toNat * 4+4≤(qds A++qds (AD2 H5 R j)++qds B).length:=by
        rw[List.length_append,List.length_append,hl2,Z4,ho]
        omega
      clear hrd CL
      repeat' (first|(apply F3;first|(apply C8;refine A8 ?_)|(apply C9;refine D8 rfl rfl ?_)|(apply E5;refine F5 rfl rfl rfl ?_;first|(apply M0;refine L9 ⟨by omega,by omega⟩ ?_)|refine F7 rfl ?_)|(apply F4;refine F8 rfl rfl ?_;refine Y5 hp rfl ?_)|(apply D6;refine D9 rfl rfl ?_)|(apply M4;first|(refine N9 (K6 rfl rfl rfl hlR (by omega) (by omega)) rfl ?_)|(refine N9 (K6 rfl rfl rfl hl2 (by omega) (by omega)) rfl ?_))|(apply H6;first|refine F9 rfl rfl rfl (cLj _ _ _ rfl) rfl rfl ?_ |refine F9 rfl rfl rfl (cBk _) rfl rfl ?_)|(apply H9;refine AR4 rfl rfl rfl rfl rfl rfl (Nat.zero_lt_succ 3) hll rfl ?_)|(refine G8 (AL8 rfl rfl hlt2) rfl ?_))|(apply D7)|(apply G9)|(apply F6)|(apply A7)|(refine G5 rfl ?_;first|(apply I7)|(apply E9<;>intro hq<;>(try (exfalso;omega))))|(apply D5)|(apply J2))
      rw[hov]
      exact J6 (j+1) ⟨by omega,by omega⟩ (by repeat (first|exact Le.nil _|refine Le.cons (by (rfl)) ?_)) I8
  · obtain rfl:j=w:=by omega
    repeat' (first|(apply F3;first|(apply C8;refine A8 ?_)|(apply E5;refine F5 rfl rfl rfl ?_;refine F7 rfl ?_))|(apply D7)|(apply N8)|(apply A7)|(refine G5 rfl ?_;apply E9<;>intro hq<;>(try (exfalso;omega)))|(apply D5)|(apply J7)|(apply J8))
    refine AG7 (_::H) (by (exact .inl rfl)) rfl (List.Sublist.cons _ (List.Sublist.refl _)) ?_
    refine⟨rfl,?_⟩
    unfold mendQ
    rw[←hw]
end Go.Proofs.YtmmnimagbnlcmaaGreatDoor
namespace Go.Fw
open Go Go.RowKit Go.Sx
/-- A sign put in a row. -/
def putQ (wd:Int→Int) (R:List Qd) (col:Nat) (r x y z:Int):List Qd:=if wd r=2 then (R.set col (r,x,y,z)).set (col+1) (0,x,y,z) else R.set col (r,x,y,z)
theorem A26 (wd:Int→Int) (R:List Qd) (col:Nat) (r x y z:Int):(putQ wd R col r x y z).length=R.length:=by
  unfold putQ
  split<;>simp
end Go.Fw
namespace Go.Proofs.YtmmnimagbnlcmaaGreatDoor
open Go Go.RowKit Go.Fw Go.Sx
set_option maxRecDepth 100000
set_option maxHeartbeats 1000000
attribute [local irreducible] SW SL SQ AtQ SV SC BB LD PK Yields SO SOT SOA SY
theorem BA0 (G:Ctx) (H:List Ent) (b w h n c k p:Nat) (hp:(k:Int) * (w:Int)=(p:Int)) (hp2:((k:Int)+1) * (w:Int)=((p+w:Nat):Int)) (hm:n≤100000) (hn:p+w≤n) (hnc:n≤c) (hw:1≤w) (hk:k≤1000):SV Tryz.prog G 65 [gridV w h (some ⟨b,0,none⟩) n c,.int .i64 k] H (.slice (some ⟨b,p * 4,none⟩) w (c-p)):=by
  have e:Value.slice (some ⟨b,p * 4,none⟩) w (c-p)= .slice (some ⟨b,((k:Int) * (w:Int)).toNat * 4,none⟩) ((((k:Int)+1) * (w:Int)).toNat-((k:Int) * (w:Int)).toNat) (c-((k:Int) * (w:Int)).toNat):=by
    rw[hp,hp2,Int.toNat_natCast,Int.toNat_natCast,Nat.add_sub_cancel_left]
  rw[e]
  refine P7 Tryz.func65 rfl rfl rfl rfl rfl ?_
  repeat' (first|(apply F3;first|(apply C8;refine A8 ?_)|(apply C9;refine D8 rfl rfl ?_)|(apply E5;refine F5 rfl rfl rfl ?_;first|(refine AQ7 ⟨by omega,by omega⟩ ?_)|(apply M0;refine L9 ⟨by omega,by omega⟩ ?_))|(apply F4;refine F8 rfl rfl ?_;refine G6 rfl ?_)|(apply D6;refine D9 rfl rfl ?_)|(apply G7;refine G8 (E8 rfl rfl) rfl ?_)|(apply K9;refine O5 rfl rfl rfl rfl rfl rfl (fun _=>?_))|(apply o7;refine AM2 (Ac6 rfl rfl rfl rfl (by omega) (by omega) (by omega) (by omega)) rfl ?_))|(apply D7)|(apply H7)|(apply A7)|(apply D5))
  all_goals (refine M3 (by (exact .inr rfl)) rfl N7 ?_;rfl)
theorem Bc3 (G:Ctx) (H:List Ent) (A R B:List Qd) (b w h n c k col:Nat) (r x y z:Int) (hA:A.length=k * w) (hR:R.length=w) (hn:n=(A++R++B).length) (hm:n≤100000) (hnc:n≤c) (hw:1≤w) (hk:k≤1000) (hcol:col<w) (hcol2:H5 r=2→col+1<w):SC Tryz.prog G 157 [gridV w h (some ⟨b,0,none⟩) n c,.int .i64 k,.int .i64 col,.int .i64 r,penV x y z] (.own 97 4 (some ⟨b,0,none⟩) n c (qds A++qds R++qds B)::H) fun v H'=>v= .tuple #[]∧H'= .own 97 4 (some ⟨b,0,none⟩) n c (qds A++qds (mendQ H5 (putQ H5 R col r x y z))++qds B)::H:=by
  have e1:(k:Int) * (w:Int)=((k * w:Nat):Int):=by simp
  have e2:((k:Int)+1) * (w:Int)=((k * w+w:Nat):Int):=by rw[Int.add_mul];simp
  have hpn:k * w+w≤n:=by rw[hn,List.length_append,List.length_append];omega
  have cR:=fun H=>BA0 G H b w h n c k (k * w) e1 e2 hm hpn hnc hw hk
  have cP:=fun (H:List Ent) (R':List Qd) (hR':R'.length=w)=>BV9 G H A R' B b (k * w * 4) w n c (c-k * w) (by rw[hA]) hR'.symm ⟨hw,by omega⟩
  have cW:=fun H=>AK6 G H r
  have hrd:=fun (R':List Qd) (h:R'.length=w) (H:List Ent)=>Ay0 (A84 (G:=G) (e:=97) (sz:=4) (len:=n) (c:=c) (b:=b) (xs:=qds A) (ys:=qds R') (zs:=qds B) (us:=[]) (H:=H) (k * w * 4) (by rw[Z4,hA]) (by rw[Z4];omega))
  have hov:=fun (R':List Qd) (hR':R'.length=w) (i:Int) (q:Qd) (hi:i.toNat<w)=>show over (qds A++qds R'++qds B) (k * w * 4+i.toNat * 4) (qd q)=qds A++qds (R'.set i.toNat q)++qds B from by
    rw[←hA];exact AH8 q (by rw[hR'];exact hi)
  have hll:=fun (R':List Qd) (hR':R'.length=w) (i:Int) (hi:i.toNat<w)=>show k * w * 4+i.toNat * 4+4≤(qds A++qds R'++qds B).length from by
    rw[List.length_append,List.length_append,Z4,Z4,hA,hR'];omega
  have hlR:=fun (R':List Qd) (hR':R'.length=w)=>show (qds R').length=w * 4 from by rw[Z4,hR']
  generalize k * w=p at *
  clear e1 e2 hn hA
  have h1:=hlR R hR
  have h2:=hlR (R.set (col:Int).toNat (r,x,y,z)) (by rw[List.length_set,hR])
  have o1:over (qds A++qds R++qds B) (p * 4+(col:Int).toNat * 4) [.int .i64 r,.int .i64 x,.int .i64 y,.int .i64 z]=qds A++qds (R.set (col:Int).toNat (r,x,y,z))++qds B:=hov R hR (col:Int) (r,x,y,z) (by omega)
  have l1:=hll R hR (col:Int) (by omega)
  haveI:=hrd R hR
  haveI:=hrd (R.set (col:Int).toNat (r,x,y,z)) (by rw[List.length_set,hR])
  unfold putQ
  by_cases hwd:H5 r=2
  · rw[if_pos hwd]
    have hc2:=hcol2 hwd
    have o2:over (qds A++qds (R.set (col:Int).toNat (r,x,y,z))++qds B) (p * 4+((col:Int)+1).toNat * 4) [.int .i64 0,.int .i64 x,.int .i64 y,.int .i64 z]=qds A++qds ((R.set (col:Int).toNat (r,x,y,z)).set ((col:Int)+1).toNat (0,x,y,z))++qds B:=hov (R.set (col:Int).toNat (r,x,y,z)) (by rw[List.length_set,hR]) ((col:Int)+1) (0,x,y,z) (by omega)
    have l2:=hll (R.set (col:Int).toNat (r,x,y,z)) (by rw[List.length_set,hR]) ((col:Int)+1) (by omega)
    have cP2:=fun H=>cP H ((R.set (col:Int).toNat (r,x,y,z)).set ((col:Int)+1).toNat (0,x,y,z)) (by rw[List.length_set,List.length_set,hR])
    rw[show R.set col (r,x,y,z)=R.set (col:Int).toNat (r,x,y,z) from by rw[Int.toNat_natCast]]
    rw[show (R.set (col:Int).toNat (r,x,y,z)).set (col+1) (0,x,y,z)=(R.set (col:Int).toNat (r,x,y,z)).set ((col:Int)+1).toNat (0,x,y,z) from by rw[show ((col:Int)+1).toNat=col+1 from by omega]]
    rw[hwd] at cW
    clear cP hov hll hlR hcol2 hwd hrd
    refine AU2 Tryz.func157 rfl rfl rfl rfl rfl ?_
    repeat' (first|(apply F3;first|(apply C8;refine A8 ?_)|(apply C9;refine D8 rfl rfl ?_)|(apply E5;refine F5 rfl rfl rfl ?_;first|(apply M0;refine L9 ⟨by omega,by omega⟩ ?_)|refine F7 rfl ?_)|(apply F4;refine F8 rfl rfl ?_;refine K5 rfl ?_)|(apply D6;refine D9 rfl rfl ?_)|(apply P5;refine R7 (O6 rfl rfl rfl) rfl ?_)|(apply M4;first|(refine N9 (K6 rfl rfl rfl h1 (by omega) (by omega)) rfl ?_)|(refine N9 (K6 rfl rfl rfl h2 (by omega) (by omega)) rfl ?_))|(apply H6;first|refine F9 rfl rfl rfl (cR _) rfl rfl ?_ |refine F9 rfl rfl rfl (cW _) rfl rfl ?_ |(refine c_call rfl rfl rfl (AC0 PickOwn.here (cP2 _)) rfl rfl ?_;rintro _ _ ⟨rfl,rfl⟩))|(apply H9;first|(refine AR4 rfl rfl rfl rfl rfl rfl (Nat.zero_lt_succ 3) l1 rfl ?_;rw[o1])|(refine AR4 rfl rfl rfl rfl rfl rfl (Nat.zero_lt_succ 3) l2 rfl ?_;rw[o2]))|(apply K9;refine O5 rfl rfl rfl rfl rfl rfl (fun _=>?_)))|(apply D7)|(apply A7)|(refine G5 rfl ?_;apply I7)|(apply D5))
    refine AG7 (_::H) (by (exact .inl rfl)) rfl (List.Sublist.cons_cons _ N7) ?_
    exact⟨rfl,rfl⟩
  · rw[if_neg hwd]
    have cP1:=fun H=>cP H (R.set (col:Int).toNat (r,x,y,z)) (by rw[List.length_set,hR])
    rw[show R.set col (r,x,y,z)=R.set (col:Int).toNat (r,x,y,z) from by rw[Int.toNat_natCast]]
    generalize H5 r=wd at *
    clear cP hov hll hlR hcol2 hrd
    refine AU2 Tryz.func157 rfl rfl rfl rfl rfl ?_
    repeat' (first|(apply F3;first|(apply C8;refine A8 ?_)|(apply C9;refine D8 rfl rfl ?_)|(apply E5;refine F5 rfl rfl rfl ?_;refine F7 rfl ?_)|(apply F4;refine F8 rfl rfl ?_;refine K5 rfl ?_)|(apply D6;refine D9 rfl rfl ?_)|(apply P5;refine R7 (O6 rfl rfl rfl) rfl ?_)|(apply M4;refine N9 (K6 rfl rfl rfl h1 (by omega) (by omega)) rfl ?_)|(apply H6;first|refine F9 rfl rfl rfl (cR _) rfl rfl ?_ |refine F9 rfl rfl rfl (cW _) rfl rfl ?_ |(refine c_call rfl rfl rfl (AC0 PickOwn.here (cP1 _)) rfl rfl ?_;rintro _ _ ⟨rfl,rfl⟩))|(apply H9;refine AR4 rfl rfl rfl rfl rfl rfl (Nat.zero_lt_succ 3) l1 rfl ?_;rw[o1])|(apply K9;refine O5 rfl rfl rfl rfl rfl rfl (fun _=>?_)))|(apply D7)|(apply G9)|(apply A7)|(refine G5 rfl ?_;apply E9<;>intro hq<;>(try (exfalso;omega)))|(apply D5))
    refine AG7 (_::H) (by (exact .inl rfl)) rfl (List.Sublist.cons_cons _ N7) ?_
    exact⟨rfl,rfl⟩
end Go.Proofs.YtmmnimagbnlcmaaGreatDoor
namespace Go.Sx
open Go Go.RowKit Go.Fw
end Go.Sx
namespace Go.Proofs.YtmmnimagbnlcmaaGreatDoor
open Go Go.RowKit Go.Fw Go.Sx
set_option maxRecDepth 100000
set_option maxHeartbeats 1000000
attribute [local irreducible] SW SL SQ AtQ SV SC BB LD PK Yields SO SOT SOA SY
theorem AT5 (G:Ctx) (H:List Ent) (C:List Qd) {vs:List Value} (w h:Int) (a:Option Addr) (n c:Nat) [h1:RdC G H a vs] (hv:vs=qds C) (hn:n=C.length) (hm:n≤100000):SC Tryz.prog G 85 [gridV w h a n c] H fun v H'=>∃a' c',v=gridV w h a' n c'∧H'= .own 97 4 a' n c' (qds C)::H:=by
  subst hv
  have cC:=fun (H:List Ent) {vs:List Value} [RdC G H a vs] (hv:vs=qds C)=>AQ5 G H C a n c hv hn hm
  refine Y3 Tryz.func85 rfl rfl rfl rfl rfl ?_
  repeat' (first|(apply F3;first|(apply C8;refine A8 ?_)|(apply F4;refine F8 rfl rfl ?_;first|refine G6 rfl ?_ |refine K5 rfl ?_)|(apply G7;refine G8 (E8 rfl rfl) rfl ?_)|(apply H6;refine c_call rfl rfl rfl (cC _ rfl) rfl rfl ?_;rintro _ _ ⟨a2,c2,rfl,rfl⟩)|(apply H9;first|refine U3 rfl rfl rfl rfl rfl rfl rfl ?_ |refine M6 rfl rfl rfl rfl rfl rfl rfl rfl ?_)|(apply K9;refine O5 rfl rfl rfl rfl rfl rfl (fun _=>?_))|(apply L6;refine O0 rfl rfl rfl rfl (fun _=>?_)))|(apply D7)|(apply H7)|(apply A7)|(apply D5))
  refine d9 (.own 97 4 a2 n c2 (qds C)::H) (by (exact .inr rfl)) rfl rfl rfl I8 ?_
  exact⟨a2,c2,rfl,rfl⟩
abbrev gridZ:Value:=gridV 0 0 none 0 0
end Go.Proofs.YtmmnimagbnlcmaaGreatDoor
namespace Go.Proofs.YtmmnimagbnlcmaaGreatDoor
open Go Go.RowKit Go.Fw Go.Sx
set_option maxRecDepth 100000
set_option maxHeartbeats 1000000
attribute [local irreducible] SW SL SQ AtQ SV SC BB LD PK Yields SO SOT SOA SY
theorem Ag2 {w h:Int} {C:List Qd} (h0:gridE w h C=0):(1≤w∧w≤160∧1≤h∧h≤60)∧(C.length:Int)=w * h:=by
  unfold gridE at h0
  split at h0
  · cases h0
  · rename_i h1
    refine⟨?_,?_⟩
    · rcases AL5 w h with ⟨_,h2⟩|⟨h2,_⟩
      · exact h2
      · exact absurd h2 h1
    · split at h0
      · cases h0
      · rename_i h3
        exact Classical.not_not.1 h3
theorem BA6 {w h:Nat} {C:List Qd} (h0:gridE w h C=0):∀k,k<h→∀i,i<w→l7 (rowQ w C k) i=true:=by
  obtain⟨h1,h2⟩:=Ag2 h0
  unfold gridE at h0
  rw[if_neg (by rcases AL5 (w:Int) (h:Int) with ⟨e,_⟩|⟨_,e⟩;(rw[e];decide);exact absurd h1 e),if_neg (by rw[h2];simp)] at h0
  split at h0
  · rename_i h3
    have:=(AY5 _ _ _).1 h3
    simpa using this
  · cases h0
end Go.Proofs.YtmmnimagbnlcmaaGreatDoor
namespace Go.Sx
open Go Go.RowKit Go.Fw
end Go.Sx
namespace Go.Proofs.YtmmnimagbnlcmaaGreatDoor
open Go Go.RowKit Go.Fw Go.Sx
set_option maxRecDepth 100000
set_option maxHeartbeats 1000000
attribute [local irreducible] SW SL SQ AtQ SV SC BB LD PK Yields SO SOT SOA SY
theorem BC5 (G:Ctx) (H:List Ent) (C D:List Qd) {vs us:List Value} (w h w2 h2:Int) (a a2:Option Addr) (n m c c2:Nat) [h1:RdC G H a vs] [h3:RdC G H a2 us] (hv:vs=qds C) (hu:us=qds D) (hn:n=C.length) (hm:m=D.length) (hb:n≤100000) (hb2:m≤100000) (e1:w=w2) (e2:h=h2) (e3:C=D):SV Tryz.prog G 32 [gridV w h a n c,gridV w2 h2 a2 m c2] H (.bool true):=by
  subst hv hu e1 e2
  have cE:=fun (H:List Ent) {vs us:List Value} [RdC G H a vs] [RdC G H a2 us] (hv:vs=qds C) (hu:us=qds D)=>Ab6 G H C D a a2 n m c c2 hv hu hn hm hb hb2
  rw[decide_eq_true e3] at cE
  clear hn hm e3
  refine P7 Tryz.func32 rfl rfl rfl rfl rfl ?_
  repeat' (first|(apply F3;first|(apply C8;refine A8 ?_)|(apply C9;refine D8 rfl rfl ?_)|(apply E5;refine F5 rfl rfl rfl ?_;refine F7 rfl ?_)|(apply F4;refine F8 rfl rfl ?_;refine G6 rfl ?_)|(apply D6;refine D9 rfl rfl ?_)|(apply I6;refine I9 rfl rfl ?_;apply Q9;refine Q8 rfl ?_)|(apply G7;refine G8 (E8 rfl rfl) rfl ?_)|(apply H6;refine F9 rfl rfl rfl (cE _ rfl rfl) rfl rfl ?_)|(apply K9;refine O5 rfl rfl rfl rfl rfl rfl (fun _=>?_))|(apply I1;refine J9 rfl rfl rfl rfl ?_;first|(apply I7)|(apply E9<;>intro hq<;>(try (exfalso;omega)))))|(apply D7)|(apply H7)|(apply A7)|(apply D5))
  all_goals (refine M3 (by (exact .inr rfl)) rfl N7 ?_;rfl)
end Go.Proofs.YtmmnimagbnlcmaaGreatDoor
end
namespace Go.Proofs.YtmmnimagbnlcmaaGreatDoor
open Go Go.RowKit Go.Fw Go.Sx
set_option maxRecDepth 100000
section
set_option maxHeartbeats 1000000
attribute [local irreducible] SW SL SQ AtQ SV SC BB LD PK Yields SO SOT SOA SY
theorem Bg1 (G:Ctx) (H:List Ent) (k:Int) (hk:0≤k∧k<2147483648):SV Tryz.prog G 266 [.int .u64 1,.int .u64 k] H (.tuple #[.int .u64 0,.int .u64 k]):=by
  refine P7 Tryz.func266 rfl rfl rfl rfl rfl ?_
  repeat' (first|(apply F3;first|(apply C8;refine A8 ?_)|(apply C9;refine D8 rfl rfl ?_)|(apply E5;refine F5 rfl rfl rfl ?_;first|refine Bi5 (by omega) (by omega) ?_ |(first|(apply M0;refine L9 ⟨by omega,by omega⟩ ?_)|(apply BY3;refine AQ7 ⟨by omega,by omega⟩ ?_)|(apply BR0;refine BQ0 rfl rfl rfl ?_)))|(apply D6;refine D9 rfl rfl ?_))|(apply D7)|(apply H7)|(apply A7)|(apply D5))
  refine M3 (by (exact .inr rfl)) rfl N7 ?_
  have e1:k / 4294967296=0:=by omega
  simp [resV,e1]
theorem B85 (G:Ctx) (H:List Ent) (k:Int) (hk:0≤k∧k<2147483648):SV Tryz.prog G 242 [.int .u64 1,.int .u64 k] H (.tuple #[.int .u64 0,.int .u64 k]):=by
  have c:=fun H=>Bg1 G H k hk
  refine P7 Tryz.func242 rfl rfl rfl rfl rfl ?_
  repeat' (first|(apply F3;first|(apply C8;refine A8 ?_)|(apply C9;refine D8 rfl rfl ?_)|(apply D6;refine D9 rfl rfl ?_)|(apply Q6;refine U2 (K7 rfl rfl rfl) rfl ?_)|(apply H6;refine F9 rfl rfl rfl (c _) rfl rfl ?_))|(apply D7)|(apply G9)|(apply H7)|(apply A7)|(refine G5 rfl ?_;apply I5)|(apply D5))
  refine M3 (by (exact .inr rfl)) rfl N7 ?_
  rfl
end
end Go.Proofs.YtmmnimagbnlcmaaGreatDoor
