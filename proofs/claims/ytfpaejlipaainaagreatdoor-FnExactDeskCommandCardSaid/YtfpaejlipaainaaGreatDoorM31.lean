/- Texts that belong together, joined: contracts and plain laws. No statement is proved here. -/
import Derived.Test.YtfpaejlipaainaaGreatDoorM30
set_option maxRecDepth 100000
set_option maxHeartbeats 4000000
namespace Go.Proofs.YtfpaejlipaainaaGreatDoor
open Go.ChangeShapes Go.WideShapes Go.ChangeAt Go.RowKit Go.Deep
theorem Vm (n:Int)(w:World)(h0:0<=n)(h1:n<=10):Calls Tryz.prog 34 #[.int .i64 n] w λe w'=>e = .returned (.string (XA n))/\Below w.heap.size w w':=by
 rcases(by omega:n=0\/n=1\/n=2\/n=3\/n=4\/n=5\/n=6\/n=7\/n=8\/n=9\/n=10) with rfl|rfl|rfl|rfl|rfl|rfl|rfl|rfl|rfl|rfl|rfl
 all_goals (
  clear h0 h1;go_enter Tryz.func34,Tryz.ntmps34;go_wp2
  go_ret;exact⟨rfl,by go_grown⟩)
theorem ZcQ (l:List Heap)(x:Heap):0<=mPutC l x/\mPutC l x<=10:=by
 unfold mPutC;repeat' split
 all_goals omega
theorem Ze1 {s:ByteArray}{x:Entry}(h:ZI s=0):0<=(mAdd s x).2/\(mAdd s x).2<=10:=by
 by_cases hk:x.ok=true
 ·by_cases hd:x.fDay<lastDay (ents s)
  ·rw[Qj h hk hd];(first|decide|simp)
  ·by_cases hf:4000<(Zae s x).size
   ·rw[Ql h hk hd hf];(first|decide|simp)
   ·rw[Qk h hk hd hf];(first|decide|simp)
 ·rw[ZaX h (by simpa using hk)];(first|decide|simp)
theorem Ze0 (d:DeskM)(c:Cmd)(ws:List ByteArray)(n:List Int):0<=(mAsk d c ws n).2/\(mAsk d c ws n).2<=10:=by
 cases c<;>simp only[mAsk]
 case cRound=>unfold mRoundC;split<;>(first|decide|simp)
 case cWord =>
  unfold mRowC;repeat' split
  all_goals (first|decide|simp)
 case cSound=>unfold mSoundC;split<;>(first|decide|simp)
 case cAdd =>
  unfold mStkC;repeat' split
  all_goals (first|decide|simp)
 case cJoins =>
  unfold ordC;repeat' split
  all_goals (first|decide|simp)
 case cBroken=>unfold newC;split<;>(first|decide|simp)
 case cFew =>
  unfold fewC;repeat' split
  all_goals (first|decide|simp)
 all_goals (first|decide|simp)
theorem QN {d:DeskM}{c:Cmd}{ws:List ByteArray}(h:d.ok=true):0<=(mDo d c ws).2.2/\(mDo d c ws).2.2<=10:=by
 obtain⟨h1,h2,h3,h4,h5⟩:=DeskM.ok_parts.1 h;unfold mDo;split
 ·unfold mText
  cases c<;>simp only
  case cStroke=>split<;>(first|decide|simp)
  case cHeap =>
   split
   ·exact ZcQ _ _
   ·(first|decide|simp)
  all_goals (first|decide|simp)
 ·split
  ·unfold mWork
   cases c<;>simp only
   case cStakes=>split<;>(first|decide|simp)
   case cKinds =>
    unfold kindsCd;repeat' split
    all_goals (first|decide|simp)
   case cEnter=>exact Ze1 h5
   all_goals exact Ze0 _ _ _ _
  ·(first|decide|simp)
end Go.Proofs.YtfpaejlipaainaaGreatDoor
