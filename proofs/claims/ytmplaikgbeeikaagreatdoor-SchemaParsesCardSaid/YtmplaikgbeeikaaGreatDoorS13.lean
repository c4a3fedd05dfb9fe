/- Parts of the proof, joined: SxB0, SxB1, SxR0, SxR1. -/
import Derived.Test.YtmplaikgbeeikaaGreatDoorS11
import Derived.Test.YtmplaikgbeeikaaGreatDoorS12
set_option maxRecDepth 100000
set_option maxHeartbeats 4000000
set_option linter.unusedVariables false
set_option linter.unusedSimpArgs false
set_option linter.unusedSectionVars false
namespace Go.Proofs.YtmplaikgbeeikaaGreatDoor
open Go Go.RowKit
section
def GSchP (w:World) (e:Ending) (w':World):Prop:=∃ (x:Sch) (A:Option Addr) (c:Nat) (B:Option Addr) (d:Nat) (C:Option Addr) (f nk nl nr:Nat),e=.returned (.agg #[.int .i64 x.1,.slice A nk c,.slice B nl d,.slice C nr f])/\Sx.valid x=0/\Mem.rep [] w' x [.int .i64 x.1,.slice A nk c,.slice B nl d,.slice C nr f]/\Below w.heap.size w w'
theorem gsch_any (l:List Int) (A:Option Addr) (c:Nat) (w:World) (hs:SlAt [] w A l) (hc:l.length<=c) (hm:c<=9223372036854775807):Calls Tryz.prog 9 #[.slice A l.length c] w (GSchP w):=by
 refine (gschema_any l A c w hs hc hm).mono ?_
 rintro e w' ⟨x,v,rfl,hx,⟨us,rfl,hr⟩,hb⟩
 obtain ⟨A1,c1,A2,c2,A3,c3,rfl,_⟩:=rep_sch hr
 exact ⟨x,A1,c1,A2,c2,A3,c3,_,_,_,rfl,hx.valid,hr,hb⟩
theorem src_len {x:Sch} (h:Sx.valid x=0):(Sx.source x).length<=8192:=(Sx.valid_ok h).2
theorem short_le (m:Nat) (s:ByteArray):(shortB m s).size<=m:=by
 unfold shortB
 split
 ·rw [ByteArray.size_extract];omega
 ·omega
theorem tdiv6_in {n:Int} (h:inI n):inI (n.tdiv 6):=tdiv_in n 6 h.1 h.2 (by omega)
end
section
theorem pparse_open (s:ByteArray) (w:World) (hs:s.size<=9223372036854775807) (he:SEnv w) {x:Sch} {k e:Int} (hp:Sx.parse s.data.toList=(x,k,e)):Calls Tryz.prog 13 #[.string s] w fun e' w'=>∃ (A:Option Addr) (c:Nat) (B:Option Addr) (d:Nat) (C:Option Addr) (f nk nl nr:Nat),e'=.returned (.tuple #[.agg #[.int .i64 x.1,.slice A nk c,.slice B nl d,.slice C nr f],.int .i64 k,.int .i64 e])/\Mem.rep [] w' x [.int .i64 x.1,.slice A nk c,.slice B nl d,.slice C nr f]/\Below w.heap.size w w':=by
 refine (pparse_any s w hs he).mono ?_
 rintro e' w' ⟨us,h1,h2,h3⟩
 rw [hp] at h1 h2
 obtain ⟨A,c,B,d,C,f,rfl,_⟩:=rep_sch h2
 exact ⟨A,c,B,d,C,f,_,_,_,h1,h2,h3⟩
structure TksOk (s:ByteArray) (tk:List Tk):Prop where
 bd:∀ p∈tk,p.1 < p.2/\p.2<=s.size
 sz:s.size<=8192
 ln:tk.length<=8192
theorem TksOk.piece {s:ByteArray} {tk:List Tk} (h:TksOk s tk) {p:Tk} (hp:p∈tk):(Vm.piece s.data.toList p.1 p.2).length=p.2 - p.1:=by
 have:=h.bd p hp
 unfold Vm.piece;rw [List.length_drop,List.length_take,Vm.strLn];omega
theorem TksOk.tok {s:ByteArray} {tk:List Tk} (h:TksOk s tk) (i:Nat):TokOk ((tk.map (tokOf s)).drop i):=by
 refine ⟨by rw [List.length_drop,List.length_map];have:=h.ln;omega,fun t ht=>?_⟩
 obtain ⟨p,hp,rfl⟩:=List.mem_map.1 (List.mem_of_mem_drop ht)
 have h1:=h.bd p hp
 have h2:=h.sz
 have h3:=h.piece hp
 refine ⟨fun e=>?_,?_,?_⟩
 ·have e:Vm.piece s.data.toList p.1 p.2=[]:=e
  rw [e] at h3;simp at h3;omega
 ·show (Vm.piece s.data.toList p.1 p.2).length<=8192
  omega
 ·show p.1<=8192
  omega
def RC (s:ByteArray) (tk:List Tk) (st:Sx.St) (cs:Array Value) (M:List Nat) (W:World):Prop:=∃ A c I,cs=#[.string s,.slice A tk.length c,.int .i64 (I:Nat),.bool st.2]/\st.1=(tk.map (tokOf s)).drop I/\I<=tk.length/\SlAt M W A (tk.map tokI)/\TksOk s tk
theorem rc_keeps (s:ByteArray) (tk:List Tk) (st:Sx.St) (cs:Array Value):Keeps (RC s tk st cs) :=
 ⟨fun _ _ _ ⟨A,c,I,h1,h2,h3,h4,h5⟩ hc=>⟨A,c,I,h1,h2,h3,h4.keep hc,h5⟩,fun _ _ _ ⟨A,c,I,h1,h2,h3,h4,h5⟩ hs=>⟨A,c,I,h1,h2,h3,h4.sub hs,h5⟩⟩
@[reducible] def rk (w:World) (g:Nat) (s:ByteArray) (tk:List Tk):PK:=⟨w,g,94,RC s tk,rc_keeps s tk⟩
section
variable {s:ByteArray} {tk:List Tk} {w:World} {g:Nat} {st:Sx.St} {M:List Nat} {bx:List Box} {rs:List Rw} {L:List (List Nat->World->Prop)} {W:World}
theorem rk_tok (h:PH (rk w g s tk) st M bx rs L W):TokOk st.1:=by
 obtain ⟨cs,hb,A,c,I,rfl,h1,h2,h3,h4⟩:=h.pbox
 rw [h1];exact h4.tok I
theorem rk_pk (h:PH (rk w g s tk) st M bx rs L W):(Sx.ofT (Sx.pk st)).size<=8192:=by rw [ofT_size];exact Sx.pk_len st fun t ht=>((rk_tok h).2 t ht).2.1
theorem rk_step (h:PH (rk w g s tk) st M bx rs L W) (r:Bool):(Sx.ofT (Sx.step st r).1).size<=8192:=by rw [ofT_size];exact Sx.step_len st r fun t ht=>((rk_tok h).2 t ht).2.1
theorem drop_at {α:Type} {l:List α} {i:Nat} (h:i < l.length):l.drop i=l[i]::l.drop (i+1):=List.drop_eq_getElem_cons h
theorem look_any (h:PH (rk w g s tk) st M bx rs L W) :
  Calls Tryz.prog 43 #[.pointer (some ⟨g,0,none⟩)] W fun e W'=>e=.returned (.string (Sx.ofT (Sx.pk st)))/\Below W.heap.size W W':=by
 obtain ⟨cs,hb,A,c,I,rfl,hst,hI,hsl,hok⟩:=h.pbox
 obtain ⟨c0,c1,c2,c3⟩:=aN4 hb.cell
 obtain ⟨l,f⟩:=st
 simp at c0 c1 c2 c3
 obtain ⟨n,hn⟩:=aX tk.length
 have hn2:=hok.ln
 clear h hb
 cases f
 ·by_cases hlt:I < n
  ·have hik:I < tk.length:=by omega
   obtain ⟨b,o,rfl,_,d0,d1⟩:=tk_at hsl I hik
   have hbd:=hok.bd _ (List.getElem_mem hik)
   have hsz:=hok.sz
   have e:Sx.pk (l,false)=Vm.piece s.data.toList tk[I].1 tk[I].2:=by
    obtain rfl:l=(tk.map (tokOf s)).drop I:=hst
    rw [drop_at (by simpa using hik)]
    show ((tk.map (tokOf s))[I]'_).1=_
    rw [List.getElem_map];rfl
   rw [e,<-ext_ofT]
   obtain ⟨p,hp⟩:=aX (tk[I])
   rw [hp] at d0 d1 hbd ⊢
   obtain ⟨a,z⟩:=p
   obtain ⟨m,hm⟩:=aX s.size
   have hms:s.size=m:=hm
   rw [hm] at hbd hsz
   dsimp only at d0 d1 hbd ⊢
   rw [hn] at c1 hn2
   have k0:(0:Int)<=(I:Int):=aa _
   have k1:(I:Int) < (n:Int):=by omega
   have k2:¬ (n:Int)<=(I:Int):=by omega
   have k3:(a:Int)<=(z:Int):=by omega
   have k4:(z:Int)<=(m:Int):=by omega
   have k5:(0:Int)<=(a:Int):=aa _
   clear hsl hok hn hst e hp hik hm
   go_enter Tryz.func43,Tryz.ntmps43
   go_wp2_with fail
   go_region
   go_wp2_with fail
   go_region
   go_wp2_with fail
   go_ret
   exact ⟨rfl,⟨rfl,rfl,rfl,ag _,fun _ _=>rfl⟩⟩
  ·have e:Sx.pk (l,false)=[]:=by
    obtain rfl:l=(tk.map (tokOf s)).drop I:=hst
    rw [List.drop_eq_nil_of_le (by rw [List.length_map];omega)];rfl
   rw [e]
   rw [hn] at c1 hn2
   have k1:(n:Int)<=(I:Int):=by omega
   clear hsl hok hn hst e
   go_enter Tryz.func43,Tryz.ntmps43
   go_wp2_with fail
   go_region
   go_wp2_with fail
   go_ret
   exact ⟨rfl,⟨rfl,rfl,rfl,ag _,fun _ _=>rfl⟩⟩
 ·clear hsl hok
  go_enter Tryz.func43,Tryz.ntmps43
  go_wp2_with fail
  go_region
  go_wp2_with fail
  go_ret
  exact ⟨rfl,⟨rfl,rfl,rfl,ag _,fun _ _=>rfl⟩⟩
theorem rk_open (h:PH (rk w g s tk) st M bx rs L W):∃ I:Nat,I<=8192/\W.cell? ⟨g,2,none⟩=some (.int .i64 (I:Int))/\W.cell? ⟨g,3,none⟩=some (.bool st.2)/\W.frozen? ⟨g,2,none⟩=false/\W.frozen? ⟨g,3,none⟩=false/\PH (rk w g s tk) (st.1,true) M bx rs L (W.setCell ⟨g,3,none⟩ (.bool true)) /\
  ∀ t l,st.1=t::l->PH (rk w g s tk) (l,st.2) M bx rs L (W.setCell ⟨g,2,none⟩ (.int .i64 ((I+1:Nat):Int))):=by
 obtain ⟨cs,H⟩:=h.it
 obtain ⟨A,c,I,rfl,hst,hI,hsl,hok⟩:=H.fact (.head _)
 have hb:=H.box (.head _)
 have hln:=hok.ln
 refine ⟨I,by omega,hb.cell 2,hb.cell 3,hb.frozen 2,hb.frozen 3,PH.turn H 3 (.bool true) ⟨A,c,I,rfl,hst,hI,hsl.keep (Chg.set_ W (p:=⟨g,3,none⟩) (H.h.bs _ (.head _)).1 _),hok⟩,fun t l hl=>?_⟩
 have hlen:(t::l).length=tk.length - I:=by rw [<-hl,hst];simp
 rw [List.length_cons] at hlen
 have hl2:l=(tk.map (tokOf s)).drop (I+1):=by
  have e:t::l=(tk.map (tokOf s)).drop I:=hl ▸ hst
  rw [drop_at (by rw [List.length_map];omega)] at e
  injection e with _ e
 exact PH.turn H 2 _ ⟨A,c,I+1,rfl,hl2,by omega,hsl.keep (Chg.set_ W (p:=⟨g,2,none⟩) (H.h.bs _ (.head _)).1 _),hok⟩
theorem take1_any (r:Bool) (h:PH (rk w g s tk) st M bx rs L W) :
  Calls Tryz.prog 88 #[.pointer (some ⟨g,0,none⟩),.bool r] W fun e W'=>e=.returned (.string (Sx.ofT (Sx.step st r).1))/\PH (rk w g s tk) (Sx.step st r).2 M bx rs L W':=by
 have CP:=aI (look_any h)
 have htok:=rk_tok h
 have T:=aI h
 obtain ⟨l,f⟩:=st
 clear h
 cases f
 ·cases l with
  | nil =>
   rw [step_nil]
   have z:(Sx.ofT []).toList.isEmpty=true:=ofT_empty.1
   have z2:(Sx.ofT []).data.toList.isEmpty=true:=ofT_empty.2
   unfold Sx.pk at CP
   simp only [Bool.false_eq_true,if_false] at CP
   clear htok
   cases r <;> (go_enter Tryz.func88,Tryz.ntmps88;go_wp2_with (go_at_call 43;(with_reducible refine (CP.out).mono ?_);rintro e w1 ⟨rfl,hb1⟩;obtain ⟨I,i1,c2,c3,f2,f3,hT,hN⟩:=rk_open (T.out.below hb1);have HT:=aI hT;have HN:=aI hN;have hw1:IntKind.i64.wrap ((I:Int)+1)=((I+1:Nat):Int):=(by rw [wrapI (by unfold inI;omega)];omega);clear hT hN hb1;dsimp only at c2 c3);go_ret;exact ⟨rfl,HT.out⟩)
  | cons t l =>
   have htn:=(htok.2 t (.head _)).1
   have z:(Sx.ofT t.1).toList.isEmpty=false:=by rw [ofT_empty.1];cases h:t.1 with | nil=>exact absurd h htn | cons _ _=>rfl
   have z2:(Sx.ofT t.1).data.toList.isEmpty=false:=by rw [ofT_empty.2];cases h:t.1 with | nil=>exact absurd h htn | cons _ _=>rfl
   unfold Sx.pk at CP
   simp only [Bool.false_eq_true,if_false] at CP
   clear htn htok
   cases r
   ·rw [step_no]
    go_enter Tryz.func88,Tryz.ntmps88
    go_wp2_with (go_at_call 43;(with_reducible refine (CP.out).mono ?_);rintro e w1 ⟨rfl,hb1⟩;obtain ⟨I,i1,c2,c3,f2,f3,hT,hN⟩:=rk_open (T.out.below hb1);have HT:=aI hT;have HN:=aI hN;have hw1:IntKind.i64.wrap ((I:Int)+1)=((I+1:Nat):Int):=(by rw [wrapI (by unfold inI;omega)];omega);clear hT hN hb1;dsimp only at c2 c3)
    go_ret
    exact ⟨rfl,HT.out⟩
   ·rw [step_yes]
    go_enter Tryz.func88,Tryz.ntmps88
    go_wp2_with (go_at_call 43;(with_reducible refine (CP.out).mono ?_);rintro e w1 ⟨rfl,hb1⟩;obtain ⟨I,i1,c2,c3,f2,f3,hT,hN⟩:=rk_open (T.out.below hb1);have HT:=aI hT;have HN:=aI hN;have hw1:IntKind.i64.wrap ((I:Int)+1)=((I+1:Nat):Int):=(by rw [wrapI (by unfold inI;omega)];omega);clear hT hN hb1;dsimp only at c2 c3)
    go_ret
    exact ⟨rfl,HN.out _ _ rfl⟩
 ·rw [step_failed]
  have z:(Sx.ofT []).toList.isEmpty=true:=ofT_empty.1
  have z2:(Sx.ofT []).data.toList.isEmpty=true:=ofT_empty.2
  unfold Sx.pk at CP
  simp only [if_true] at CP
  clear htok
  cases r <;> (go_enter Tryz.func88,Tryz.ntmps88;go_wp2_with (go_at_call 43;(with_reducible refine (CP.out).mono ?_);rintro e w1 ⟨rfl,hb1⟩;obtain ⟨I,i1,c2,c3,f2,f3,hT,hN⟩:=rk_open (T.out.below hb1);have HT:=aI hT;have HN:=aI hN;have hw1:IntKind.i64.wrap ((I:Int)+1)=((I+1:Nat):Int):=(by rw [wrapI (by unfold inI;omega)];omega);clear hT hN hb1;dsimp only at c2 c3);go_ret;exact ⟨rfl,HT.out⟩)
theorem want_any (wd:Sx.Txt) (h:PH (rk w g s tk) st M bx rs L W) :
  Calls Tryz.prog 41 #[.pointer (some ⟨g,0,none⟩),.string (Sx.ofT wd)] W fun e W'=>e=.returned (.tuple #[])/\PH (rk w g s tk) (Sx.step st (Sx.pk st == wd)).2 M bx rs L W':=by
 have T:=aI h
 have q:=ofT_eqB (Sx.pk st) wd
 clear h
 obtain ⟨r,hr⟩:=aX ((Sx.pk st == wd))
 rw [hr] at q ⊢
 clear hr
 go_enter Tryz.func41,Tryz.ntmps41
 go_wp2_with (first | (go_at_call 43;(with_reducible refine (look_any T.out).mono ?_);rintro e w1 ⟨rfl,hb1⟩;replace T:=aI (T.out.below hb1);clear hb1) | (go_at_call 88;(with_reducible refine (take1_any _ T.out).mono ?_);rintro e w1 ⟨rfl,h1⟩;replace T:=aI h1;clear h1))
 go_end0
 exact ⟨rfl,T.out⟩
end
theorem rIsName_any (s:ByteArray) (w:World) (hs:s.size<=9223372036854775807):Calls Tryz.prog 128 #[.string s] w fun e w'=>e=.returned (.bool (Sx.nm s))/\w=w':=by
 rw [nm_is]
 have HL:=aI rLetter_any
 have HD:=aI rDigit_any
 obtain ⟨n,hn⟩:=aX s.size
 have hsn:s.size=n:=hn
 by_cases h1:1<=n
 ·by_cases h12:n<=12
  ·have h0s:0 < s.size:=by omega
   have hne:0 < s.data.toList.length:=by rw [Vm.strLn];exact h0s
   have h0:s.data.toList.headD 0=(s[0]'h0s):=by
    rw [<-Vm.str_get s 0 h0s hne]
    rw [List.headD_eq_head?_getD,List.head?_eq_getElem?,List.getElem?_eq_getElem hne]
    rfl
   rw [h0,hn,ac h1,ac h12,Bool.true_and,Bool.true_and]
   have cl:=HL.out (s[0]'h0s)
   obtain ⟨bl,hbl⟩:=aX (Sx.letterB (s[0]'h0s))
   rw [hbl] at cl ⊢
   have CL:=aI cl
   have t1:decide ((n:Int) < 1)=false:=ad (by omega)
   have t2:decide ((12:Int) < (n:Int))=false:=ad (by omega)
   have t3:decide (n < 1)=false:=ad (by omega)
   have t4:decide (12 < n)=false:=ad (by omega)
   have k1:(0:Int) < (n:Int):=by omega
   clear cl hbl h0 hne hn hs
   cases bl
   ·go_enter Tryz.func128,Tryz.ntmps128
    go_wp2_with (go_at_call 164;(with_reducible refine aS (CL.out _) ?_))
    go_ret
    exact ⟨rfl,rfl⟩
   ·rw [Bool.true_and]
    obtain ⟨al,hal⟩:=aX (s.data.toList.all Sx.alnumB)
    rw [hal]
    have HA0:=aI hal
    clear hal
    go_enter Tryz.func128,Tryz.ntmps128
    go_wp2_with (go_at_call 164;(with_reducible refine aS (CL.out _) ?_))
    clear CL
    go_loopg [3] n (fun r i wr=>∃ k:Nat,k+r=n/\i=.int .i64 k/\wr=w/\∀ j (hj:j < s.data.toList.length),j < k->Sx.alnumB s.data.toList[j]=true)
    case atStart=>exact ⟨0,by omega,rfl,rfl,fun _ _ h=>by omega⟩
    case round =>
     obtain ⟨k,hk,rfl,rfl,hall⟩:=hrel
     obtain ⟨w,rfl⟩:=aY wr
     have HA:=aI hall
     clear hall
     by_cases hlt:k < n
     ·have hkd:k < s.size:=by omega
      have hget:k < s.data.toList.length:=by rw [Vm.strLn];exact hkd
      have k0:(0:Int)<=(k:Int):=aa _
      have k1:(k:Int) < (n:Int):=by omega
      have hsn2:s.data.toList[k]=s[k]:=Vm.str_get s k hkd hget
      have cl:=HL.out (s[k]'hkd)
      have cd:=HD.out (s[k]'hkd)
      obtain ⟨b1,hb1⟩:=aX (Sx.letterB (s[k]'hkd))
      obtain ⟨b2,hb2⟩:=aX (Dc.isDig (s[k]'hkd))
      rw [hb1] at cl
      rw [hb2] at cd
      have CL:=aI cl
      have CD:=aI cd
      have HAL:=aI (show Sx.alnumB s.data.toList[k]=(b1 || b2) by unfold Sx.alnumB;rw [hsn2,hb1,hb2])
      clear cl cd hb1 hb2 hsn2
      cases b1
      ·cases b2
       ·have HR:=aI (HA0.out.symm.trans (all_bad (b:=Sx.alnumB) hget HAL.out))
        go_wp2_with (first | (go_at_call 164;(with_reducible refine aS (CL.out _) ?_)) | (go_at_call 127;(with_reducible refine aS (CD.out _) ?_)))
        go_ret
        exact ⟨by rw [HR.out];rfl,rfl⟩
       ·go_wp2_with (first | (go_at_call 164;(with_reducible refine aS (CL.out _) ?_)) | (go_at_call 127;(with_reducible refine aS (CD.out _) ?_)))
        go_roundg (gk - 1)
        case measure=>omega
        case rel =>
         refine ⟨k+1,by omega,by go_num,rfl,fun q hq hlt=>?_⟩
         rcases aj q k with h' | h'
         ·exact HA.out q hq h'
         ·obtain rfl:q=k:=by omega
          exact HAL.out
      ·go_wp2_with (first | (go_at_call 164;(with_reducible refine aS (CL.out _) ?_)) | (go_at_call 127;(with_reducible refine aS (CD.out _) ?_)))
       go_roundg (gk - 1)
       case measure=>omega
       case rel =>
        refine ⟨k+1,by omega,by go_num,rfl,fun q hq hlt=>?_⟩
        rcases aj q k with h' | h'
        ·exact HA.out q hq h'
        ·obtain rfl:q=k:=by omega
         rw [HAL.out];rfl
     ·have HR:=aI (HA0.out.symm.trans <| all_good (b:=Sx.alnumB) fun q hq=>HA.out q hq (by rw [Vm.strLn] at hq;omega))
      have k1:¬ (k:Int) < (n:Int):=by omega
      go_wp2_with fail
      go_ret
      exact ⟨by rw [HR.out];rfl,rfl⟩
  ·rw [hn,ac h1,ad h12,Bool.true_and,Bool.false_and]
   have t1:decide ((n:Int) < 1)=false:=ad (by omega)
   have t2:decide ((12:Int) < (n:Int))=true:=ac (by omega)
   have t3:decide (n < 1)=false:=ad (by omega)
   have t4:decide (12 < n)=true:=ac (by omega)
   go_enter Tryz.func128,Tryz.ntmps128
   go_wp2_with fail
   go_ret
   exact ⟨rfl,rfl⟩
 ·rw [hn,ad h1,Bool.false_and,Bool.false_and]
  have t1:decide ((n:Int) < 1)=true:=ac (by omega)
  have t3:decide (n < 1)=true:=ac (by omega)
  go_enter Tryz.func128,Tryz.ntmps128
  go_wp2_with fail
  go_ret
  exact ⟨rfl,rfl⟩
theorem rNames_any (l:List ByteArray) (A:Option Addr) (c:Nat) (w:World) (hs:SlAt [] w A l) (hm:l.length<=9223372036854775807):Calls Tryz.prog 131 #[.slice A l.length c] w fun e w'=>e=.returned (.bool (l.all Sx.nm))/\w=w':=by
 have HNm:=aI rIsName_any
 obtain ⟨n,hn⟩:=aX l.length
 have HS:=aI hs
 have HN:=aI hn
 rw [hn] at hm ⊢
 clear hs hn
 obtain ⟨al,hal⟩:=aX (l.all Sx.nm)
 rw [hal]
 have HA0:=aI hal
 clear hal
 go_enter Tryz.func131,Tryz.ntmps131
 go_wp2_with fail
 go_loopg [3] n (fun r i wr=>∃ k:Nat,k+r=n/\i=.int .i64 k/\wr=w/\∀ j (hj:j < l.length),j < k->Sx.nm l[j]=true)
 case atStart=>exact ⟨0,by omega,rfl,rfl,fun _ _ h=>by omega⟩
 case round =>
  obtain ⟨k,hk,rfl,rfl,hall⟩:=hrel
  obtain ⟨w,rfl⟩:=aY wr
  have HA:=aI hall
  clear hall
  by_cases hlt:k < n
  ·have hkp:k < l.length:=by rw [HN.out];exact hlt
   have k0:(0:Int)<=(k:Int):=aa _
   have k1:(k:Int) < (n:Int):=by omega
   obtain ⟨b,o,rfl,_,c0,hin⟩:=str_at HS.out k hkp
   have cv:=fun w=>HNm.out l[k] w hin
   obtain ⟨bb,hbb⟩:=aX (Sx.nm l[k])
   rw [hbb] at cv
   have CV:=aI cv
   have HBB:=aI hbb
   obtain ⟨x0,hx0⟩:=aX (l[k])
   rw [hx0] at CV c0
   clear cv hbb hx0 hin
   cases bb
   ·have HR:=aI (HA0.out.symm.trans (all_bad (b:=Sx.nm) hkp HBB.out))
    go_wp2_with (go_at_call 128;(with_reducible refine aS (CV.out _) ?_))
    go_ret
    exact ⟨by rw [HR.out];rfl,rfl⟩
   ·go_wp2_with (go_at_call 128;(with_reducible refine aS (CV.out _) ?_))
    go_roundg (gk - 1)
    case measure=>omega
    case rel =>
     refine ⟨k+1,by omega,by go_num,rfl,fun q hq hlt=>?_⟩
     rcases aj q k with h' | h'
     ·exact HA.out q hq h'
     ·obtain rfl:q=k:=by omega
      exact HBB.out
  ·have HR:=aI (HA0.out.symm.trans <| all_good (b:=Sx.nm) fun q hq=>HA.out q hq (by rw [HN.out] at hq;omega))
   have k1:¬ (k:Int) < (n:Int):=by omega
   go_wp2_with fail
   go_ret
   exact ⟨by rw [HR.out];rfl,rfl⟩
end
end Go.Proofs.YtmplaikgbeeikaaGreatDoor
