/- Parts of the proof, joined: SxT0, SxT1, SxT2, SxT3, SxT4. -/
import Derived.Test.YtmplaikgbeeikaaGreatDoorK3
import Derived.Test.YtmplaikgbeeikaaGreatDoorK6
import Derived.Test.YtmplaikgbeeikaaGreatDoorK15
import Derived.Test.YtmplaikgbeeikaaGreatDoorK17
set_option linter.unusedVariables false
set_option linter.unusedSimpArgs false
set_option linter.unusedSectionVars false
namespace Go.Proofs.YtmplaikgbeeikaaGreatDoor
open Go Go.RowKit
set_option maxRecDepth 100000 in
set_option maxHeartbeats 8000000 in
theorem rValue_any (s:ByteArray) (w:World) (hs:s.size≤8192):Calls Tryz.prog 89 #[.string s] w fun e w'=>∃ n:Int,e=.returned (.tuple #[.int .i64 n,.bool (Sx.numB s.data.toList)])∧inI n∧(Sx.numB s.data.toList=true→n=Sx.numV s.data.toList)∧w=w':=by
 obtain ⟨l,hl⟩:∃ l,s.data.toList=l:=⟨_,rfl⟩
 have HL:=aI hl
 obtain ⟨m,hm⟩:∃ m,s.size=m:=⟨_,rfl⟩
 have hms:s.size=m:=hm
 rw [hl]
 by_cases hneg:Sx.neg l=true
 ·have h1:0 < s.size:=by
   rcases Nat.eq_zero_or_pos s.size with h | h
   ·rw [← hl,List.eq_nil_of_length_eq_zero (show s.data.toList.length=0 by rw [Vm.strLn];exact h)] at hneg;cases hneg
   ·exact h
  have hc:(s[0]'h1).toNat=45:=by
   have h2:0 < s.data.toList.length:=by rw [Vm.strLn];exact h1
   have h3:=Vm.str_get s 0 h1 h2
   unfold Sx.neg at hneg
   rw [← hl] at hneg
   rw [List.head?_eq_getElem?,List.getElem?_eq_getElem h2,h3] at hneg
   simp at hneg
   rw [hneg];rfl
  have HDG:=aI (show Sx.digs l=s.data.toList.drop 1 by unfold Sx.digs;rw [if_pos hneg,← hl,List.drop_one])
  have HNEG:=aI hneg
  have HNB:=aI (show Sx.numB l=(decide (1≤m - 1) && (decide (m - 1≤9) && (s.data.toList.drop 1).all Dc.isDig)) by unfold Sx.numB;rw [HDG.out,List.length_drop,Vm.strLn,hm])
  have t1:(((s[0]'h1).toNat:Int) == 45)=true:=by rw [hc];rfl
  have t2:(0:Int) < (m:Int):=by omega
  clear hneg hc hl
  go_enter Tryz.func89,Tryz.ntmps89
  go_upto_region 4 with fail
  by_cases hbig:m - 1≤9∧1 < m
  ·obtain ⟨hb1,hb2⟩:=hbig
   have e1:((m:Int) == 1)=false:=by simp;omega
   have e2:decide (((1:Int)+9) < (m:Int))=false:=decide_eq_false (by omega)
   have e3:decide ((9:Int) < (m:Int))=decide ((9:Int) < (m:Int)):=rfl
   clear e3
   have k9:¬ ((1:Int)+9) < (m:Int):=by omega
   have k8:(m:Int)≤1+9:=by omega
   have k7:¬ (m:Int)=1:=by omega
   go_wp2_with fail
   go_loopg [5,6] (m - 1) (fun r v i wr=>∃ k:Nat,k+r=m - 1∧i=.int .i64 ((k+1:Nat):Int)∧v=.int .i64 (Dc.decV ((s.data.toList.drop 1).take k):Nat)∧((s.data.toList.drop 1).take k).all Dc.isDig=true∧wr=w)
   case atStart=>exact ⟨0,by omega,rfl,rfl,rfl,rfl⟩
   case round =>
    obtain ⟨k,hk,rfl,rfl,hall,rfl⟩:=hrel
    obtain ⟨w,rfl⟩:∃ w0:World,w0=wr:=⟨_,rfl⟩
    have hlt:=Dc.decV_lt _ hall
    have hl9:10 ^ ((s.data.toList.drop 1).take k).length≤10 ^ 9:=Nat.pow_le_pow_right (by omega) (by rw [List.length_take];omega)
    rw [show (10:Nat) ^ 9=1000000000 from rfl] at hl9
    obtain ⟨q,hq⟩:∃ q,Dc.decV ((s.data.toList.drop 1).take k)=q:=⟨_,rfl⟩
    rw [hq] at hlt ⊢
    have hq9:q < 1000000000:=by omega
    have HQ:=aI hq
    have HALL:=aI hall
    clear hlt hl9 hq hall
    obtain ⟨j,hj⟩:∃ j:Nat,k+1=j:=⟨_,rfl⟩
    rw [hj]
    by_cases hlt:j < m
    ·have hjd:j < s.size:=by omega
     have k0:(0:Int)≤(j:Int):=Int.natCast_nonneg _
     have k1:(j:Int) < (m:Int):=by omega
     have hget:j < s.data.toList.length:=by rw [Vm.strLn];exact hjd
     have hget2:k < (s.data.toList.drop 1).length:=by rw [List.length_drop];omega
     have HSN:=aI (take_snoc' (s.data.toList.drop 1) k hget2)
     have hsn2:(s.data.toList.drop 1)[k]=s[j]:=by
      rw [← Vm.str_get s j hjd hget,List.getElem_drop]
      congr 1;omega
     have CD:=aI (rDigit_any (s[j]'hjd))
     cases hd:Dc.isDig (s[j]'hjd)
     ·rw [hd] at CD
      have HV:=aI (show (s.data.toList.drop 1).all Dc.isDig=false by
       cases hb:(s.data.toList.drop 1).all Dc.isDig with
       | false=>rfl
       | true=>have h:=List.all_eq_true.1 hb _ (List.getElem_mem hget2);rw [hsn2,hd] at h;cases h)
      clear hd hsn2 hj
      go_wp2_with (go_at_call 127;((with_reducible refine (CD.out _).mono ?_));rintro e w2 ⟨rfl,rfl⟩)
      go_ret2
      have HF:=aI (show Sx.numB l=false by rw [HNB.out,HV.out];simp)
      exact ⟨0,by rw [HF.out];rfl,by unfold inI;omega,(fun h=>by rw [HF.out] at h;cases h),rfl⟩
     ·rw [hd] at CD
      have h57:48≤(s[j]'hjd).toNat∧(s[j]'hjd).toNat≤57:=by
       unfold Dc.isDig at hd
       simp only [Bool.and_eq_true,decide_eq_true_eq] at hd
       exact hd
      have HN:=aI (show Dc.decV ((s.data.toList.drop 1).take (k+1))=10*q+((s[j]'hjd).toNat - 48) by rw [HSN.out,Dc.decV_snoc,HQ.out,hsn2])
      have HA2:=aI (show ((s.data.toList.drop 1).take (k+1)).all Dc.isDig=true by rw [HSN.out,List.all_append,HALL.out,hsn2];simp [hd])
      obtain ⟨x,hx⟩:∃ x,(s[j]'hjd).toNat=x:=⟨_,rfl⟩
      rw [hx] at h57 HN CD
      clear hd hsn2
      go_wp2_with (go_at_call 127;((with_reducible refine (CD.out _).mono ?_));rintro e w2 ⟨rfl,rfl⟩)
      go_roundg (gk - 1)
      case measure=>omega
      case rel=>exact ⟨k+1,by omega,by first | (rw [← hj];go_num) | go_num,by rw [HN.out];congr 1;omega,HA2.out,rfl⟩
    ·have hkm:k=m - 1:=by omega
     have k1:¬ (j:Int) < (m:Int):=by omega
     have hfull:(s.data.toList.drop 1).take k=s.data.toList.drop 1:=List.take_of_length_le (by rw [List.length_drop,Vm.strLn];omega)
     rw [hfull] at HALL HQ
     have HNT:=aI (show Sx.numB l=true by
      rw [HNB.out,HALL.out,decide_eq_true (show 1≤m - 1 by omega),decide_eq_true hb1];rfl)
     have HNV:=aI (show Sx.numV l=-(q:Int) by unfold Sx.numV;rw [HNEG.out,HDG.out,HQ.out];rfl)
     clear hfull hkm hj
     go_wp2_with fail
     go_ret2
     exact ⟨-(q:Int),by rw [HNT.out];rfl,by unfold inI;omega,fun _=>HNV.out.symm,rfl⟩
  ·have HF:=aI (show Sx.numB l=false by
    rw [HNB.out]
    rcases Nat.lt_or_ge 1 m with h | h
    ·rw [decide_eq_false (show ¬ m - 1≤9 from fun h9=>hbig ⟨h9,h⟩)];simp
    ·rw [decide_eq_false (show ¬ 1≤m - 1 by omega)];simp)
   by_cases he:m=1
   ·subst he
    clear hbig
    go_wp2_with fail
    go_ret2
    exact ⟨0,by rw [HF.out];rfl,by unfold inI;omega,(fun h=>by rw [HF.out] at h;cases h),rfl⟩
   ·have e1:((m:Int) == 1)=false:=by simp;omega
    have k9:(1:Int)+9 < (m:Int):=by omega
    have k7:¬ (m:Int)=1:=by omega
    clear hbig
    go_wp2_with fail
    go_ret2
    exact ⟨0,by rw [HF.out];rfl,by unfold inI;omega,(fun h=>by rw [HF.out] at h;cases h),rfl⟩
 ·have hneg:Sx.neg l=false:=by simpa using hneg
  have HDG:=aI (show Sx.digs l=s.data.toList.drop 0 by unfold Sx.digs;rw [hneg,← hl];rfl)
  have HNEG:=aI hneg
  have HNB:=aI (show Sx.numB l=(decide (1≤m - 0) && (decide (m - 0≤9) && (s.data.toList.drop 0).all Dc.isDig)) by unfold Sx.numB;rw [HDG.out,List.length_drop,Vm.strLn,hm])
  by_cases h0:0 < m
  ·have h1:0 < s.size:=by omega
   have t1:(((s[0]'h1).toNat:Int) == 45)=false:=by
    have h2:0 < s.data.toList.length:=by rw [Vm.strLn];exact h1
    have h3:=Vm.str_get s 0 h1 h2
    unfold Sx.neg at hneg
    rw [← hl] at hneg
    rw [List.head?_eq_getElem?,List.getElem?_eq_getElem h2,h3] at hneg
    simp at hneg
    simp
    intro h
    exact hneg (UInt8.toNat_inj.1 (by rw [Int.natCast_inj.1 (h:((s[0]'h1).toNat:Int)=((45:Nat):Int))];rfl))
   have t2:(0:Int) < (m:Int):=by omega
   clear hneg hl
   go_enter Tryz.func89,Tryz.ntmps89
   go_upto_region 4 with fail
   by_cases hbig:m - 0≤9∧0 < m
   ·obtain ⟨hb1,hb2⟩:=hbig
    have e1:((m:Int) == 0)=false:=by simp;omega
    have e2:decide (((0:Int)+9) < (m:Int))=false:=decide_eq_false (by omega)
    have e3:decide ((9:Int) < (m:Int))=decide ((9:Int) < (m:Int)):=rfl
    clear e3
    have k9:¬ ((0:Int)+9) < (m:Int):=by omega
    have k8:(m:Int)≤0+9:=by omega
    have k7:¬ (m:Int)=0:=by omega
    go_wp2_with fail
    go_loopg [5,6] (m - 0) (fun r v i wr=>∃ k:Nat,k+r=m - 0∧i=.int .i64 ((k+0:Nat):Int)∧v=.int .i64 (Dc.decV ((s.data.toList.drop 0).take k):Nat)∧((s.data.toList.drop 0).take k).all Dc.isDig=true∧wr=w)
    case atStart=>exact ⟨0,by omega,rfl,rfl,rfl,rfl⟩
    case round =>
     obtain ⟨k,hk,rfl,rfl,hall,rfl⟩:=hrel
     obtain ⟨w,rfl⟩:∃ w0:World,w0=wr:=⟨_,rfl⟩
     have hlt:=Dc.decV_lt _ hall
     have hl9:10 ^ ((s.data.toList.drop 0).take k).length≤10 ^ 9:=Nat.pow_le_pow_right (by omega) (by rw [List.length_take];omega)
     rw [show (10:Nat) ^ 9=1000000000 from rfl] at hl9
     obtain ⟨q,hq⟩:∃ q,Dc.decV ((s.data.toList.drop 0).take k)=q:=⟨_,rfl⟩
     rw [hq] at hlt ⊢
     have hq9:q < 1000000000:=by omega
     have HQ:=aI hq
     have HALL:=aI hall
     clear hlt hl9 hq hall
     obtain ⟨j,hj⟩:∃ j:Nat,k+0=j:=⟨_,rfl⟩
     rw [hj]
     by_cases hlt:j < m
     ·have hjd:j < s.size:=by omega
      have k0:(0:Int)≤(j:Int):=Int.natCast_nonneg _
      have k1:(j:Int) < (m:Int):=by omega
      have hget:j < s.data.toList.length:=by rw [Vm.strLn];exact hjd
      have hget2:k < (s.data.toList.drop 0).length:=by rw [List.length_drop];omega
      have HSN:=aI (take_snoc' (s.data.toList.drop 0) k hget2)
      have hsn2:(s.data.toList.drop 0)[k]=s[j]:=by
       rw [← Vm.str_get s j hjd hget,List.getElem_drop]
       congr 1;omega
      have CD:=aI (rDigit_any (s[j]'hjd))
      cases hd:Dc.isDig (s[j]'hjd)
      ·rw [hd] at CD
       have HV:=aI (show (s.data.toList.drop 0).all Dc.isDig=false by
        cases hb:(s.data.toList.drop 0).all Dc.isDig with
        | false=>rfl
        | true=>have h:=List.all_eq_true.1 hb _ (List.getElem_mem hget2);rw [hsn2,hd] at h;cases h)
       clear hd hsn2 hj
       go_wp2_with (go_at_call 127;((with_reducible refine (CD.out _).mono ?_));rintro e w2 ⟨rfl,rfl⟩)
       go_ret2
       have HF:=aI (show Sx.numB l=false by rw [HNB.out,HV.out];simp)
       exact ⟨0,by rw [HF.out];rfl,by unfold inI;omega,(fun h=>by rw [HF.out] at h;cases h),rfl⟩
      ·rw [hd] at CD
       have h57:48≤(s[j]'hjd).toNat∧(s[j]'hjd).toNat≤57:=by
        unfold Dc.isDig at hd
        simp only [Bool.and_eq_true,decide_eq_true_eq] at hd
        exact hd
       have HN:=aI (show Dc.decV ((s.data.toList.drop 0).take (k+1))=10*q+((s[j]'hjd).toNat - 48) by rw [HSN.out,Dc.decV_snoc,HQ.out,hsn2])
       have HA2:=aI (show ((s.data.toList.drop 0).take (k+1)).all Dc.isDig=true by rw [HSN.out,List.all_append,HALL.out,hsn2];simp [hd])
       obtain ⟨x,hx⟩:∃ x,(s[j]'hjd).toNat=x:=⟨_,rfl⟩
       rw [hx] at h57 HN CD
       clear hd hsn2
       go_wp2_with (go_at_call 127;((with_reducible refine (CD.out _).mono ?_));rintro e w2 ⟨rfl,rfl⟩)
       go_roundg (gk - 1)
       case measure=>omega
       case rel=>exact ⟨k+1,by omega,by first | (rw [← hj];go_num) | go_num,by rw [HN.out];congr 1;omega,HA2.out,rfl⟩
     ·have hkm:k=m - 0:=by omega
      have k1:¬ (j:Int) < (m:Int):=by omega
      have hfull:(s.data.toList.drop 0).take k=s.data.toList.drop 0:=List.take_of_length_le (by rw [List.length_drop,Vm.strLn];omega)
      rw [hfull] at HALL HQ
      have HNT:=aI (show Sx.numB l=true by
       rw [HNB.out,HALL.out,decide_eq_true (show 1≤m - 0 by omega),decide_eq_true hb1];rfl)
      have HNV:=aI (show Sx.numV l=(q:Int) by unfold Sx.numV;rw [HNEG.out,HDG.out,HQ.out];rfl)
      clear hfull hkm hj
      go_wp2_with fail
      go_ret2
      exact ⟨(q:Int),by rw [HNT.out];rfl,by unfold inI;omega,fun _=>HNV.out.symm,rfl⟩
   ·have HF:=aI (show Sx.numB l=false by
     rw [HNB.out]
     rcases Nat.lt_or_ge 0 m with h | h
     ·rw [decide_eq_false (show ¬ m - 0≤9 from fun h9=>hbig ⟨h9,h⟩)];simp
     ·rw [decide_eq_false (show ¬ 1≤m - 0 by omega)];simp)
    by_cases he:m=0
    ·subst he
     clear hbig
     go_wp2_with fail
     go_ret2
     exact ⟨0,by rw [HF.out];rfl,by unfold inI;omega,(fun h=>by rw [HF.out] at h;cases h),rfl⟩
    ·have e1:((m:Int) == 0)=false:=by simp;omega
     have k9:(0:Int)+9 < (m:Int):=by omega
     have k7:¬ (m:Int)=0:=by omega
     clear hbig
     go_wp2_with fail
     go_ret2
     exact ⟨0,by rw [HF.out];rfl,by unfold inI;omega,(fun h=>by rw [HF.out] at h;cases h),rfl⟩
  ·have hm0:m=0:=by omega
   have HF:=aI (show Sx.numB l=false by rw [HNB.out,hm0];rfl)
   subst hm0
   clear hneg hl
   go_enter Tryz.func89,Tryz.ntmps89
   go_wp2_with fail
   go_ret2
   exact ⟨0,by rw [HF.out];rfl,by unfold inI;omega,(fun h=>by rw [HF.out] at h;cases h),rfl⟩
end Go.Proofs.YtmplaikgbeeikaaGreatDoor
namespace Go.Proofs.YtmplaikgbeeikaaGreatDoor
open Go Go.RowKit
theorem Sx.nx_number2 (st:Sx.St) {n:Int} (h:Sx.numB (Sx.pk st)=true→n=Sx.numV (Sx.pk st)):Sx.Nx Sx.number st n (Sx.step st (Sx.numB (Sx.pk st))).2:=by
 have h1:=Sx.nx_map (f:=Sx.numV) (Sx.nx_step_pk (right:=Sx.numB) (st:=st))
 rcases Sx.step_one st (Sx.numB (Sx.pk st)) with ⟨e1,e2,_⟩ | ⟨_,e2⟩
 ·rw [e1] at h1;rw [h e2];exact h1
 ·exact Sx.nx_any h1 e2
section
variable {s:ByteArray} {tk:List Tk} {w:World} {g:Nat} {st:Sx.St} {M:List Nat} {bx:List Box} {rs:List Rw} {L:List (List Nat→World→Prop)} {W:World}
set_option maxHeartbeats 2000000 in
theorem tnum_any (h:PH (rk w g s tk) st M bx rs L W) :
  Calls Tryz.prog 42 #[.pointer (some ⟨g,0,none⟩)] W fun e W'=>∃ (n:Int) (st':Sx.St),e=.returned (.int .i64 n)∧inI n∧Sx.Nx Sx.number st n st'∧PH (rk w g s tk) st' M bx rs L W':=by
 have T:=aI h
 have CV:=aI (fun W=>rValue_any (Sx.ofT (Sx.pk st)) W (rk_pk h))
 simp only [ofT_list] at CV
 have HX:=aI (fun (n:Int)=>Sx.nx_number2 st (n:=n))
 obtain ⟨r,hr⟩:∃ r,Sx.numB (Sx.pk st)=r:=⟨_,rfl⟩
 rw [hr] at CV HX
 clear h hr
 go_enter Tryz.func42,Tryz.ntmps42
 go_wp2_with (first | (go_at_call 43;((with_reducible refine (look_any T.out).mono ?_));rintro e w1 ⟨rfl,hb1⟩;replace T:=aI (T.out.below hb1);clear hb1) | (go_at_call 89;((with_reducible refine (CV.out _).mono ?_));rintro e w1 ⟨n,rfl,hn,hv,rfl⟩;have HN:=aI hn;have HV:=aI hv;clear hn hv) | (go_at_call 88;((with_reducible refine (take1_any _ T.out).mono ?_));rintro e w1 ⟨rfl,h1⟩;replace T:=aI h1;clear h1))
 go_ret
 exact ⟨_,_,rfl,HN.out,HX.out _ HV.out,T.out⟩
set_option maxHeartbeats 2000000 in
theorem tcnt_any (h:PH (rk w g s tk) st M bx rs L W) :
  Calls Tryz.prog 93 #[.pointer (some ⟨g,0,none⟩)] W fun e W'=>∃ (n:Int) (st':Sx.St),e=.returned (.int .i64 n)∧inI n∧Sx.Nx Sx.count st n.toNat st'∧(st'.2=false→1≤n∧n≤12)∧PH (rk w g s tk) st' M bx rs L W':=by
 have T:=aI h
 have CV:=aI (fun W=>rValue_any (Sx.ofT (Sx.pk st)) W (rk_pk h))
 simp only [ofT_list] at CV
 have HX:=aI (fun (n:Int)=>Sx.nx_count st (n:=n))
 have HS:=aI (fun r=>Sx.step_one st r)
 obtain ⟨r,hr⟩:∃ r,Sx.numB (Sx.pk st)=r:=⟨_,rfl⟩
 rw [hr] at CV HX
 clear h hr
 go_enter Tryz.func93,Tryz.ntmps93
 cases r
 ·go_wp2_with (first | (go_at_call 43;((with_reducible refine (look_any T.out).mono ?_));rintro e w1 ⟨rfl,hb1⟩;replace T:=aI (T.out.below hb1);clear hb1) | (go_at_call 89;((with_reducible refine (CV.out _).mono ?_));rintro e w1 ⟨n,rfl,hn,hv,rfl⟩;have HN:=aI hn;have HV:=aI hv;clear hn hv) | (go_at_call 88;((with_reducible refine (take1_any _ T.out).mono ?_));rintro e w1 ⟨rfl,h1⟩;replace T:=aI h1;clear h1))
  go_ret
  refine ⟨_,_,rfl,HN.out,Sx.nx_count' (HX.out _ (fun hb=>by cases hb)),fun hf=>?_,T.out⟩
  rcases HS.out false with ⟨_,h,_⟩ | ⟨_,h⟩
  ·cases h
  ·rw [Bool.false_and] at hf;rw [hf] at h;cases h
 ·go_upto_region 2 with (first | (go_at_call 43;((with_reducible refine (look_any T.out).mono ?_));rintro e w1 ⟨rfl,hb1⟩;replace T:=aI (T.out.below hb1);clear hb1) | (go_at_call 89;((with_reducible refine (CV.out _).mono ?_));rintro e w1 ⟨n,rfl,hn,hv,rfl⟩;have HN:=aI hn;have HV:=aI hv;clear hn hv))
  obtain ⟨b,hb⟩:∃ b,Sx.within n 1 12=b:=⟨_,rfl⟩
  have HW:=aI hb
  have hbb:(decide (1≤n) && decide (n≤12))=b:=hb
  by_cases h1:1≤n
  ·by_cases h12:n≤12
   ·have k1:¬ n < 1:=by omega
    have e1:b=true:=by rw [← hbb,decide_eq_true h1,decide_eq_true h12];rfl
    subst e1
    clear hb hbb
    go_wp2_with (first | (go_at_call 43;((with_reducible refine (look_any T.out).mono ?_));rintro e w1 ⟨rfl,hb1⟩;replace T:=aI (T.out.below hb1);clear hb1) | (go_at_call 88;((with_reducible refine (take1_any _ T.out).mono ?_));rintro e w1 ⟨rfl,h1⟩;replace T:=aI h1;clear h1))
    go_ret
    have h9:=HX.out n HV.out
    rw [Bool.true_and,HW.out] at h9
    exact ⟨_,_,rfl,HN.out,Sx.nx_count' h9,fun _=>⟨h1,h12⟩,T.out⟩
   ·have e1:b=false:=by rw [← hbb,decide_eq_false h12,Bool.and_false]
    have k2:12 < n:=by omega
    subst e1
    clear hb hbb
    go_wp2_with (first | (go_at_call 43;((with_reducible refine (look_any T.out).mono ?_));rintro e w1 ⟨rfl,hb1⟩;replace T:=aI (T.out.below hb1);clear hb1) | (go_at_call 88;((with_reducible refine (take1_any _ T.out).mono ?_));rintro e w1 ⟨rfl,h1⟩;replace T:=aI h1;clear h1))
    go_ret
    have h9:=HX.out n HV.out
    rw [Bool.true_and,HW.out] at h9
    refine ⟨_,_,rfl,HN.out,Sx.nx_count' h9,fun hf=>?_,T.out⟩
    rcases HS.out false with ⟨_,h,_⟩ | ⟨_,h⟩
    ·cases h
    ·rw [hf] at h;cases h
  ·have e1:b=false:=by rw [← hbb,decide_eq_false h1,Bool.false_and]
   have k2:n < 1:=by omega
   subst e1
   clear hb hbb
   go_wp2_with (first | (go_at_call 43;((with_reducible refine (look_any T.out).mono ?_));rintro e w1 ⟨rfl,hb1⟩;replace T:=aI (T.out.below hb1);clear hb1) | (go_at_call 88;((with_reducible refine (take1_any _ T.out).mono ?_));rintro e w1 ⟨rfl,h1⟩;replace T:=aI h1;clear h1))
   go_ret
   have h9:=HX.out n HV.out
   rw [Bool.true_and,HW.out] at h9
   refine ⟨_,_,rfl,HN.out,Sx.nx_count' h9,fun hf=>?_,T.out⟩
   rcases HS.out false with ⟨_,h,_⟩ | ⟨_,h⟩
   ·cases h
   ·rw [hf] at h;cases h
set_option maxHeartbeats 2000000 in
theorem tname_any (h:PH (rk w g s tk) st M bx rs L W) :
  Calls Tryz.prog 90 #[.pointer (some ⟨g,0,none⟩)] W fun e W'=>∃ (n:Sx.Txt) (st':Sx.St),e=.returned (.string (Sx.ofT n))∧(Sx.ofT n).size≤8192∧Sx.Nx Sx.name st n st'∧PH (rk w g s tk) st' M bx rs L W':=by
 have T:=aI h
 have CN:=aI (fun w'=>rIsName_any (Sx.ofT (Sx.pk st)) w' (by have:=rk_pk h;omega))
 simp only [nm_ofT] at CN
 have HZ:=aI (rk_step h (Sx.nameB (Sx.pk st)))
 have HX:=aI (Sx.nx_name st)
 clear h
 obtain ⟨r,hr⟩:∃ r,Sx.nameB (Sx.pk st)=r:=⟨_,rfl⟩
 rw [hr] at CN HZ HX
 clear hr
 go_enter Tryz.func90,Tryz.ntmps90
 go_wp2_with (first | (go_at_call 43;((with_reducible refine (look_any T.out).mono ?_));rintro e w1 ⟨rfl,hb1⟩;replace T:=aI (T.out.below hb1);clear hb1) | (go_at_call 128;((with_reducible refine (CN.out _).mono ?_));rintro e w1 ⟨rfl,rfl⟩) | (go_at_call 88;((with_reducible refine (take1_any _ T.out).mono ?_));rintro e w1 ⟨rfl,h1⟩;replace T:=aI h1;clear h1))
 go_ret
 exact ⟨_,_,rfl,HZ.out,HX.out,T.out⟩
set_option maxHeartbeats 2000000 in
theorem tnames_any (h:PH (rk w g s tk) st M bx rs L W) :
  Calls Tryz.prog 94 #[.pointer (some ⟨g,0,none⟩)] W fun e W'=>∃ (n:Sx.Txt) (st':Sx.St),e=.returned (.string (Sx.ofT n))∧(Sx.ofT n).size≤8192∧Sx.Nx Sx.names st n st'∧PH (rk w g s tk) st' M bx rs L W':=by
 have T:=aI h
 have CN:=aI (fun w'=>rIsName_any (Sx.ofT (Sx.pk st)) w' (by have:=rk_pk h;omega))
 simp only [nm_ofT] at CN
 have HX:=aI (Sx.nx_names st)
 have HZ:=aI (rk_step h)
 unfold Sx.namesR at HX
 have q:((Sx.ofT (Sx.pk st)).toList == [45])=(Sx.pk st == [45]):=by rw [ByteArray.toList_eq,ofT_list]
 clear h
 obtain ⟨b,hb⟩:∃ b,(Sx.pk st == [45])=b:=⟨_,rfl⟩
 rw [hb] at q HX
 cases b
 ·have HS:=aI (fun r=>Sx.step_one st r)
  have hne:∀ r,((Sx.ofT (Sx.step st r).1).toList == [45])=false:=by
   intro r
   rw [ByteArray.toList_eq,ofT_list]
   rcases HS.out r with ⟨e1,_⟩ | ⟨e1,_⟩
   ·rw [e1];exact hb
   ·rw [e1];rfl
  simp only [Bool.false_eq_true,if_false] at HX
  obtain ⟨r,hr⟩:∃ r,Sx.nameB (Sx.pk st)=r:=⟨_,rfl⟩
  rw [hr] at CN HX
  have q2:=hne r
  clear hr hb hne HS
  cases r <;> (go_enter Tryz.func94,Tryz.ntmps94;go_wp2_with (first | (go_at_call 43;((with_reducible refine (look_any T.out).mono ?_));rintro e w1 ⟨rfl,hb1⟩;replace T:=aI (T.out.below hb1);clear hb1) | (go_at_call 128;((with_reducible refine (CN.out _).mono ?_));rintro e w1 ⟨rfl,rfl⟩) | (go_at_call 88;((with_reducible refine (take1_any _ T.out).mono ?_));rintro e w1 ⟨rfl,h1⟩;replace T:=aI h1;clear h1));go_ret;exact ⟨_,_,rfl,HZ.out _,HX.out,T.out⟩)
 ·have hp:Sx.pk st=[45]:=by simpa using hb
  have hnb:Sx.nameB (Sx.pk st)=false:=by rw [hp];exact Sx.minus_name
  rw [hnb] at CN
  simp only [if_true] at HX
  obtain ⟨b2,hb2⟩:∃ b2,((Sx.ofT (Sx.step st true).1).toList == [45])=b2:=⟨_,rfl⟩
  have HY:=aI (show b2=false→(Sx.step st true).2.2=true by
   intro h0
   rcases Sx.step_one st true with ⟨e1,_⟩ | ⟨_,e2⟩
   ·rw [ByteArray.toList_eq,ofT_list,e1,hp] at hb2
    rw [h0] at hb2;exact absurd hb2 (by decide)
   ·exact e2)
  clear hb hp hnb
  cases b2 <;> (go_enter Tryz.func94,Tryz.ntmps94;go_wp2_with (first | (go_at_call 43;((with_reducible refine (look_any T.out).mono ?_));rintro e w1 ⟨rfl,hb1⟩;replace T:=aI (T.out.below hb1);clear hb1) | (go_at_call 128;((with_reducible refine (CN.out _).mono ?_));rintro e w1 ⟨rfl,rfl⟩) | (go_at_call 88;((with_reducible refine (take1_any _ T.out).mono ?_));rintro e w1 ⟨rfl,h1⟩;replace T:=aI h1;clear h1));go_ret)
  ·exact ⟨_,_,rfl,HZ.out _,Sx.nx_any HX.out (by first | exact HY.out rfl | exact HY.out trivial | exact HY.out),T.out⟩
  ·exact ⟨[],_,rfl,Nat.zero_le _,HX.out,T.out⟩
theorem twant_any (wd:Sx.Txt) (b:Array UInt8) (hb:Sx.ofT wd=⟨b⟩) (h:PH (rk w g s tk) st M bx rs L W) :
  Calls Tryz.prog 41 #[.pointer (some ⟨g,0,none⟩),.string ⟨b⟩] W fun e W'=>∃ st',e=.returned (.tuple #[])∧Sx.Nx (Sx.need wd) st () st'∧PH (rk w g s tk) st' M bx rs L W' :=
 hb ▸ (want_any wd h).mono fun _ _ ⟨h1,h2⟩=>⟨_,h1,Sx.nx_need _ _,h2⟩
end
theorem fidx_at {W:List Sx.Txt} {t:Sx.Txt} {k:Nat} (hk:k < W.length) (h1:∀ j,j < k→(t == W.getD j [])=false) (h2:(t == W.getD k [])=true):W.findIdx? (· == t)=some k:=by
 rw [List.findIdx?_eq_some_iff_getElem]
 refine ⟨hk,?_,fun j hj=>?_⟩
 ·rw [List.getD_eq_getElem?_getD,List.getElem?_eq_getElem hk] at h2
  have e:t=W[k]:=by simpa using h2
  simp [e]
 ·have h:=h1 j hj
  rw [List.getD_eq_getElem?_getD,List.getElem?_eq_getElem (by omega)] at h
  have e:¬ t=W[j]:=by simpa using h
  simp [Ne.symm e]
theorem fidx_none {W:List Sx.Txt} {t:Sx.Txt} (h1:∀ j,j < W.length→(t == W.getD j [])=false):W.findIdx? (· == t)=none:=by
 rw [List.findIdx?_eq_none_iff]
 intro x hx
 obtain ⟨j,hj,rfl⟩:=List.getElem_of_mem hx
 have h:=h1 j hj
 rw [List.getD_eq_getElem?_getD,List.getElem?_eq_getElem hj] at h
 have e:¬ t=W[j]:=by simpa using h
 simp [Ne.symm e]
theorem wordI_at {t:Sx.Txt} {k:Nat} (hk:k < 9) (h1:∀ j,j < k→(t == Sx.wordsL.getD j [])=false) (h2:(t == Sx.wordsL.getD k [])=true):Sx.wordI t=k:=Sx.wordI_some (fidx_at hk h1 h2)
theorem wordI_none {t:Sx.Txt} (h1:∀ j,j < 9→(t == Sx.wordsL.getD j [])=false):Sx.wordI t=-1:=by
 have h:Sx.wordOf t=none:=fidx_none (W:=Sx.wordsL) h1
 unfold Sx.wordI
 rw [h]
section
variable {s:ByteArray} {tk:List Tk} {w:World} {g:Nat} {st:Sx.St} {M:List Nat} {bx:List Box} {rs:List Rw} {L:List (List Nat→World→Prop)} {W:World}
set_option maxRecDepth 100000 in
set_option maxHeartbeats 4000000 in
theorem tword_any (h:PH (rk w g s tk) st M bx rs L W) :
  Calls Tryz.prog 91 #[.pointer (some ⟨g,0,none⟩)] W fun e W'=>e=.returned (.int .i64 (Sx.wordI (Sx.pk st)))∧PH (rk w g s tk) st M bx rs L W':=by
 have T:=aI h
 have CW:=aI rwords_any
 clear h
 go_enter Tryz.func91,Tryz.ntmps91
 go_upto_region 2 with (go_at_call 70;((with_reducible refine (CW.out _).mono ?_));rintro e w1 ⟨gw,rfl,hge,hB,hb⟩;have h1:=T.out.below hb;have hnm:gw∉M:=(fun hm=>by have:=T.out.mb _ hm;omega);replace T:=aI (h1.add (P:=fun M W=>gw∉M∧Blk W gw 9 WRD) (keeps_blk _ _ _) ⟨hnm,hB⟩);clear h1 hge hB hb hnm)
 go_wp2_with fail
 go_loopg [4] 9 (fun r i wr=>∃ k:Nat,k+r=9∧i=.int .i64 k∧PH (rk w g s tk) st M bx rs ((fun M W=>gw∉M∧Blk W gw 9 WRD)::L) wr∧∀ j,j < k→(Sx.pk st == Sx.wordsL.getD j [])=false)
 case atStart=>exact ⟨0,by omega,rfl,T.out,fun _ h=>by omega⟩
 case round =>
  clear T
  obtain ⟨k,hk,rfl,hT,hall⟩:=hrel
  obtain ⟨wo,rfl⟩:∃ w0:World,w0=wr:=⟨_,rfl⟩
  have T:=aI hT
  have HA:=aI hall
  clear hall hT
  by_cases hlt:k < 9
  ·have k0:(0:Int)≤(k:Int):=Int.natCast_nonneg _
   have k1:(k:Int) < 9:=by omega
   have HG:=aI (wrd_get k hlt)
   have q:=ofT_eqB (Sx.pk st) (Sx.wordsL.getD k [])
   change ((Sx.ofT (Sx.pk st)).toList == (wdR k).toList)=_ at q
   obtain ⟨r,hr⟩:∃ r,(Sx.pk st == Sx.wordsL.getD k [])=r:=⟨_,rfl⟩
   have HR:=aI hr
   rw [hr] at q
   clear hr
   go_upto_region 5 with fail
   apply wp_region_typed (C:=fun w'=>PH (rk w g s tk) st M bx rs ((fun M W=>gw∉M∧Blk W gw 9 WRD)::L) w') (n:=20) (m:=6) (l1:=[_,_,_,_,_,_]) (l2:=[_])
   ·rfl
   ·rfl
   ·kernel_rfl
   ·rfl
   ·kernel_rfl
   ·exact T.out.drew
   ·exact fun u u' h hb=>(by first | exact h.below hb | exact h.trans (hb.mono h.size))
   (apply wpT_exact;· (intro w' hC hf;unfold Gives;clear hf hC;go_wp2_with (fail);apply postT_val rfl (Below.refl _ _);simp only [valAt,aA,aE,aC,aD,aH];exact rfl));(try simp only [Act.put,aB,aF,aG])
   (apply wpT_exact;· (intro w' hC hf;unfold Gives;have T9:=aI hC;clear hf hC;go_wp2_with (go_at_call 43;((with_reducible refine (look_any T9.out).mono ?_));rintro e w1 ⟨rfl,hb1⟩;have HBL:=aI hb1;clear hb1);apply postT_val rfl HBL.out;simp only [valAt,aA,aE,aC,aD,aH];exact rfl));(try simp only [Act.put,aB,aF,aG])
   iterate 3 ((apply wpT_exact;· (intro w' hC hf;unfold Gives;clear hf hC;go_wp2_with (fail);apply postT_val rfl (Below.refl _ _);simp only [valAt,aA,aE,aC,aD,aH];exact rfl));(try simp only [Act.put,aB,aF,aG]))
   (apply wpT_exact;· (intro w' hC hf;unfold Gives;have y:w'.cell? ⟨gw,k,none⟩=some (.string (wdR k)):=(((hC.fact (.head _)).2.cell k).trans HG.out);clear hf hC;go_wp2_with (fail);apply postT_val rfl (Below.refl _ _);simp only [valAt,aA,aE,aC,aD,aH];exact rfl));(try simp only [Act.put,aB,aF,aG])
   apply wpT_done
   intro w4 hC hall
   have T4:=aI hC
   clear T hC hall
   cases r
   ·go_wp2_with fail
    go_roundg (gk - 1)
    case measure=>omega
    case rel =>
     refine ⟨k+1,by omega,by go_num,T4.out,fun j hj=>?_⟩
     rcases Nat.lt_or_ge j k with h' | h'
     ·exact HA.out j h'
     ·obtain rfl:j=k:=by omega
      exact HR.out
   ·go_wp2_with fail
    go_ret
    exact ⟨by rw [wordI_at hlt HA.out HR.out];rfl,T4.out.tail⟩
  ·have k1:¬ (k:Int) < 9:=by omega
   have hk9:k=9:=by omega
   have HN:=aI (wordI_none (t:=Sx.pk st) (fun j hj=>HA.out j (by omega)))
   clear hk9
   go_wp2_with fail
   go_ret
   exact ⟨by rw [HN.out];rfl,T.out.tail⟩
end
section
variable {s:ByteArray} {tk:List Tk} {w:World} {g:Nat} {st:Sx.St} {M:List Nat} {bx:List Box} {rs:List Rw} {L:List (List Nat→World→Prop)} {W:World}
theorem twantRule_any (h:PH (rk w g s tk) st M bx rs L W) :
  Calls Tryz.prog 41 #[.pointer (some ⟨g,0,none⟩),.string ⟨#[114,117,108,101]⟩] W fun e W'=>∃ st',e=.returned (.tuple #[])∧Sx.Nx (Sx.need Sx.sRule) st () st'∧PH (rk w g s tk) st' M bx rs L W':=twant_any Sx.sRule _ rfl h
theorem twantLife_any (h:PH (rk w g s tk) st M bx rs L W) :
  Calls Tryz.prog 41 #[.pointer (some ⟨g,0,none⟩),.string ⟨#[108,105,102,101]⟩] W fun e W'=>∃ st',e=.returned (.tuple #[])∧Sx.Nx (Sx.need Sx.sLife) st () st'∧PH (rk w g s tk) st' M bx rs L W':=twant_any Sx.sLife _ rfl h
theorem twantKind_any (h:PH (rk w g s tk) st M bx rs L W) :
  Calls Tryz.prog 41 #[.pointer (some ⟨g,0,none⟩),.string ⟨#[107,105,110,100]⟩] W fun e W'=>∃ st',e=.returned (.tuple #[])∧Sx.Nx (Sx.need Sx.sKind) st () st'∧PH (rk w g s tk) st' M bx rs L W':=twant_any Sx.sKind _ rfl h
theorem twantMove_any (h:PH (rk w g s tk) st M bx rs L W) :
  Calls Tryz.prog 41 #[.pointer (some ⟨g,0,none⟩),.string ⟨#[109,111,118,101]⟩] W fun e W'=>∃ st',e=.returned (.tuple #[])∧Sx.Nx (Sx.need Sx.sMove) st () st'∧PH (rk w g s tk) st' M bx rs L W':=twant_any Sx.sMove _ rfl h
theorem twantSchema_any (h:PH (rk w g s tk) st M bx rs L W) :
  Calls Tryz.prog 41 #[.pointer (some ⟨g,0,none⟩),.string ⟨#[115,99,104,101,109,97]⟩] W fun e W'=>∃ st',e=.returned (.tuple #[])∧Sx.Nx (Sx.need Sx.sSchema) st () st'∧PH (rk w g s tk) st' M bx rs L W':=twant_any Sx.sSchema _ rfl h
set_option maxRecDepth 100000 in
set_option maxHeartbeats 8000000 in
theorem trule_any (h:PH (rk w g s tk) st M bx rs L W):Calls Tryz.prog 46 #[.pointer (some ⟨g,0,none⟩)] W (RdA (rk w g s tk) Sx.rule st bx rs L):=by
 obtain ⟨N,hN⟩:∃ n,W.heap.size=n:=⟨_,rfl⟩
 have T:=aI (h.new #[.string ⟨#[]⟩,.string ⟨#[]⟩,.string ⟨#[]⟩,.string ⟨#[]⟩,.int .i64 0] 58 hN)
 clear h
 go_enter Tryz.func46,Tryz.ntmps46
 go_upto_region 3 with (first | (go_at_call 41;((with_reducible refine (twantRule_any T.out).mono ?_));rintro e w1 ⟨st1,rfl,x1,h1⟩;replace T:=aI h1;have X1:=aI x1;clear h1 x1) | (go_at_call 90;((with_reducible refine (tname_any T.out).mono ?_));rintro e w1 ⟨n,st2,rfl,i2,x2,h2⟩;replace T:=aI h2;have X2:=aI x2;have I2:=aI i2;clear h2 x2 i2))
 obtain ⟨N1,hN1⟩:∃ n,w1.heap.size=n:=⟨_,rfl⟩
 replace T:=aI (T.out.new #[.string (Sx.ofT n),.string ⟨#[]⟩,.string ⟨#[]⟩,.string ⟨#[]⟩,.int .i64 0] 58 hN1)
 rw [hN1]
 go_upto_region 7 with (first | (go_at_call 90;(first | (with_reducible refine (tname_any T.out).mono ?_) | (with_reducible refine (tname_any (T.out.set0 _ _)).mono ?_));rintro e w1 ⟨n3,st3,rfl,i3,x3,h3⟩;replace T:=aI h3;have X3:=aI x3;have I3:=aI i3;clear h3 x3 i3;have B:=T.out.box (.head _);have z0:=B.cell 0;have z1:=B.cell 1;have z2:=B.cell 2;have z3:=B.cell 3;have z4:=B.cell 4;have f0:=B.frozen 0;have f1:=B.frozen 1;have f2:=B.frozen 2;have f3:=B.frozen 3;have f4:=B.frozen 4;simp at z0 z1 z2 z3 z4;clear B) | (go_at_call 94;((with_reducible refine (tnames_any (T.out.set0 1 _)).mono ?_));rintro e w1 ⟨n4,st4,rfl,i4,x4,h4⟩;replace T:=aI h4;have X4:=aI x4;have I4:=aI i4;clear h4 x4 i4;clear z0 z1 z2 z3 z4 f0 f1 f2 f3 f4;have B:=T.out.box (.head _);have z0:=B.cell 0;have z1:=B.cell 1;have z2:=B.cell 2;have z3:=B.cell 3;have z4:=B.cell 4;have f0:=B.frozen 0;have f1:=B.frozen 1;have f2:=B.frozen 2;have f3:=B.frozen 3;have f4:=B.frozen 4;simp at z0 z1 z2 z3 z4;clear B) | (go_at_call 94;((with_reducible refine (tnames_any (T.out.set0 2 _)).mono ?_));rintro e w1 ⟨n5,st5,rfl,i5,x5,h5⟩;replace T:=aI h5;have X5:=aI x5;have I5:=aI i5;clear h5 x5 i5;clear z0 z1 z2 z3 z4 f0 f1 f2 f3 f4;have B:=T.out.box (.head _);have z0:=B.cell 0;have z1:=B.cell 1;have z2:=B.cell 2;have z3:=B.cell 3;have z4:=B.cell 4;have f0:=B.frozen 0;have f1:=B.frozen 1;have f2:=B.frozen 2;have f3:=B.frozen 3;have f4:=B.frozen 4;simp at z0 z1 z2 z3 z4;clear B) | (go_at_call 42;((with_reducible refine (tnum_any (T.out.set0 3 _)).mono ?_));rintro e w1 ⟨n6,st6,rfl,i6,x6,h6⟩;replace T:=aI h6;have X6:=aI x6;have I6:=aI i6;clear h6 x6 i6;clear z0 z1 z2 z3 z4 f0 f1 f2 f3 f4;have B:=T.out.box (.head _);have z0:=B.cell 0;have z1:=B.cell 1;have z2:=B.cell 2;have z3:=B.cell 3;have z4:=B.cell 4;have f0:=B.frozen 0;have f1:=B.frozen 1;have f2:=B.frozen 2;have f3:=B.frozen 3;have f4:=B.frozen 4;simp at z0 z1 z2 z3 z4;clear B))
 have T7:=aI (show PH (rk w g s tk) st6 (N1::N::M) ((N1,58,#[.string (Sx.ofT n),.string (Sx.ofT n3),.string (Sx.ofT n4),.string (Sx.ofT n5),.int .i64 n6])::(N,58,#[.string ⟨#[]⟩,.string ⟨#[]⟩,.string ⟨#[]⟩,.string ⟨#[]⟩,.int .i64 0])::bx) rs L _ from T.out.set0 4 (.int .i64 n6))
 clear T z0 z1 z2 z3 z4 f0 f1 f2 f3 f4
 generalize w1.setCell ⟨N1,4,none⟩ (.int .i64 n6)=W8 at *
 have B:=T7.out.box (.head _);have z0:=B.cell 0;have z1:=B.cell 1;have z2:=B.cell 2;have z3:=B.cell 3;have z4:=B.cell 4
 have C:=T7.out.box (.tail _ (.head _));have y0:=C.cell 0;have y1:=C.cell 1;have y2:=C.cell 2;have y3:=C.cell 3;have y4:=C.cell 4;have f0:=C.frozen 0;have f1:=C.frozen 1;have f2:=C.frozen 2;have f3:=C.frozen 3;have f4:=C.frozen 4
 simp at z0 z1 z2 z3 z4 y0 y1 y2 y3 y4
 clear B C
 have T8:=aI (show PH (rk w g s tk) st6 (N1::N::M) ((N,58,#[.string (Sx.ofT n),.string (Sx.ofT n3),.string (Sx.ofT n4),.string (Sx.ofT n5),.int .i64 n6])::(N1,58,#[.string (Sx.ofT n),.string (Sx.ofT n3),.string (Sx.ofT n4),.string (Sx.ofT n5),.int .i64 n6])::bx) rs L _ from ((((T7.out.bswap.set0 0 (.string (Sx.ofT n))).set0 1 (.string (Sx.ofT n3))).set0 2 (.string (Sx.ofT n4))).set0 3 (.string (Sx.ofT n5))).set0 4 (.int .i64 n6))
 go_wp2_with fail
 clear y0 y1 y2 y3 y4
 have C:=T8.out.box (.head _);have y0:=C.cell 0;have y1:=C.cell 1;have y2:=C.cell 2;have y3:=C.cell 3;have y4:=C.cell 4
 simp at y0 y1 y2 y3 y4
 refine bodyPost_ret (v:=.agg #[.string (Sx.ofT n),.string (Sx.ofT n3),.string (Sx.ofT n4),.string (Sx.ofT n5),.int .i64 n6]) ?_ rfl ?_
 ·simp [results,Tryz.results46,go_sem,y0,y1,y2,y3,y4]
 ·exact ⟨(Sx.ofT n,Sx.ofT n3,Sx.ofT n4,Sx.ofT n5,n6),_,st6,_,rfl,Sx.nx_bind X1.out (Sx.nx_bind X2.out (Sx.nx_bind X3.out (Sx.nx_bind X4.out (Sx.nx_bind X5.out (Sx.nx_bind X6.out (Sx.nx_ret _ _)))))),T8.out.unbox.unbox.add (keeps_rep _ _) ⟨[_],_,rfl,⟨rfl,Nat.le_trans I2.out (by decide)⟩,[_],_,rfl,⟨rfl,Nat.le_trans I3.out (by decide)⟩,[_],_,rfl,⟨rfl,Nat.le_trans I4.out (by decide)⟩,[_],_,rfl,⟨rfl,Nat.le_trans I5.out (by decide)⟩,⟨rfl,I6.out⟩⟩⟩
end
section
variable {s:ByteArray} {tk:List Tk} {w:World} {g:Nat} {st:Sx.St} {M:List Nat} {bx:List Box} {rs:List Rw} {L:List (List Nat→World→Prop)} {W:World}
set_option maxRecDepth 100000 in
set_option maxHeartbeats 8000000 in
theorem tlife_any (h:PH (rk w g s tk) st M bx rs L W):Calls Tryz.prog 45 #[.pointer (some ⟨g,0,none⟩)] W (RdA (rk w g s tk) Sx.life st bx rs L):=by
 obtain ⟨N,hN⟩:∃ n,W.heap.size=n:=⟨_,rfl⟩
 have T:=aI (h.new #[.string ⟨#[]⟩,.slice none 0 0,.slice none 0 0] 55 hN)
 clear h
 go_enter Tryz.func45,Tryz.ntmps45
 go_upto_region 3 with (first | (go_at_call 41;((with_reducible refine (twantLife_any T.out).mono ?_));rintro e w1 ⟨st1,rfl,x1,h1⟩;replace T:=aI h1;have X1:=aI x1;clear h1 x1) | (go_at_call 90;((with_reducible refine (tname_any T.out).mono ?_));rintro e w1 ⟨n,st2,rfl,i2,x2,h2⟩;replace T:=aI h2;have X2:=aI x2;have I2:=aI i2;clear h2 x2 i2))
 obtain ⟨N1,hN1⟩:∃ n,w1.heap.size=n:=⟨_,rfl⟩
 replace T:=aI (T.out.new #[.string (Sx.ofT n),.slice none 0 0,.slice none 0 0] 55 hN1)
 rw [hN1]
 go_wp2_with (go_at_call 93;((with_reducible refine (tcnt_any T.out).mono ?_));rintro e w2 ⟨n0,stc,rfl,i3,x3,hc3,h3⟩;replace T:=aI ((h3.push 9 1).add (keeps_flat ([]:List ByteArray) []) rfl);have X3:=aI x3;have I3:=aI i3;have HC3:=aI hc3;clear h3 x3 i3 hc3)
 have HX0:=aI (show ∀ x st',Sx.Nx (Sx.states n0.toNat []) stc x st'→Sx.Nx (Sx.states n0.toNat []) stc x st' from fun _ _ h=>h)
 go_loopg [5] (if stc.2=true then 0 else n0.toNat) (fun r v5 wr=>∃ (j:Nat) (st1:Sx.St) (acc:List ByteArray) (xs:List Value) (M1:List Nat) (u:Value),v5=.int .i64 (j:Int)∧PH (rk w g s tk) st1 M1 ((N1,55,#[.string (Sx.ofT n),u,.slice none 0 0])::(N,55,#[.string ⟨#[]⟩,.slice none 0 0,.slice none 0 0])::bx) (⟨9,1,u,acc.length,xs⟩::rs) ((fun M W=>Flat M W acc xs)::L) wr∧j≤13∧(if st1.2=true then 0 else (n0 - j).toNat)=r∧(st1.2=false→n0≤12)∧acc.length+r≤100∧(∀ x st',Sx.Nx (Sx.states (n0 - j).toNat acc) st1 x st'→Sx.Nx (Sx.states n0.toNat []) stc x st'))
 case atStart=>exact ⟨0,stc,[],[],_,_,rfl,T.out,by omega,by simp,fun h=>(HC3.out h).2,by
  show 0+(if stc.2=true then 0 else n0.toNat)≤100
  split
  ·omega
  ·rename_i hf;have:=HC3.out (by simpa using hf);omega,by first|exact HX0.out|simp⟩
 case round =>
  obtain ⟨j,st1,acc,xs,M1,u,rfl,hH,hj13,hlf,h12,hal,hnx⟩:=hrel
  obtain ⟨wo,rfl⟩:∃ wo:World,wo=wr:=⟨_,rfl⟩
  replace T:=aI hH
  have HX:=aI hnx
  have H12:=aI h12
  have HLF:=aI hlf
  clear hH hnx hlf h12 HX0
  obtain ⟨l,f⟩:=st1
  obtain ⟨A7,c7,rfl⟩:=T.out.form
  obtain ⟨cs9,hb9,A9,c9,I9,rfl,_⟩:=T.out.pbox
  have z9:=hb9.cell 3
  simp at z9
  clear hb9
  have HA8:=aI (show acc.length≤100 by omega)
  by_cases hgo:(j:Int) < n0∧f=false
  ·obtain ⟨hi0,rfl⟩:=hgo
   have t1:decide ((j:Int) < n0)=true:=decide_eq_true hi0
   have q:=T.out.box (.head _);have q1:=q.cell 1;(simp at q1);clear q
   go_wp2_with fail
   go_region_law (first | (obtain ⟨i0,hI,hz0,hz1,hz2⟩:=info_parts infoStr;refine step_append_ph (by rfl) _ _ 33 (by rfl) 9 i0 _ 1 16 Tryz.underlying33 hI hz0 hz1 hz2 rfl (by decide) (T2.out.below ((Below.refl _ _).alloc (Nat.le_refl _) _)) (by rfl) _ _ 1 1 [.string (Sx.ofT t3)] (by rfl) (reads_blk (Blk.new _ _ _) rfl) (by simp [Value.oneCell']) (by have:=HA8.out;unfold maxLen;omega) (by have:=HA8.out;omega) ?_;intro v7 w7 M7 h7 _;obtain ⟨A8,c8,rfl⟩:=h7.form;have q:=h7.box (.head _);have q1:=q.cell 1;(simp at q1);have f1:=q.frozen 1;clear q;have T3:=aI h7;clear h7 hI hz0 hz1 hz2) | (go_simp;go_at_call 90;refine (tname_any T.out.drew).mono ?_;rintro e w3 ⟨t3,st3,rfl,i3,x3,h3⟩;have q:=h3.box (.head _);have q1:=q.cell 1;(simp at q1);clear q;have T2:=aI h3;have X4:=aI x3;have I4:=aI i3;have q1b:∀ o,(w3.alloc o).cell? ⟨N1,1,none⟩=some (.slice A7 acc.length c7):=(fun o=>by have q:=(T2.out.below ((Below.refl _ _).alloc (Nat.le_refl _) o)).box (.head _);have q:=q.cell 1;simpa using q);clear h3 x3 i3))
   all_goals
    have T4:=aI (((T3.out.set0 1 (.slice A8 (acc.length+1) c8)).flat (Flat.single (us:=[.string (Sx.ofT t3)]) ⟨rfl,Nat.le_trans I4.out (by decide)⟩)))
    clear T T2 T3 q1b
    go_wp2_with fail
    go_roundg (if st3.2=true then 0 else (n0 - (j+1:Nat)).toNat)
    case measure =>
     have h1:=HLF.out
     rw [if_neg (by simp)] at h1
     split <;> omega
    case rel =>
     have h1:=HLF.out
     rw [if_neg (by simp)] at h1
     have h12:=H12.out (by simp)
     refine ⟨j+1,st3,acc++[Sx.ofT t3],_,M7,_,by go_num,by rw [aK];exact T4.out,by omega,rfl,fun _=>h12,by rw [aK,List.length_singleton];split <;> omega,fun x st' hx=>HX.out _ _ ?_⟩
     rw [show (n0 - (j:Int)).toNat=(n0 - ((j+1:Nat):Int)).toNat+1 by omega]
     exact Sx.nx_bind X4.out hx
  ·have HST:=aI (show Sx.Nx (Sx.states (n0 - (j:Int)).toNat acc) (l,f) acc (l,f) by
    cases f
    ·rw [show (n0 - (j:Int)).toNat=0 by
       have:¬ (j:Int) < n0:=fun h=>hgo ⟨h,rfl⟩
       omega]
     exact Sx.nx_ret _ _
    ·exact Sx.nx_failed)
   obtain ⟨A,c,M',hv,hc1,hc2,h4,_⟩:=T.out.freeze (α:=_) rfl rfl (T.out.fact (.head _))
   injection hv with hv1 hv2 hv3
   subst hv1 hv3
   replace T:=aI (show PH (rk w g s tk) (l,f) M' ((N1,55,#[.string (Sx.ofT n),.slice A7 acc.length c7,.slice none 0 0])::(N,55,#[.string ⟨#[]⟩,.slice none 0 0,.slice none 0 0])::bx) rs ((fun M W=>SlAt M W A7 acc)::L) wo from h4.less fun P hP=>by
    rcases aL hP with rfl | hP
    ·exact .head _
    ·exact .tail _ (.tail _ hP))
   clear h4 hv2
   have HCC:=aI (show acc.length≤c7∧c7≤9223372036854775807 from ⟨hc1,hc2⟩)
   clear hc1 hc2
   have hcase:decide ((j:Int) < n0)=false∨(decide ((j:Int) < n0)=true∧f=true):=by
    by_cases h:(j:Int) < n0
    ·exact .inr ⟨decide_eq_true h,by cases f;exact absurd ⟨h,rfl⟩ hgo;rfl⟩
    ·exact .inl (decide_eq_false h)
   clear hgo
   rcases hcase with t1 | ⟨t1,rfl⟩
   ·go_upto_region 8 with fail
    have HX4:=aI (HX.out _ _ HST.out)
    clear HX HST HLF H12 HA8 z9 t1
    obtain ⟨sx,hsx⟩:∃ s,Sx.left (l,f)=s:=⟨_,rfl⟩
    have HSX:=aI hsx
    have HTK:=aI (rk_tok T.out).1
    clear hsx
    replace T:=aI ((T.out.push 56 2).add (keeps_flat ([]:List (Int × Int)) []) rfl)
    go_loopg [6] sx (fun r v6 wr=>∃ (st1:Sx.St) (acc2:List (Int × Int)) (xs:List Value) (M1:List Nat) (u:Value),PH (rk w g s tk) st1 M1 ((N1,55,#[.string (Sx.ofT n),.slice A7 acc.length c7,u])::(N,55,#[.string ⟨#[]⟩,.slice none 0 0,.slice none 0 0])::bx) (⟨56,2,u,acc2.length,xs⟩::rs) ((fun M W=>Flat M W acc2 xs)::(fun M W=>SlAt M W A7 acc)::L) wr∧Sx.left st1=r∧acc2.length+r≤sx∧(∀ x st',Sx.Nx (Sx.many (fun t=>t == Sx.sMove) Sx.move st1.1.length acc2) st1 x st'→Sx.Nx (fun l=>Sx.many (fun t=>t == Sx.sMove) Sx.move l.length [] l) (l,f) x st'))
    case atStart=>exact ⟨(l,f),[],[],_,_,T.out,HSX.out,by simp,fun x st' hx=>hx⟩
    case round =>
     clear T
     obtain ⟨st1,acc2,xs2,M2,u,hH,hlf,hal,hnx⟩:=hrel
     obtain ⟨wo,rfl⟩:∃ wo:World,wo=wr:=⟨_,rfl⟩
     have T:=aI hH
     have HX:=aI hnx
     have HL:=aI hlf
     clear hH hnx hlf
     obtain ⟨l1,f1⟩:=st1
     obtain ⟨A6,c6,rfl⟩:=T.out.form
     have HA8:=aI (show acc2.length≤8193 by have h1:=HTK.out;have h2:=HSX.out;unfold Sx.left at h2;split at h2 <;> (simp only at h1 h2;omega))
     have q:((Sx.ofT (Sx.pk (l1,f1))).toList == [109,111,118,101])=(Sx.pk (l1,f1) == Sx.sMove):=by rw [ByteArray.toList_eq,ofT_list];rfl
     obtain ⟨b,hb⟩:∃ b,(Sx.pk (l1,f1) == Sx.sMove)=b:=⟨_,rfl⟩
     rw [hb] at q
     cases b
     ·have HST:=aI (show Sx.Nx (Sx.many (fun t=>t == Sx.sMove) Sx.move l1.length acc2) (l1,f1) acc2 (l1,f1) from Sx.nx_many_stop (begins:=(fun t=>t == Sx.sMove)) (read:=Sx.move) (st:=(l1,f1)) (f:=l1.length) (acc:=acc2) (fun hf t r hl=>by
       have hf:f1=false:=hf
       subst hf
       obtain rfl:l1=t::r:=hl
       exact hb))
      clear hb
      go_upto_region 12 with (go_at_call 43;((with_reducible refine (look_any T.out).mono ?_));rintro e w3 ⟨rfl,hb1⟩;replace T:=aI (T.out.below hb1);clear hb1)
      obtain ⟨A,cm,M',hv,d1,d2,h4,_⟩:=T.out.freeze (α:=_) rfl rfl (T.out.fact (.head _))
      injection hv with hv1 hv2 hv3
      subst hv1 hv3
      clear hv2 T
      have D:=aI (show acc2.length≤c6∧c6≤9223372036854775807 from ⟨d1,d2⟩)
      clear d1 d2
      have T7:=aI h4
      clear h4
      have B:=T7.out.box (.head _);have z0:=B.cell 0;have z1:=B.cell 1;have z2:=B.cell 2
      have C:=T7.out.box (.tail _ (.head _));have y0:=C.cell 0;have y1:=C.cell 1;have y2:=C.cell 2;have f0:=C.frozen 0;have f1:=C.frozen 1;have f2:=C.frozen 2
      simp at z0 z1 z2 y0 y1 y2
      clear B C
      have T8:=aI (show PH (rk w g s tk) _ M' ((N,55,#[.string (Sx.ofT n),.slice A7 acc.length c7,.slice A6 acc2.length c6])::(N1,55,#[.string (Sx.ofT n),.slice A7 acc.length c7,.slice A6 acc2.length c6])::bx) rs _ _ from ((T7.out.bswap.set0 0 (.string (Sx.ofT n))).set0 1 (.slice A7 acc.length c7)).set0 2 (.slice A6 acc2.length c6))
      clear T7
      go_wp2_with fail
      clear y0 y1 y2
      have C:=T8.out.box (.head _);have y0:=C.cell 0;have y1:=C.cell 1;have y2:=C.cell 2
      simp at y0 y1 y2
      have hms:=T8.out.fact (.head _)
      have hac:=T8.out.fact (.tail _ (.tail _ (.head _)))
      refine bodyPost_ret (v:=.agg #[.string (Sx.ofT n),.slice A7 acc.length c7,.slice A6 acc2.length c6]) ?_ rfl ?_
      ·simp [results,Tryz.results45,go_sem,y0,y1,y2]
      ·exact ⟨(Sx.ofT n,acc,acc2),_,_,_,rfl,Sx.nx_bind X1.out (Sx.nx_bind X2.out (Sx.nx_bind X3.out (Sx.nx_bind HX4.out (Sx.nx_bind (HX.out _ _ HST.out) (Sx.nx_ret _ _))))),(T8.out.unbox.unbox.add (keeps_rep (Sx.ofT n,acc,acc2) [.string (Sx.ofT n),.slice A7 acc.length c7,.slice A6 acc2.length c6]) ⟨[_],_,rfl,⟨rfl,Nat.le_trans I2.out (by decide)⟩,[_],_,rfl,⟨_,_,rfl,HCC.out.1,HCC.out.2,hac⟩,⟨_,_,rfl,D.out.1,D.out.2,hms⟩⟩).less fun P hP=>by
        rcases aL hP with rfl | hP
        ·exact .head _
        ·exact .tail _ (.tail _ (.tail _ (.tail _ hP)))⟩
     ·obtain ⟨t,r,rfl,rfl⟩:∃ t r,l1=t::r∧f1=false:=by
       cases f1
       ·cases l1 with
        | nil=>exact absurd (hb.symm.trans (show (([]:Sx.Txt) == Sx.sMove)=false from rfl)) (by simp)
        | cons t r=>exact ⟨t,r,rfl,rfl⟩
       ·exact absurd (hb.symm.trans (show (([]:Sx.Txt) == Sx.sMove)=false from rfl)) (by simp)
      have HBB:=aI (show (fun t=>t == Sx.sMove) t.1=true from hb)
      clear hb
      go_wp2_with (first | (go_at_call 43;((with_reducible refine (look_any T.out).mono ?_));rintro e w3 ⟨rfl,hb1⟩;replace T:=aI (T.out.below hb1);clear hb1) | (go_at_call 41;((with_reducible refine (twantMove_any T.out).mono ?_));rintro e w3 ⟨st5,rfl,x5,h5⟩;replace T:=aI h5;have X5:=aI x5;clear h5 x5) | (go_at_call 42;((with_reducible refine (tnum_any T.out).mono ?_));rintro e w4 ⟨na,st6,rfl,i6,x6,h6⟩;replace T:=aI h6;have X6:=aI x6;have I6:=aI i6;clear h6 x6 i6;have q:=T.out.box (.head _);have q2:=q.cell 2;(simp at q2);clear q))
      go_region_law (first | (obtain ⟨i0,hI,hz0,hz1,hz2⟩:=info_parts infoMv;refine step_append_ph (by rfl) _ _ 53 (by rfl) 56 i0 _ 2 16 Tryz.underlying53 hI hz0 hz1 hz2 rfl (by decide) (T2.out.below ((Below.refl _ _).alloc (Nat.le_refl _) _)) (by rfl) _ _ 1 1 [.int .i64 na,.int .i64 nb] (by rfl) (reads_blk (Blk.new _ _ _) rfl) (by simp [Value.oneCell']) (by have:=HA8.out;unfold maxLen;omega) (by have:=HA8.out;omega) ?_;intro v7 w7 M7 h7 _;obtain ⟨A8,c8,rfl⟩:=h7.form;have q:=h7.box (.head _);have q2:=q.cell 2;(simp at q2);have f2:=q.frozen 2;clear q;have T3:=aI h7;clear h7 hI hz0 hz1 hz2) | (go_simp;go_at_call 42;refine (tnum_any T.out.drew).mono ?_;rintro e w5 ⟨nb,st7,rfl,i7,x7,h7⟩;have q:=h7.box (.head _);have q2:=q.cell 2;(simp at q2);clear q;have T2:=aI h7;have X7:=aI x7;have I7:=aI i7;have q2b:∀ o,(w5.alloc o).cell? ⟨N1,2,none⟩=some (.slice A6 acc2.length c6):=(fun o=>by have q:=(T2.out.below ((Below.refl _ _).alloc (Nat.le_refl _) o)).box (.head _);have q:=q.cell 2;simpa using q);clear h7 x7 i7))
      all_goals
       have T4:=aI (((T3.out.set0 2 (.slice A8 (acc2.length+1) c8)).flat (l:=acc2) (Flat.single (a:=((na,nb):Int × Int)) (us:=[.int .i64 na,.int .i64 nb]) ⟨[_],_,rfl,⟨rfl,I6.out⟩,⟨rfl,I7.out⟩⟩)))
       have X9:=aI (show Sx.Nx Sx.move (t::r,false) (na,nb) st7 from Sx.nx_bind X5.out (Sx.nx_bind X6.out (Sx.nx_bind X7.out (Sx.nx_ret _ _))))
       have hlt:=Sx.left_eats Sx.eats_move X9.out
       rw [HL.out] at hlt
       clear T T2 T3 q2b
       go_wp2_with fail
       go_roundg (Sx.left st7)
       case measure=>exact hlt
       case rel=>exact ⟨st7,acc2++[(na,nb)],_,_,_,by rw [aK];exact T4.out,rfl,by rw [aK,List.length_singleton];omega,fun x st' hx=>HX.out _ _ (Sx.nx_many_step Sx.eats_move HBB.out X9.out hx)⟩
   ·go_upto_region 8 with fail
    have HX4:=aI (HX.out _ _ HST.out)
    clear HX HST HLF H12 HA8 z9 t1
    obtain ⟨sx,hsx⟩:∃ s,Sx.left (l,true)=s:=⟨_,rfl⟩
    have HSX:=aI hsx
    have HTK:=aI (rk_tok T.out).1
    clear hsx
    replace T:=aI ((T.out.push 56 2).add (keeps_flat ([]:List (Int × Int)) []) rfl)
    go_loopg [6] sx (fun r v6 wr=>∃ (st1:Sx.St) (acc2:List (Int × Int)) (xs:List Value) (M1:List Nat) (u:Value),PH (rk w g s tk) st1 M1 ((N1,55,#[.string (Sx.ofT n),.slice A7 acc.length c7,u])::(N,55,#[.string ⟨#[]⟩,.slice none 0 0,.slice none 0 0])::bx) (⟨56,2,u,acc2.length,xs⟩::rs) ((fun M W=>Flat M W acc2 xs)::(fun M W=>SlAt M W A7 acc)::L) wr∧Sx.left st1=r∧acc2.length+r≤sx∧(∀ x st',Sx.Nx (Sx.many (fun t=>t == Sx.sMove) Sx.move st1.1.length acc2) st1 x st'→Sx.Nx (fun l=>Sx.many (fun t=>t == Sx.sMove) Sx.move l.length [] l) (l,true) x st'))
    case atStart=>exact ⟨(l,true),[],[],_,_,T.out,HSX.out,by simp,fun x st' hx=>hx⟩
    case round =>
     clear T
     obtain ⟨st1,acc2,xs2,M2,u,hH,hlf,hal,hnx⟩:=hrel
     obtain ⟨wo,rfl⟩:∃ wo:World,wo=wr:=⟨_,rfl⟩
     have T:=aI hH
     have HX:=aI hnx
     have HL:=aI hlf
     clear hH hnx hlf
     obtain ⟨l1,f1⟩:=st1
     obtain ⟨A6,c6,rfl⟩:=T.out.form
     have HA8:=aI (show acc2.length≤8193 by have h1:=HTK.out;have h2:=HSX.out;unfold Sx.left at h2;split at h2 <;> (simp only at h1 h2;omega))
     have q:((Sx.ofT (Sx.pk (l1,f1))).toList == [109,111,118,101])=(Sx.pk (l1,f1) == Sx.sMove):=by rw [ByteArray.toList_eq,ofT_list];rfl
     obtain ⟨b,hb⟩:∃ b,(Sx.pk (l1,f1) == Sx.sMove)=b:=⟨_,rfl⟩
     rw [hb] at q
     cases b
     ·have HST:=aI (show Sx.Nx (Sx.many (fun t=>t == Sx.sMove) Sx.move l1.length acc2) (l1,f1) acc2 (l1,f1) from Sx.nx_many_stop (begins:=(fun t=>t == Sx.sMove)) (read:=Sx.move) (st:=(l1,f1)) (f:=l1.length) (acc:=acc2) (fun hf t r hl=>by
       have hf:f1=false:=hf
       subst hf
       obtain rfl:l1=t::r:=hl
       exact hb))
      clear hb
      go_upto_region 12 with (go_at_call 43;((with_reducible refine (look_any T.out).mono ?_));rintro e w3 ⟨rfl,hb1⟩;replace T:=aI (T.out.below hb1);clear hb1)
      obtain ⟨A,cm,M',hv,d1,d2,h4,_⟩:=T.out.freeze (α:=_) rfl rfl (T.out.fact (.head _))
      injection hv with hv1 hv2 hv3
      subst hv1 hv3
      clear hv2 T
      have D:=aI (show acc2.length≤c6∧c6≤9223372036854775807 from ⟨d1,d2⟩)
      clear d1 d2
      have T7:=aI h4
      clear h4
      have B:=T7.out.box (.head _);have z0:=B.cell 0;have z1:=B.cell 1;have z2:=B.cell 2
      have C:=T7.out.box (.tail _ (.head _));have y0:=C.cell 0;have y1:=C.cell 1;have y2:=C.cell 2;have f0:=C.frozen 0;have f1:=C.frozen 1;have f2:=C.frozen 2
      simp at z0 z1 z2 y0 y1 y2
      clear B C
      have T8:=aI (show PH (rk w g s tk) _ M' ((N,55,#[.string (Sx.ofT n),.slice A7 acc.length c7,.slice A6 acc2.length c6])::(N1,55,#[.string (Sx.ofT n),.slice A7 acc.length c7,.slice A6 acc2.length c6])::bx) rs _ _ from ((T7.out.bswap.set0 0 (.string (Sx.ofT n))).set0 1 (.slice A7 acc.length c7)).set0 2 (.slice A6 acc2.length c6))
      clear T7
      go_wp2_with fail
      clear y0 y1 y2
      have C:=T8.out.box (.head _);have y0:=C.cell 0;have y1:=C.cell 1;have y2:=C.cell 2
      simp at y0 y1 y2
      have hms:=T8.out.fact (.head _)
      have hac:=T8.out.fact (.tail _ (.tail _ (.head _)))
      refine bodyPost_ret (v:=.agg #[.string (Sx.ofT n),.slice A7 acc.length c7,.slice A6 acc2.length c6]) ?_ rfl ?_
      ·simp [results,Tryz.results45,go_sem,y0,y1,y2]
      ·exact ⟨(Sx.ofT n,acc,acc2),_,_,_,rfl,Sx.nx_bind X1.out (Sx.nx_bind X2.out (Sx.nx_bind X3.out (Sx.nx_bind HX4.out (Sx.nx_bind (HX.out _ _ HST.out) (Sx.nx_ret _ _))))),(T8.out.unbox.unbox.add (keeps_rep (Sx.ofT n,acc,acc2) [.string (Sx.ofT n),.slice A7 acc.length c7,.slice A6 acc2.length c6]) ⟨[_],_,rfl,⟨rfl,Nat.le_trans I2.out (by decide)⟩,[_],_,rfl,⟨_,_,rfl,HCC.out.1,HCC.out.2,hac⟩,⟨_,_,rfl,D.out.1,D.out.2,hms⟩⟩).less fun P hP=>by
        rcases aL hP with rfl | hP
        ·exact .head _
        ·exact .tail _ (.tail _ (.tail _ (.tail _ hP)))⟩
     ·obtain ⟨t,r,rfl,rfl⟩:∃ t r,l1=t::r∧f1=false:=by
       cases f1
       ·cases l1 with
        | nil=>exact absurd (hb.symm.trans (show (([]:Sx.Txt) == Sx.sMove)=false from rfl)) (by simp)
        | cons t r=>exact ⟨t,r,rfl,rfl⟩
       ·exact absurd (hb.symm.trans (show (([]:Sx.Txt) == Sx.sMove)=false from rfl)) (by simp)
      have HBB:=aI (show (fun t=>t == Sx.sMove) t.1=true from hb)
      clear hb
      go_wp2_with (first | (go_at_call 43;((with_reducible refine (look_any T.out).mono ?_));rintro e w3 ⟨rfl,hb1⟩;replace T:=aI (T.out.below hb1);clear hb1) | (go_at_call 41;((with_reducible refine (twantMove_any T.out).mono ?_));rintro e w3 ⟨st5,rfl,x5,h5⟩;replace T:=aI h5;have X5:=aI x5;clear h5 x5) | (go_at_call 42;((with_reducible refine (tnum_any T.out).mono ?_));rintro e w4 ⟨na,st6,rfl,i6,x6,h6⟩;replace T:=aI h6;have X6:=aI x6;have I6:=aI i6;clear h6 x6 i6;have q:=T.out.box (.head _);have q2:=q.cell 2;(simp at q2);clear q))
      go_region_law (first | (obtain ⟨i0,hI,hz0,hz1,hz2⟩:=info_parts infoMv;refine step_append_ph (by rfl) _ _ 53 (by rfl) 56 i0 _ 2 16 Tryz.underlying53 hI hz0 hz1 hz2 rfl (by decide) (T2.out.below ((Below.refl _ _).alloc (Nat.le_refl _) _)) (by rfl) _ _ 1 1 [.int .i64 na,.int .i64 nb] (by rfl) (reads_blk (Blk.new _ _ _) rfl) (by simp [Value.oneCell']) (by have:=HA8.out;unfold maxLen;omega) (by have:=HA8.out;omega) ?_;intro v7 w7 M7 h7 _;obtain ⟨A8,c8,rfl⟩:=h7.form;have q:=h7.box (.head _);have q2:=q.cell 2;(simp at q2);have f2:=q.frozen 2;clear q;have T3:=aI h7;clear h7 hI hz0 hz1 hz2) | (go_simp;go_at_call 42;refine (tnum_any T.out.drew).mono ?_;rintro e w5 ⟨nb,st7,rfl,i7,x7,h7⟩;have q:=h7.box (.head _);have q2:=q.cell 2;(simp at q2);clear q;have T2:=aI h7;have X7:=aI x7;have I7:=aI i7;have q2b:∀ o,(w5.alloc o).cell? ⟨N1,2,none⟩=some (.slice A6 acc2.length c6):=(fun o=>by have q:=(T2.out.below ((Below.refl _ _).alloc (Nat.le_refl _) o)).box (.head _);have q:=q.cell 2;simpa using q);clear h7 x7 i7))
      all_goals
       have T4:=aI (((T3.out.set0 2 (.slice A8 (acc2.length+1) c8)).flat (l:=acc2) (Flat.single (a:=((na,nb):Int × Int)) (us:=[.int .i64 na,.int .i64 nb]) ⟨[_],_,rfl,⟨rfl,I6.out⟩,⟨rfl,I7.out⟩⟩)))
       have X9:=aI (show Sx.Nx Sx.move (t::r,false) (na,nb) st7 from Sx.nx_bind X5.out (Sx.nx_bind X6.out (Sx.nx_bind X7.out (Sx.nx_ret _ _))))
       have hlt:=Sx.left_eats Sx.eats_move X9.out
       rw [HL.out] at hlt
       clear T T2 T3 q2b
       go_wp2_with fail
       go_roundg (Sx.left st7)
       case measure=>exact hlt
       case rel=>exact ⟨st7,acc2++[(na,nb)],_,_,_,by rw [aK];exact T4.out,rfl,by rw [aK,List.length_singleton];omega,fun x st' hx=>HX.out _ _ (Sx.nx_many_step Sx.eats_move HBB.out X9.out hx)⟩
end
end Go.Proofs.YtmplaikgbeeikaaGreatDoor
