/- Lists of servers: common ones, and those without others. -/
import Derived.Test.YtkcgfceffffmoaaGreatZPV1
namespace Go.Proofs.YtkcgfceffffmoaaGreat.En
open Go
theorem qA {n:Nat} (h:n<=1048576):n*8<=2 ^ 40:=by
 have : (2:Nat) ^ 40=1099511627776:=by decide
 omega
theorem agj (l:List Int) (x:Int) (hl:l.length<=1000) (h: ∀ y∈l,y < x):uj l x=some (l++ [x],()):=by
 have hm:l.length<=maxLen:=by unfold maxLen; omega
 have fC:=mU (B:=pP) l (fun k (_:Unit)=>((l,x,(k:Int),()),(),())) (fun _ _=>True) (fun k r _=>((l,x,((k+r.length:Nat):Int),()),(),()))
  (fun b hb=>by
    simp only [pP,AN,Dd];rw [ec,if_neg (by omega)];rfl)
  (fun k b y hy hb=>by
    have hk:=nG hy;have c1: (k:Int) < (l.length:Int):=by omega
    have c2: (0:Int)<=(k:Int):=by omega
    refine .inl ⟨(),?_,trivial,?_⟩
    ·simp only [pP,AN,Dd,ec,ez,if_pos c1,if_pos c2,aw,hy,ae,if_pos (h y (au hy)),eB hm hk]
    ·rw [bo,show k+((l.drop (k+1)).length+1)=k+1+(l.drop (k+1)).length by omega])
  0 () (aK _) trivial
 unfold uj Lw;rw [show H8 ((l,x,0,()),(),())=_ from fC];simp only [ae,bM,aY];have c0: ¬ ((l.length:Int) < (l.length:Int)):=by omega
 have d1: (0:Int)<=0/\(0:Int)<=(l.length:Int)/\(l.length:Int)<=(l.length:Int):=by omega
 have d2: (0:Int)<=(l.length:Int)/\(l.length:Int)<=(l.length:Int)/\(l.length:Int)<=(l.length:Int):=by omega
 simp only [ec,if_neg c0,ez,if_pos d1,if_pos d2,aw,cT,bM,cK,dp,du,bG,bg,bq];rw [if_pos (qA (by omega)),if_pos (qA (by simp; omega))];exact if_pos (qA (by simp; omega))
theorem X8 (a b:List Int) (ha:MH a) (hb:b.length<=maxLen):mn a b=some (a.filter fun x=>decide (x∈b),()):=by
 have hl:=ha.len;have hm:a.length<=maxLen:=by unfold maxLen; omega
 have hp:=ha.pair
 have fC:=mU (B:=jP) a (fun k (out:List Int)=>((a,b,(),(k:Int),()),(),(out,()))) (fun k out=>out=(a.take k).filter fun x=>decide (x∈b)) (fun k r out=>(((),()),(),(out++r.filter fun x=>decide (x∈b),())))
  (fun out hb=>by
    simp only [jP,qc,uk];rw [ec,if_neg (by omega)];simp)
  (fun k out x hx hout=>by
    have hk:=nG hx;have c1: (k:Int) < (a.length:Int):=by omega
    have c2: (0:Int)<=(k:Int):=by omega
    have hxe:a[k] =x:=by rw [ai hk] at hx; exact Option.some.inj hx
    simp only [jP,qc,uk,ec,ez,if_pos c1,if_pos c2,aw,hx,ae,(kP b x hb).1,eB hm hk];by_cases hin:x∈b
    ·have hlt: ∀ y∈out,y < x:=by
      intro y hy;rw [hout,cr] at hy;obtain⟨i,hi,he⟩:=aM hy.1;have hi':i < k:=by simp at hi; omega
      rw [cG] at he;rw [<-he,<-hxe];exact bI.1 hp i k (by omega) hk hi'
     have hol:out.length<=1000:=by
      rw [hout];have:=cN (fun x=>decide (x∈b)) (a.take k);simp at this;omega
     simp only [if_pos hin,agj out x hol hlt,ae];refine .inl ⟨out++ [x],rfl,?_,?_⟩
     ·rw [hout,bD,hx,bP];simp [hin]
     ·simp [hin]
    ·simp only [if_neg hin];refine .inl ⟨out,rfl,?_,?_⟩
     ·rw [hout,bD,hx,bP];simp [hin]
     ·simp [hin])
  0 [] (aK _) rfl
 unfold mn yc;rw [show wc ((a,b,(),0,()),(),([],()))=_ from fC];rfl
theorem aa2 {n:Nat} (hn:n<=5): ∃ m,Gi (IntKind.wrap .u64 (n:Int))=some (m,()):=by
 have :n=0\/n=1\/n=2\/n=3\/n=4\/n=5:=by omega
 rcases this with rfl | rfl | rfl | rfl | rfl | rfl
 ·exact⟨0,by kernel_rfl⟩
 ·exact⟨1,by kernel_rfl⟩
 ·exact⟨2,by kernel_rfl⟩
 ·exact⟨2,by kernel_rfl⟩
 ·exact⟨3,by kernel_rfl⟩
 ·exact⟨3,by kernel_rfl⟩
theorem amV (l:List Int) (ha:MH l):fF l 0 (l.length:Int)=some (l,()):=by
 have hl:=ha.len;have hm:l.length<=maxLen:=by unfold maxLen; omega
 have inner: ∀ k (hk:k < l.length),0 < k->gR (((),0,(l.length:Int),(k:Int),(k:Int),()),(),(l,()))=some (((),0,(l.length:Int),(k:Int),()),(),(l,())):=by
  intro k hk h0;refine kF ?_;have c1: (k:Int) > 0:=by omega
  have c2: (0:Int)<=(k:Int)/\(k:Int) < (l.length:Int):=by omega
  have c3: (0:Int)<=((k - 1:Nat):Int)/\((k - 1:Nat):Int) < (l.length:Int):=by omega
  have e1:l[k]? =some l[k] :=ai hk;have e2:l[k - 1]? =some l[k - 1] :=ai (by omega);have hlt:=(ha k hk).2 h0
  have less:pi l[k] l[k - 1] =some (false,()):=by
   unfold pi zE pz xt;simp only [beq_self_eq_true,bw,ae,fA];rw [decide_eq_false (by omega)]
  simp only [eZ,fY,gA,ec,ez,if_pos c1,if_pos c2,vm h0 (by omega),if_pos c3,aw,e1,e2,ae,less,fA]
 have outer:=E4 (B:=eH) (fun s=> ∃ k:Nat,0 < k/\s=(((),0,(l.length:Int),(k:Int),()),(),(l,()))) (fun s=>l.length - s.1.2.2.2.1.toNat) (fun e=>e=((()),(),(l,())))
  (fun s hs=>by
    obtain⟨k,h0,rfl⟩:=hs;by_cases hk:k < l.length
    ·have c1: (k:Int) < (l.length:Int):=by omega
     refine .inl ⟨(((),0,(l.length:Int),((k+1:Nat):Int),()),(),(l,())),?_,⟨k+1,by omega,rfl⟩,?_⟩
     ·simp only [eH,fG,fZ,ec,if_pos c1,inner k hk h0,ae,eB hm hk]
     ·simp only [aw];omega
    ·have c1: ¬ (k:Int) < (l.length:Int):=by omega
     exact .inr ⟨_,by simp only [eH,fG,fZ,ec,if_neg c1],rfl⟩)
  (s:=(((),0,(l.length:Int),((1:Nat):Int),()),(),(l,()))) ⟨1,by omega,rfl⟩
 obtain⟨e,h1,rfl⟩:=outer;unfold fF jk;rw [show IntKind.wrap .i64 ((0:Int)+1)=((1:Nat):Int) from by rw [iY (by omega) (by omega)]; rfl,show gU (((),0,(l.length:Int),((1:Nat):Int),()),(),(l,()))=_ from h1];rfl
theorem aoT (l:List Int) (ha:MH l):ne l=some (l,()):=by
 have hl:=ha.len;obtain⟨m,hm⟩:=aa2 hl
 have hp:gy l 0 (l.length:Int) m=some (l,()):=by
  unfold gy lN
  have :li (((),0,(l.length:Int),m,true,true,()),(),(l,()))=some ((()),(),(l,())):=by
   refine kF ?_;simp only [gg,kG,mD];rw [iY (by omega) (by omega),ec,if_pos (by omega),amV l ha,ae,jT rfl]
  rw [this];rfl
 unfold ne uX;simp only [hm,ae,hp];exact jT trivial _ _
theorem aiX (l:List Int) (ha:MH l):kH l=some (l,()):=by
 have hl:=ha.len;have hm:l.length<=maxLen:=by unfold maxLen; omega
 unfold kH qi;rw [ec];split
 ·rfl
 ·have fC:=E4 (B:=fT) (fun s=> ∃ k:Nat,0 < k/\k<=l.length/\s=(((),(k:Int),()),(),(l,()))) (fun s=>l.length - s.1.2.1.toNat) (fun e=>e= .inr (((),(),()),(),(l,())))
   (fun s hs=>by
     obtain⟨k,h0,hkl,rfl⟩:=hs;by_cases hk:k < l.length
     ·have c1: (k:Int) < (l.length:Int):=by omega
      have c2: (0:Int)<=(k:Int)/\(k:Int) < (l.length:Int):=by omega
      have c3: (0:Int)<=((k - 1:Nat):Int)/\((k - 1:Nat):Int) < (l.length:Int):=by omega
      have e1:l[k]? =some l[k] :=ai hk;have e2:l[k - 1]? =some l[k - 1] :=ai (by omega);have hlt:=(ha k hk).2 h0;refine .inl ⟨(((),((k+1:Nat):Int),()),(),(l,())),?_,⟨k+1,by omega,by omega,rfl⟩,?_⟩
      ·simp only [fT,jV,lj,ec,ez,if_pos c1,if_pos c2,vm h0 (by omega),if_pos c3,aw,e1,e2,ae,sx,eB hm hk];rw [if_neg (by omega)]
      ·simp only [aw];omega
     ·have c1: ¬ (k:Int) < (l.length:Int):=by omega
      exact .inr ⟨_,by simp only [fT,jV,lj,ec,if_neg c1],rfl⟩)
   (s:=(((),((1:Nat):Int),()),(),(l,()))) ⟨1,by omega,by omega,rfl⟩
  obtain⟨e,h1,rfl⟩:=fC;rw [show pd (((),1,()),(),(l,()))=_ from h1];rfl
theorem amW (l:List Int) (ha:MH l):ot l=some (l,()):=by
 have hl:=ha.len;unfold ot Ch oa zD;rw [jT (qA (by omega)),ae,aoT l ha,ae,jT rfl,aiX l ha];rfl
end Go.Proofs.YtkcgfceffffmoaaGreat.En
