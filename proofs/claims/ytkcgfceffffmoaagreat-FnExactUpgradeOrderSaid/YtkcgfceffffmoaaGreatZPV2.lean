/- Lists of servers: common ones, and those without others. -/
import Derived.Test.YtkcgfceffffmoaaGreatZPV1
namespace Go.Proofs.YtkcgfceffffmoaaGreat.En
open Go
theorem oe {n:Nat} (h:n≤1048576):n*8≤2 ^ 40:=by
 have : (2:Nat) ^ 40=1099511627776:=by decide
 omega
theorem OD (l:List Int) (x:Int) (hl:l.length≤1000) (h: ∀ y∈l,y < x):sr l x=some (l++ [x],()):=by
 have hm:l.length≤maxLen:=by unfold maxLen; omega
 have b7:=nC (B:=lr) l (fun k (_:Unit)=>((l,x,(k:Int),()),(),())) (fun _ _=>True) (fun k r _=>((l,x,((k+r.length:Nat):Int),()),(),()))
  (fun b hb=>by
    simp only [lr,pO]
    rw [aA,if_neg (by omega)]
    rfl)
  (fun k b y hy hb=>by
    have hk:=nv hy
    have c1: (k:Int) < (l.length:Int):=by omega
    have c2: (0:Int)≤(k:Int):=by omega
    refine .inl ⟨(),?_,trivial,?_⟩
    ·simp only [lr,pO,aA,bR,if_pos c1,if_pos c2,Int.toNat_natCast,hy,Option.bind_some,if_pos (h y (List.mem_of_getElem? hy)),bD hm hk]
    ·rw [List.length_cons,show k+((l.drop (k+1)).length+1)=k+1+(l.drop (k+1)).length by omega])
  0 () (Nat.zero_le _) trivial
 unfold sr vT
 rw [show w9 ((l,x,0,()),(),())=_ from b7]
 simp only [Option.bind_some,List.drop_zero,Nat.zero_add]
 have c0: ¬ ((l.length:Int) < (l.length:Int)):=by omega
 have d1: (0:Int)≤0∧(0:Int)≤(l.length:Int)∧(l.length:Int)≤(l.length:Int):=by omega
 have d2: (0:Int)≤(l.length:Int)∧(l.length:Int)≤(l.length:Int)∧(l.length:Int)≤(l.length:Int):=by omega
 simp only [aA,if_neg c0,bR,if_pos d1,if_pos d2,Int.toNat_natCast,Int.toNat_zero,List.drop_zero,Nat.sub_zero,Nat.sub_self,List.take_zero,List.append_nil,List.take_length,List.nil_append]
 rw [if_pos (oe (by omega)),if_pos (oe (by simp; omega))]
 exact if_pos (oe (by simp; omega))
theorem OE (a b:List Int) (ha:Ms a) (hb:b.length≤maxLen):gK a b=some (a.filter fun x=>decide (x∈b),()):=by
 have hl:=ha.len
 have hm:a.length≤maxLen:=by unfold maxLen; omega
 have hp:=ha.pair
 have b7:=nC (B:=dh) a (fun k (out:List Int)=>((a,b,(),(k:Int),()),(),(out,()))) (fun k out=>out=(a.take k).filter fun x=>decide (x∈b)) (fun k r out=>(((),()),(),(out++r.filter fun x=>decide (x∈b),())))
  (fun out hb=>by
    simp only [dh,fK]
    rw [aA,if_neg (by omega)]
    simp)
  (fun k out x hx hout=>by
    have hk:=nv hx
    have c1: (k:Int) < (a.length:Int):=by omega
    have c2: (0:Int)≤(k:Int):=by omega
    have hxe:a[k] =x:=by rw [List.getElem?_eq_getElem hk] at hx; exact Option.some.inj hx
    simp only [dh,fK,aA,bR,if_pos c1,if_pos c2,Int.toNat_natCast,hx,Option.bind_some,(lD b x hb).1,bD hm hk]
    by_cases hin:x∈b
    ·have hlt: ∀ y∈out,y < x:=by
      intro y hy
      rw [hout,List.mem_filter] at hy
      obtain⟨i,hi,he⟩:=List.getElem_of_mem hy.1
      have hi':i < k:=by simp at hi; omega
      rw [List.getElem_take] at he
      rw [←he,←hxe]
      exact List.pairwise_iff_getElem.1 hp i k (by omega) hk hi'
     have hol:out.length≤1000:=by
      rw [hout]
      have:=List.length_filter_le (fun x=>decide (x∈b)) (a.take k)
      simp at this
      omega
     simp only [if_pos hin,OD out x hol hlt,Option.bind_some]
     refine .inl ⟨out++ [x],rfl,?_,?_⟩
     ·rw [hout,List.take_add_one,hx,List.filter_append]
      simp [hin]
     ·simp [hin]
    ·simp only [if_neg hin]
     refine .inl ⟨out,rfl,?_,?_⟩
     ·rw [hout,List.take_add_one,hx,List.filter_append]
      simp [hin]
     ·simp [hin])
  0 [] (Nat.zero_le _) rfl
 unfold gK kb
 rw [show lJ ((a,b,(),0,()),(),([],()))=_ from b7]
 rfl
theorem NS {n:Nat} (hn:n≤5): ∃ m,tO (IntKind.wrap .u64 (n:Int))=some (m,()):=by
 have :n=0∨n=1∨n=2∨n=3∨n=4∨n=5:=by omega
 rcases this with rfl | rfl | rfl | rfl | rfl | rfl
 ·exact⟨0,by kernel_rfl⟩
 ·exact⟨1,by kernel_rfl⟩
 ·exact⟨2,by kernel_rfl⟩
 ·exact⟨2,by kernel_rfl⟩
 ·exact⟨3,by kernel_rfl⟩
 ·exact⟨3,by kernel_rfl⟩
theorem PO (l:List Int) (ha:Ms l):bQ l 0 (l.length:Int)=some (l,()):=by
 have hl:=ha.len
 have hm:l.length≤maxLen:=by unfold maxLen; omega
 have inner: ∀ k (hk:k < l.length),0 < k→dN (((),0,(l.length:Int),(k:Int),(k:Int),()),(),(l,()))=some (((),0,(l.length:Int),(k:Int),()),(),(l,())):=by
  intro k hk h0
  refine qg ?_
  have c1: (k:Int) > 0:=by omega
  have c2: (0:Int)≤(k:Int)∧(k:Int) < (l.length:Int):=by omega
  have c3: (0:Int)≤((k - 1:Nat):Int)∧((k - 1:Nat):Int) < (l.length:Int):=by omega
  have e1:l[k]? =some l[k] :=List.getElem?_eq_getElem hk
  have e2:l[k - 1]? =some l[k - 1] :=List.getElem?_eq_getElem (by omega)
  have hlt:=(ha k hk).2 h0
  have less:kN l[k] l[k - 1] =some (false,()):=by
   unfold kN nP jP mq
   simp only [beq_self_eq_true,Bool.not_true,Option.bind_some,dz]
   rw [decide_eq_false (by omega)]
  simp only [bw,cH,aA,bR,if_pos c1,if_pos c2,tB h0 (by omega),if_pos c3,Int.toNat_natCast,e1,e2,Option.bind_some,less,dz]
 have outer:=w6 (B:=aX) (fun s=> ∃ k:Nat,0 < k∧s=(((),0,(l.length:Int),(k:Int),()),(),(l,()))) (fun s=>l.length - s.1.2.2.2.1.toNat) (fun e=>e=((()),(),(l,())))
  (fun s hs=>by
    obtain⟨k,h0,rfl⟩:=hs
    by_cases hk:k < l.length
    ·have c1: (k:Int) < (l.length:Int):=by omega
     refine .inl ⟨(((),0,(l.length:Int),((k+1:Nat):Int),()),(),(l,())),?_,⟨k+1,by omega,rfl⟩,?_⟩
     ·simp only [aX,bX,aA,if_pos c1,inner k hk h0,Option.bind_some,bD hm hk]
     ·simp only [Int.toNat_natCast]
      omega
    ·have c1: ¬ (k:Int) < (l.length:Int):=by omega
     exact .inr ⟨_,by simp only [aX,bX,aA,if_neg c1],rfl⟩)
  (s:=(((),0,(l.length:Int),((1:Nat):Int),()),(),(l,()))) ⟨1,by omega,rfl⟩
 obtain⟨e,h1,rfl⟩:=outer
 unfold bQ cY
 rw [show IntKind.wrap .i64 ((0:Int)+1)=((1:Nat):Int) from by rw [gb (by omega) (by omega)]; rfl,show dP (((),0,(l.length:Int),((1:Nat):Int),()),(),(l,()))=_ from h1]
 rfl
theorem RB (l:List Int) (ha:Ms l):iV l=some (l,()):=by
 have hl:=ha.len
 obtain⟨m,hm⟩:=NS hl
 have hp:cR l 0 (l.length:Int) m=some (l,()):=by
  unfold cR eg
  have :fj (((),0,(l.length:Int),m,true,true,()),(),(l,()))=some ((()),(),(l,())):=by
   refine qg ?_
   simp only [b0,dQ]
   rw [gb (by omega) (by omega),aA,if_pos (by omega),PO l ha,Option.bind_some,eU rfl]
  rw [this]
  rfl
 unfold iV la
 simp only [hm,Option.bind_some,hp]
 exact eU trivial _ _
theorem Mt (l:List Int) (ha:Ms l):fk l=some (l,()):=by
 have hl:=ha.len
 have hm:l.length≤maxLen:=by unfold maxLen; omega
 unfold fk iW
 rw [aA]
 split
 ·rfl
 ·have b7:=w6 (B:=cG) (fun s=> ∃ k:Nat,0 < k∧k≤l.length∧s=(((),(k:Int),()),(),(l,()))) (fun s=>l.length - s.1.2.1.toNat) (fun e=>e= .inr (((),(),()),(),(l,())))
   (fun s hs=>by
     obtain⟨k,h0,hkl,rfl⟩:=hs
     by_cases hk:k < l.length
     ·have c1: (k:Int) < (l.length:Int):=by omega
      have c2: (0:Int)≤(k:Int)∧(k:Int) < (l.length:Int):=by omega
      have c3: (0:Int)≤((k - 1:Nat):Int)∧((k - 1:Nat):Int) < (l.length:Int):=by omega
      have e1:l[k]? =some l[k] :=List.getElem?_eq_getElem hk
      have e2:l[k - 1]? =some l[k - 1] :=List.getElem?_eq_getElem (by omega)
      have hlt:=(ha k hk).2 h0
      refine .inl ⟨(((),((k+1:Nat):Int),()),(),(l,())),?_,⟨k+1,by omega,by omega,rfl⟩,?_⟩
      ·simp only [cG,eV,aA,bR,if_pos c1,if_pos c2,tB h0 (by omega),if_pos c3,Int.toNat_natCast,e1,e2,Option.bind_some,Cp,bD hm hk]
       rw [if_neg (by omega)]
      ·simp only [Int.toNat_natCast]
       omega
     ·have c1: ¬ (k:Int) < (l.length:Int):=by omega
      exact .inr ⟨_,by simp only [cG,eV,aA,if_neg c1],rfl⟩)
   (s:=(((),((1:Nat):Int),()),(),(l,()))) ⟨1,by omega,by omega,rfl⟩
  obtain⟨e,h1,rfl⟩:=b7
  rw [show jZ (((),1,()),(),(l,()))=_ from h1]
  rfl
theorem PP (l:List Int) (ha:Ms l):mu l=some (l,()):=by
 have hl:=ha.len
 unfold mu pi qV xV
 rw [eU (oe (by omega)),Option.bind_some,RB l ha,Option.bind_some,eU rfl,Mt l ha]
 rfl
end Go.Proofs.YtkcgfceffffmoaaGreat.En
