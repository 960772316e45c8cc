/- Lists of servers: common ones, and those without others. -/
import Derived.Test.YtkcgfceffffmoaaGreatZPV1
namespace Go.Proofs.YtkcgfceffffmoaaGreat.En
open Go
theorem yX {n:Nat} (h:n≤1048576):n*8≤2 ^ 40:=by
 have : (2:Nat) ^ 40=1099511627776:=by decide
 omega
theorem V0 (l:List Int) (x:Int) (hl:l.length≤1000) (h: ∀ y∈l,y < x):vN l x=some (l++ [x],()):=by
 have hm:l.length≤maxLen:=by unfold maxLen; omega
 have ce:=ox (B:=mf) l (fun k (_:Unit)=>((l,x,(k:Int),()),(),())) (fun _ _=>True) (fun k r _=>((l,x,((k+r.length:Nat):Int),()),(),()))
  (fun b hb=>by
    simp only [mf,qU]
    rw [ay,if_neg (by omega)]
    rfl)
  (fun k b y hy hb=>by
    have hk:=kG hy
    have c1: (k:Int) < (l.length:Int):=by omega
    have c2: (0:Int)≤(k:Int):=by omega
    refine .inl ⟨(),?_,trivial,?_⟩
    ·simp only [mf,qU,ay,bE,if_pos c1,if_pos c2,Int.toNat_natCast,hy,Option.bind_some,if_pos (h y (List.mem_of_getElem? hy)),bO hm hk]
    ·rw [List.length_cons,show k+((l.drop (k+1)).length+1)=k+1+(l.drop (k+1)).length by omega])
  0 () (Nat.zero_le _) trivial
 unfold vN xB
 rw [show yS ((l,x,0,()),(),())=_ from ce]
 simp only [Option.bind_some,List.drop_zero,Nat.zero_add]
 have c0: ¬ ((l.length:Int) < (l.length:Int)):=by omega
 have d1: (0:Int)≤0∧(0:Int)≤(l.length:Int)∧(l.length:Int)≤(l.length:Int):=by omega
 have d2: (0:Int)≤(l.length:Int)∧(l.length:Int)≤(l.length:Int)∧(l.length:Int)≤(l.length:Int):=by omega
 simp only [ay,if_neg c0,bE,if_pos d1,if_pos d2,Int.toNat_natCast,Int.toNat_zero,List.drop_zero,Nat.sub_zero,Nat.sub_self,List.take_zero,List.append_nil,List.take_length,List.nil_append]
 rw [if_pos (yX (by omega)),if_pos (yX (by simp; omega))]
 exact if_pos (yX (by simp; omega))
theorem V2 (a b:List Int) (ha:Rx a) (hb:b.length≤maxLen):ib a b=some (a.filter fun x=>decide (x∈b),()):=by
 have hl:=ha.len
 have hm:a.length≤maxLen:=by unfold maxLen; omega
 have hp:=ha.pair
 have ce:=ox (B:=dq) a (fun k (out:List Int)=>((a,b,(),(k:Int),()),(),(out,()))) (fun k out=>out=(a.take k).filter fun x=>decide (x∈b)) (fun k r out=>(((),()),(),(out++r.filter fun x=>decide (x∈b),())))
  (fun out hb=>by
    simp only [dq,gf]
    rw [ay,if_neg (by omega)]
    simp)
  (fun k out x hx hout=>by
    have hk:=kG hx
    have c1: (k:Int) < (a.length:Int):=by omega
    have c2: (0:Int)≤(k:Int):=by omega
    have hxe:a[k] =x:=by rw [List.getElem?_eq_getElem hk] at hx; exact Option.some.inj hx
    simp only [dq,gf,ay,bE,if_pos c1,if_pos c2,Int.toNat_natCast,hx,Option.bind_some,(pF b x hb).1,bO hm hk]
    by_cases hin:x∈b
    ·have hlt: ∀ y∈out,y < x:=by
      intro y hy
      rw [hout,List.mem_filter] at hy
      obtain⟨i,hi,he⟩:=List.getElem_of_mem hy.1
      have hi':i < k:=by simp at hi; omega
      rw [List.getElem_take] at he
      rw [←he,←hxe]
      exact List.pairwise_iff_getElem.1 hp i k (by omega) hk hi'
     have hol:out.length≤1000:=by
      rw [hout]
      have:=List.length_filter_le (fun x=>decide (x∈b)) (a.take k)
      simp at this
      omega
     simp only [if_pos hin,V0 out x hol hlt,Option.bind_some]
     refine .inl ⟨out++ [x],rfl,?_,?_⟩
     ·rw [hout,List.take_add_one,hx,List.filter_append]
      simp [hin]
     ·simp [hin]
    ·simp only [if_neg hin]
     refine .inl ⟨out,rfl,?_,?_⟩
     ·rw [hout,List.take_add_one,hx,List.filter_append]
      simp [hin]
     ·simp [hin])
  0 [] (Nat.zero_le _) rfl
 unfold ib kL
 rw [show mA ((a,b,(),0,()),(),([],()))=_ from ce]
 rfl
theorem QI {n:Nat} (hn:n≤5): ∃ m,vb (IntKind.wrap .u64 (n:Int))=some (m,()):=by
 have :n=0∨n=1∨n=2∨n=3∨n=4∨n=5:=by omega
 rcases this with rfl | rfl | rfl | rfl | rfl | rfl
 ·exact⟨0,by kernel_rfl⟩
 ·exact⟨1,by kernel_rfl⟩
 ·exact⟨2,by kernel_rfl⟩
 ·exact⟨2,by kernel_rfl⟩
 ·exact⟨3,by kernel_rfl⟩
 ·exact⟨3,by kernel_rfl⟩
theorem SS (l:List Int) (ha:Rx l):cc l 0 (l.length:Int)=some (l,()):=by
 have hl:=ha.len
 have hm:l.length≤maxLen:=by unfold maxLen; omega
 have inner: ∀ k (hk:k < l.length),0 < k→dQ (((),0,(l.length:Int),(k:Int),(k:Int),()),(),(l,()))=some (((),0,(l.length:Int),(k:Int),()),(),(l,())):=by
  intro k hk h0
  refine pP ?_
  have c1: (k:Int) > 0:=by omega
  have c2: (0:Int)≤(k:Int)∧(k:Int) < (l.length:Int):=by omega
  have c3: (0:Int)≤((k - 1:Nat):Int)∧((k - 1:Nat):Int) < (l.length:Int):=by omega
  have e1:l[k]? =some l[k] :=List.getElem?_eq_getElem hk
  have e2:l[k - 1]? =some l[k - 1] :=List.getElem?_eq_getElem (by omega)
  have hlt:=(ha k hk).2 h0
  have less:lG l[k] l[k - 1] =some (false,()):=by
   unfold lG oO km nA
   simp only [beq_self_eq_true,Bool.not_true,Option.bind_some,cW]
   rw [decide_eq_false (by omega)]
  simp only [bC,cS,ay,bE,if_pos c1,if_pos c2,uU h0 (by omega),if_pos c3,Int.toNat_natCast,e1,e2,Option.bind_some,less,cW]
 have outer:=BG (B:=bc) (fun s=> ∃ k:Nat,0 < k∧s=(((),0,(l.length:Int),(k:Int),()),(),(l,()))) (fun s=>l.length - s.1.2.2.2.1.toNat) (fun e=>e=((()),(),(l,())))
  (fun s hs=>by
    obtain⟨k,h0,rfl⟩:=hs
    by_cases hk:k < l.length
    ·have c1: (k:Int) < (l.length:Int):=by omega
     refine .inl ⟨(((),0,(l.length:Int),((k+1:Nat):Int),()),(),(l,())),?_,⟨k+1,by omega,rfl⟩,?_⟩
     ·simp only [bc,cf,ay,if_pos c1,inner k hk h0,Option.bind_some,bO hm hk]
     ·simp only [Int.toNat_natCast]
      omega
    ·have c1: ¬ (k:Int) < (l.length:Int):=by omega
     exact .inr ⟨_,by simp only [bc,cf,ay,if_neg c1],rfl⟩)
  (s:=(((),0,(l.length:Int),((1:Nat):Int),()),(),(l,()))) ⟨1,by omega,rfl⟩
 obtain⟨e,h1,rfl⟩:=outer
 unfold cc df
 rw [show IntKind.wrap .i64 ((0:Int)+1)=((1:Nat):Int) from by rw [f8 (by omega) (by omega)]; rfl,show dR (((),0,(l.length:Int),((1:Nat):Int),()),(),(l,()))=_ from h1]
 rfl
theorem UO (l:List Int) (ha:Rx l):ji l=some (l,()):=by
 have hl:=ha.len
 obtain⟨m,hm⟩:=QI hl
 have hp:c7 l 0 (l.length:Int) m=some (l,()):=by
  unfold c7 ew
  have :fD (((),0,(l.length:Int),m,true,true,()),(),(l,()))=some ((()),(),(l,())):=by
   refine pP ?_
   simp only [cj,dS]
   rw [f8 (by omega) (by omega),ay,if_pos (by omega),SS l ha,Option.bind_some,ir rfl]
  rw [this]
  rfl
 unfold ji lU
 simp only [hm,Option.bind_some,hp]
 exact ir trivial _ _
theorem Pi (l:List Int) (ha:Rx l):fE l=some (l,()):=by
 have hl:=ha.len
 have hm:l.length≤maxLen:=by unfold maxLen; omega
 unfold fE jj
 rw [ay]
 split
 ·rfl
 ·have ce:=BG (B:=cQ) (fun s=> ∃ k:Nat,0 < k∧k≤l.length∧s=(((),(k:Int),()),(),(l,()))) (fun s=>l.length - s.1.2.1.toNat) (fun e=>e=(((),(),()),(),(l,())))
   (fun s hs=>by
     obtain⟨k,h0,hkl,rfl⟩:=hs
     by_cases hk:k < l.length
     ·have c1: (k:Int) < (l.length:Int):=by omega
      have c2: (0:Int)≤(k:Int)∧(k:Int) < (l.length:Int):=by omega
      have c3: (0:Int)≤((k - 1:Nat):Int)∧((k - 1:Nat):Int) < (l.length:Int):=by omega
      have e1:l[k]? =some l[k] :=List.getElem?_eq_getElem hk
      have e2:l[k - 1]? =some l[k - 1] :=List.getElem?_eq_getElem (by omega)
      have hlt:=(ha k hk).2 h0
      refine .inl ⟨(((),((k+1:Nat):Int),()),(),(l,())),?_,⟨k+1,by omega,by omega,rfl⟩,?_⟩
      ·simp only [cQ,fj,ay,bE,if_pos c1,if_pos c2,uU h0 (by omega),if_pos c3,Int.toNat_natCast,e1,e2,Option.bind_some,I5,bO hm hk]
       rw [if_neg (by omega)]
      ·simp only [Int.toNat_natCast]
       omega
     ·have c1: ¬ (k:Int) < (l.length:Int):=by omega
      exact .inr ⟨_,by simp only [cQ,fj,ay,if_neg c1],rfl⟩)
   (s:=(((),((1:Nat):Int),()),(),(l,()))) ⟨1,by omega,by omega,rfl⟩
  obtain⟨e,h1,rfl⟩:=ce
  rw [show kA (((),1,()),(),(l,()))=_ from h1]
  rfl
theorem ST (l:List Int) (ha:Rx l):nC l=some (l,()):=by
 have hl:=ha.len
 unfold nC qi lE uw
 rw [ir (yX (by omega)),Option.bind_some,UO l ha,Option.bind_some,ir rfl,Pi l ha]
 rfl
end Go.Proofs.YtkcgfceffffmoaaGreat.En
