/- Lists of servers: common ones, and those without others. -/
import Derived.Test.YtkcgfceffffmoaaGreatZPV1
namespace Go.Proofs.YtkcgfceffffmoaaGreat.En
open Go
theorem va {n:Nat} (h:n≤1048576):n*8≤2 ^ 40:=by
 have : (2:Nat) ^ 40=1099511627776:=by decide
 omega
theorem abw (l:List Int) (x:Int) (hl:l.length≤1000) (h: ∀ y∈l,y < x):yP l x=some (l++ [x],()):=by
 have hm:l.length≤maxLen:=by unfold maxLen; omega
 have bU:=li (B:=n8) l (fun k (_:Unit)=>((l,x,(k:Int),()),(),())) (fun _ _=>True) (fun k r _=>((l,x,((k+r.length:Nat):Int),()),(),()))
  (fun b hb=>by
    simp only [n8,tG]
    rw [aw,if_neg (by omega)]
    rfl)
  (fun k b y hy hb=>by
    have hk:=jE hy
    have c1: (k:Int) < (l.length:Int):=by omega
    have c2: (0:Int)≤(k:Int):=by omega
    refine .inl ⟨(),?_,trivial,?_⟩
    ·simp only [n8,tG,aw,be,if_pos c1,if_pos c2,Int.toNat_natCast,hy,Option.bind_some,if_pos (h y (List.mem_of_getElem? hy)),bF hm hk]
    ·rw [List.length_cons,show k+((l.drop (k+1)).length+1)=k+1+(l.drop (k+1)).length by omega])
  0 () (Nat.zero_le _) trivial
 unfold yP A9
 rw [show Cp ((l,x,0,()),(),())=_ from bU]
 simp only [Option.bind_some,List.drop_zero,Nat.zero_add]
 have c0: ¬ ((l.length:Int) < (l.length:Int)):=by omega
 have d1: (0:Int)≤0∧(0:Int)≤(l.length:Int)∧(l.length:Int)≤(l.length:Int):=by omega
 have d2: (0:Int)≤(l.length:Int)∧(l.length:Int)≤(l.length:Int)∧(l.length:Int)≤(l.length:Int):=by omega
 simp only [aw,if_neg c0,be,if_pos d1,if_pos d2,Int.toNat_natCast,Int.toNat_zero,List.drop_zero,Nat.sub_zero,Nat.sub_self,List.take_zero,List.append_nil,List.take_length,List.nil_append]
 rw [if_pos (va (by omega)),if_pos (va (by simp; omega))]
 exact if_pos (va (by simp; omega))
theorem Le (a b:List Int) (ha:UM a) (hb:b.length≤maxLen):fJ a b=some (a.filter fun x=>decide (x∈b),()):=by
 have hl:=ha.len
 have hm:a.length≤maxLen:=by unfold maxLen; omega
 have hp:=ha.pair
 have bU:=li (B:=dP) a (fun k (out:List Int)=>((a,b,(),(k:Int),()),(),(out,()))) (fun k out=>out=(a.take k).filter fun x=>decide (x∈b)) (fun k r out=>(((),()),(),(out++r.filter fun x=>decide (x∈b),())))
  (fun out hb=>by
    simp only [dP,ia]
    rw [aw,if_neg (by omega)]
    simp)
  (fun k out x hx hout=>by
    have hk:=jE hx
    have c1: (k:Int) < (a.length:Int):=by omega
    have c2: (0:Int)≤(k:Int):=by omega
    have hxe:a[k] =x:=by rw [List.getElem?_eq_getElem hk] at hx; exact Option.some.inj hx
    simp only [dP,ia,aw,be,if_pos c1,if_pos c2,Int.toNat_natCast,hx,Option.bind_some,(lg b x hb).1,bF hm hk]
    by_cases hin:x∈b
    ·have hlt: ∀ y∈out,y < x:=by
      intro y hy
      rw [hout,List.mem_filter] at hy
      obtain⟨i,hi,he⟩:=List.getElem_of_mem hy.1
      have hi':i < k:=by simp at hi; omega
      rw [List.getElem_take] at he
      rw [←he,←hxe]
      exact List.pairwise_iff_getElem.1 hp i k (by omega) hk hi'
     have hol:out.length≤1000:=by
      rw [hout]
      have:=List.length_filter_le (fun x=>decide (x∈b)) (a.take k)
      simp at this
      omega
     simp only [if_pos hin,abw out x hol hlt,Option.bind_some]
     refine .inl ⟨out++ [x],rfl,?_,?_⟩
     ·rw [hout,List.take_add_one,hx,List.filter_append]
      simp [hin]
     ·simp [hin]
    ·simp only [if_neg hin]
     refine .inl ⟨out,rfl,?_,?_⟩
     ·rw [hout,List.take_add_one,hx,List.filter_append]
      simp [hin]
     ·simp [hin])
  0 [] (Nat.zero_le _) rfl
 unfold fJ mu
 rw [show oB ((a,b,(),0,()),(),([],()))=_ from bU]
 rfl
theorem Ws {n:Nat} (hn:n≤5): ∃ m,ya (IntKind.wrap .u64 (n:Int))=some (m,()):=by
 have :n=0∨n=1∨n=2∨n=3∨n=4∨n=5:=by omega
 rcases this with rfl | rfl | rfl | rfl | rfl | rfl
 ·exact⟨0,by kernel_rfl⟩
 ·exact⟨1,by kernel_rfl⟩
 ·exact⟨2,by kernel_rfl⟩
 ·exact⟨2,by kernel_rfl⟩
 ·exact⟨3,by kernel_rfl⟩
 ·exact⟨3,by kernel_rfl⟩
theorem Yl (l:List Int) (ha:UM l):ce l 0 (l.length:Int)=some (l,()):=by
 have hl:=ha.len
 have hm:l.length≤maxLen:=by unfold maxLen; omega
 have inner: ∀ k (hk:k < l.length),0 < k→ep (((),0,(l.length:Int),(k:Int),(k:Int),()),(),(l,()))=some (((),0,(l.length:Int),(k:Int),()),(),(l,())):=by
  intro k hk h0
  refine nK ?_
  have c1: (k:Int) > 0:=by omega
  have c2: (0:Int)≤(k:Int)∧(k:Int) < (l.length:Int):=by omega
  have c3: (0:Int)≤((k - 1:Nat):Int)∧((k - 1:Nat):Int) < (l.length:Int):=by omega
  have e1:l[k]? =some l[k] :=List.getElem?_eq_getElem hk
  have e2:l[k - 1]? =some l[k - 1] :=List.getElem?_eq_getElem (by omega)
  have hlt:=(ha k hk).2 h0
  have less:nA l[k] l[k - 1] =some (false,()):=by
   unfold nA qW lY pv
   simp only [beq_self_eq_true,Bool.not_true,Option.bind_some,bJ]
   rw [decide_eq_false (by omega)]
  simp only [bG,dh,aw,be,if_pos c1,if_pos c2,xN h0 (by omega),if_pos c3,Int.toNat_natCast,e1,e2,Option.bind_some,less,bJ]
 have outer:=Fq (B:=bf) (fun s=> ∃ k:Nat,0 < k∧s=(((),0,(l.length:Int),(k:Int),()),(),(l,()))) (fun s=>l.length - s.1.2.2.2.1.toNat) (fun e=>e=((()),(),(l,())))
  (fun s hs=>by
    obtain⟨k,h0,rfl⟩:=hs
    by_cases hk:k < l.length
    ·have c1: (k:Int) < (l.length:Int):=by omega
     refine .inl ⟨(((),0,(l.length:Int),((k+1:Nat):Int),()),(),(l,())),?_,⟨k+1,by omega,rfl⟩,?_⟩
     ·simp only [bf,cn,aw,if_pos c1,inner k hk h0,Option.bind_some,bF hm hk]
     ·simp only [Int.toNat_natCast]
      omega
    ·have c1: ¬ (k:Int) < (l.length:Int):=by omega
     exact .inr ⟨_,by simp only [bf,cn,aw,if_neg c1],rfl⟩)
  (s:=(((),0,(l.length:Int),((1:Nat):Int),()),(),(l,()))) ⟨1,by omega,rfl⟩
 obtain⟨e,h1,rfl⟩:=outer
 unfold ce dF
 rw [show IntKind.wrap .i64 ((0:Int)+1)=((1:Nat):Int) from by rw [ec (by omega) (by omega)]; rfl,show eu (((),0,(l.length:Int),((1:Nat):Int),()),(),(l,()))=_ from h1]
 rfl
theorem aab (l:List Int) (ha:UM l):kC l=some (l,()):=by
 have hl:=ha.len
 obtain⟨m,hm⟩:=Ws hl
 have hp:dx l 0 (l.length:Int) m=some (l,()):=by
  unfold dx eY
  have :gt (((),0,(l.length:Int),m,true,true,()),(),(l,()))=some ((()),(),(l,())):=by
   refine nK ?_
   simp only [cu,ev]
   rw [ec (by omega) (by omega),aw,if_pos (by omega),Yl l ha,Option.bind_some,fm rfl]
  rw [this]
  rfl
 unfold kC nQ
 simp only [hm,Option.bind_some,hp]
 exact fm trivial _ _
theorem UN (l:List Int) (ha:UM l):gv l=some (l,()):=by
 have hl:=ha.len
 have hm:l.length≤maxLen:=by unfold maxLen; omega
 unfold gv kD
 rw [aw]
 split
 ·rfl
 ·have bU:=Fq (B:=dc) (fun s=> ∃ k:Nat,0 < k∧k≤l.length∧s=(((),(k:Int),()),(),(l,()))) (fun s=>l.length - s.1.2.1.toNat) (fun e=>e= .inr (((),(),()),(),(l,())))
   (fun s hs=>by
     obtain⟨k,h0,hkl,rfl⟩:=hs
     by_cases hk:k < l.length
     ·have c1: (k:Int) < (l.length:Int):=by omega
      have c2: (0:Int)≤(k:Int)∧(k:Int) < (l.length:Int):=by omega
      have c3: (0:Int)≤((k - 1:Nat):Int)∧((k - 1:Nat):Int) < (l.length:Int):=by omega
      have e1:l[k]? =some l[k] :=List.getElem?_eq_getElem hk
      have e2:l[k - 1]? =some l[k - 1] :=List.getElem?_eq_getElem (by omega)
      have hlt:=(ha k hk).2 h0
      refine .inl ⟨(((),((k+1:Nat):Int),()),(),(l,())),?_,⟨k+1,by omega,by omega,rfl⟩,?_⟩
      ·simp only [dc,fY,aw,be,if_pos c1,if_pos c2,xN h0 (by omega),if_pos c3,Int.toNat_natCast,e1,e2,Option.bind_some,we,bF hm hk]
       rw [if_neg (by omega)]
      ·simp only [Int.toNat_natCast]
       omega
     ·have c1: ¬ (k:Int) < (l.length:Int):=by omega
      exact .inr ⟨_,by simp only [dc,fY,aw,if_neg c1],rfl⟩)
   (s:=(((),((1:Nat):Int),()),(),(l,()))) ⟨1,by omega,by omega,rfl⟩
  obtain⟨e,h1,rfl⟩:=bU
  rw [show mh (((),1,()),(),(l,()))=_ from h1]
  rfl
theorem Ym (l:List Int) (ha:UM l):pA l=some (l,()):=by
 have hl:=ha.len
 unfold pA sV nz xj
 rw [fm (va (by omega)),Option.bind_some,aab l ha,Option.bind_some,fm rfl,UN l ha]
 rfl
end Go.Proofs.YtkcgfceffffmoaaGreat.En
