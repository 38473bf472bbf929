/- A part of the walks by abstract values: no statement of its own. -/
import Derived.Test.YtkbdoobcgifaaaaGreatG2
import Derived.Test.YtkbdoobcgifaaaaGreatProg
import Derived.KernelRfl
namespace Go.Cg
open Go.Proofs
def tb : Tab := .node 92 ⟨1, 24, some (.slice none 0 0), .sl 5⟩
 (.node 46 ⟨1, 24, some (.slice none 0 0), .sl 104⟩
  (.node 23 ⟨1, 24, some (.slice none 0 0), .sl 64⟩
   (.node 11 ⟨1, 16, some (.string ByteArray.empty), .str⟩
    (.node 5 ⟨1, 1, some (.int .u8 0), .int .u8⟩
     (.node 2 ⟨1, 8, some (.int .i64 0), .int .i64⟩
      (.node 1 ⟨1, 8, some (.nilFunc), .scalar⟩
       (.node 0 ⟨1, 0, some (.tuple #[]), .scalar⟩
        (.leaf)
        (.leaf))
       (.leaf))
      (.node 4 ⟨1, 1, some (.bool false), .bool⟩
       (.node 3 ⟨1, 8, some (.int .i64 0), .int .i64⟩
        (.leaf)
        (.leaf))
       (.leaf)))
     (.node 8 ⟨4, 24, some (.agg #[.int .i64 0, .int .i64 0, .bool false, .int .u8 0]), .agg [(0, 2, 1), (1, 3, 1), (2, 4, 1), (3, 6, 1)] true⟩
      (.node 7 ⟨4, 24, some (.agg #[.int .i64 0, .int .i64 0, .bool false, .int .u8 0]), .agg [(0, 2, 1), (1, 3, 1), (2, 4, 1), (3, 6, 1)] true⟩
       (.node 6 ⟨1, 1, some (.int .u8 0), .int .u8⟩
        (.leaf)
        (.leaf))
       (.leaf))
      (.node 10 ⟨1, 16, some (.string ByteArray.empty), .str⟩
       (.node 9 ⟨1, 16, some (.string ByteArray.empty), .str⟩
        (.leaf)
        (.leaf))
       (.leaf))))
    (.node 17 ⟨1, 8, some (.pointer none), .ptr 183⟩
     (.node 14 ⟨2, 24, some (.agg #[.string ByteArray.empty, .int .u64 0]), .agg [(0, 9, 1), (1, 12, 1)] false⟩
      (.node 13 ⟨2, 24, some (.agg #[.string ByteArray.empty, .int .u64 0]), .agg [(0, 9, 1), (1, 12, 1)] false⟩
       (.node 12 ⟨1, 8, some (.int .u64 0), .int .u64⟩
        (.leaf)
        (.leaf))
       (.leaf))
      (.node 16 ⟨1, 8, some (.pointer none), .ptr 174⟩
       (.node 15 ⟨1, 8, some (.pointer none), .ptr 171⟩
        (.leaf)
        (.leaf))
       (.leaf)))
     (.node 20 ⟨1, 16, some (.nilIface), .scalar⟩
      (.node 19 ⟨1, 8, some (.agg #[.pointer none]), .agg [(0, 17, 1)] false⟩
       (.node 18 ⟨1, 8, some (.agg #[.pointer none]), .agg [(0, 17, 1)] false⟩
        (.leaf)
        (.leaf))
       (.leaf))
      (.node 22 ⟨1, 24, some (.slice none 0 0), .sl 34⟩
       (.node 21 ⟨1, 4, some (.int .i32 0), .int .i32⟩
        (.leaf)
        (.leaf))
       (.leaf)))))
   (.node 35 ⟨1, 8, some (.nilFunc), .scalar⟩
    (.node 29 ⟨1, 8, some (.nilFunc), .scalar⟩
     (.node 26 ⟨4, 80, some (.agg #[.slice none 0 0, .slice none 0 0, .slice none 0 0, .int .i64 0]), .agg [(0, 22, 1), (1, 23, 1), (2, 24, 1), (3, 3, 1)] true⟩
      (.node 25 ⟨4, 80, some (.agg #[.slice none 0 0, .slice none 0 0, .slice none 0 0, .int .i64 0]), .agg [(0, 22, 1), (1, 23, 1), (2, 24, 1), (3, 3, 1)] true⟩
       (.node 24 ⟨1, 24, some (.slice none 0 0), .sl 48⟩
        (.leaf)
        (.leaf))
       (.leaf))
      (.node 28 ⟨1, 8, some (.nilFunc), .scalar⟩
       (.node 27 ⟨1, 8, some (.nilFunc), .scalar⟩
        (.leaf)
        (.leaf))
       (.leaf)))
     (.node 32 ⟨1, 8, some (.nilFunc), .scalar⟩
      (.node 31 ⟨1, 24, some (.slice none 0 0), .sl 3⟩
       (.node 30 ⟨1, 8, some (.nilFunc), .scalar⟩
        (.leaf)
        (.leaf))
       (.leaf))
      (.node 34 ⟨4, 56, some (.agg #[.string ByteArray.empty, .int .i64 0, .int .i64 0, .slice none 0 0]), .agg [(0, 9, 1), (1, 3, 1), (2, 3, 1), (3, 31, 1)] true⟩
       (.node 33 ⟨4, 56, some (.agg #[.string ByteArray.empty, .int .i64 0, .int .i64 0, .slice none 0 0]), .agg [(0, 9, 1), (1, 3, 1), (2, 3, 1), (3, 31, 1)] true⟩
        (.leaf)
        (.leaf))
       (.leaf))))
    (.node 41 ⟨1, 8, some (.nilFunc), .scalar⟩
     (.node 38 ⟨1, 8, some (.nilFunc), .scalar⟩
      (.node 37 ⟨1, 8, some (.nilFunc), .scalar⟩
       (.node 36 ⟨1, 8, some (.nilFunc), .scalar⟩
        (.leaf)
        (.leaf))
       (.leaf))
      (.node 40 ⟨1, 0, some (.tuple #[.int .i64 0, .int .i64 0]), .scalar⟩
       (.node 39 ⟨1, 8, some (.int .i64 0), .int .i64⟩
        (.leaf)
        (.leaf))
       (.leaf)))
     (.node 44 ⟨4, 32, some (.agg #[.int .i64 0, .int .i64 0, .int .i64 0, .bool false]), .agg [(0, 3, 1), (1, 3, 1), (2, 3, 1), (3, 4, 1)] true⟩
      (.node 43 ⟨4, 32, some (.agg #[.int .i64 0, .int .i64 0, .int .i64 0, .bool false]), .agg [(0, 3, 1), (1, 3, 1), (2, 3, 1), (3, 4, 1)] true⟩
       (.node 42 ⟨1, 24, some (.slice none 0 0), .sl 44⟩
        (.leaf)
        (.leaf))
       (.leaf))
      (.node 45 ⟨1, 24, some (.slice none 0 0), .sl 99⟩
       (.leaf)
       (.leaf))))))
  (.node 69 ⟨1, 8, some (.nilFunc), .scalar⟩
   (.node 58 ⟨1, 8, some (.nilFunc), .scalar⟩
    (.node 52 ⟨1, 8, some (.nilFunc), .scalar⟩
     (.node 49 ⟨1, 0, some (.tuple #[.int .i64 0, .int .i64 0]), .scalar⟩
      (.node 48 ⟨12, 168, some (.agg #[.string ByteArray.empty, .int .i64 0, .int .i64 0, .slice none 0 0, .int .i64 0, .int .i64 0, .int .i64 0, .bool false, .slice none 0 0, .int .i64 0, .slice none 0 0, .slice none 0 0]), .agg [(0, 9, 1), (1, 3, 1), (2, 3, 1), (3, 42, 1), (4, 44, 4), (8, 42, 1), (9, 3, 1), (10, 45, 1), (11, 46, 1)] true⟩
       (.node 47 ⟨12, 168, some (.agg #[.string ByteArray.empty, .int .i64 0, .int .i64 0, .slice none 0 0, .int .i64 0, .int .i64 0, .int .i64 0, .bool false, .slice none 0 0, .int .i64 0, .slice none 0 0, .slice none 0 0]), .agg [(0, 9, 1), (1, 3, 1), (2, 3, 1), (3, 42, 1), (4, 44, 4), (8, 42, 1), (9, 3, 1), (10, 45, 1), (11, 46, 1)] true⟩
        (.leaf)
        (.leaf))
       (.leaf))
      (.node 51 ⟨1, 8, some (.nilFunc), .scalar⟩
       (.node 50 ⟨1, 8, some (.nilFunc), .scalar⟩
        (.leaf)
        (.leaf))
       (.leaf)))
     (.node 55 ⟨1, 8, some (.nilFunc), .scalar⟩
      (.node 54 ⟨1, 8, some (.nilFunc), .scalar⟩
       (.node 53 ⟨1, 8, some (.nilFunc), .scalar⟩
        (.leaf)
        (.leaf))
       (.leaf))
      (.node 57 ⟨1, 8, some (.nilFunc), .scalar⟩
       (.node 56 ⟨1, 8, some (.nilFunc), .scalar⟩
        (.leaf)
        (.leaf))
       (.leaf))))
    (.node 64 ⟨7, 64, some (.agg #[.string ByteArray.empty, .int .i64 0, .int .i64 0, .int .i64 0, .int .i64 0, .bool false, .bool false]), .agg [(0, 9, 1), (1, 3, 1), (2, 44, 4), (6, 4, 1)] true⟩
     (.node 61 ⟨1, 8, some (.nilFunc), .scalar⟩
      (.node 60 ⟨1, 8, some (.map none), .map 3 3⟩
       (.node 59 ⟨1, 8, some (.nilFunc), .scalar⟩
        (.leaf)
        (.leaf))
       (.leaf))
      (.node 63 ⟨7, 64, some (.agg #[.string ByteArray.empty, .int .i64 0, .int .i64 0, .int .i64 0, .int .i64 0, .bool false, .bool false]), .agg [(0, 9, 1), (1, 3, 1), (2, 44, 4), (6, 4, 1)] true⟩
       (.node 62 ⟨1, 8, some (.nilFunc), .scalar⟩
        (.leaf)
        (.leaf))
       (.leaf)))
     (.node 67 ⟨1, 8, some (.nilFunc), .scalar⟩
      (.node 66 ⟨1, 8, some (.nilFunc), .scalar⟩
       (.node 65 ⟨1, 8, some (.nilFunc), .scalar⟩
        (.leaf)
        (.leaf))
       (.leaf))
      (.node 68 ⟨1, 8, some (.nilFunc), .scalar⟩
       (.leaf)
       (.leaf)))))
   (.node 81 ⟨1, 0, some (.tuple #[.int .i64 0, .int .i64 0]), .scalar⟩
    (.node 75 ⟨1, 8, some (.int .u64 0), .int .u64⟩
     (.node 72 ⟨1, 8, some (.nilFunc), .scalar⟩
      (.node 71 ⟨1, 8, some (.nilFunc), .scalar⟩
       (.node 70 ⟨1, 8, some (.nilFunc), .scalar⟩
        (.leaf)
        (.leaf))
       (.leaf))
      (.node 74 ⟨1, 8, some (.nilFunc), .scalar⟩
       (.node 73 ⟨1, 8, some (.nilFunc), .scalar⟩
        (.leaf)
        (.leaf))
       (.leaf)))
     (.node 78 ⟨1, 8, some (.nilFunc), .scalar⟩
      (.node 77 ⟨1, 8, some (.nilFunc), .scalar⟩
       (.node 76 ⟨1, 8, some (.nilFunc), .scalar⟩
        (.leaf)
        (.leaf))
       (.leaf))
      (.node 80 ⟨1, 8, some (.int .i64 0), .int .i64⟩
       (.node 79 ⟨1, 8, some (.nilFunc), .scalar⟩
        (.leaf)
        (.leaf))
       (.leaf))))
    (.node 87 ⟨1, 8, some (.nilFunc), .scalar⟩
     (.node 84 ⟨1, 8, some (.nilFunc), .scalar⟩
      (.node 83 ⟨1, 8, some (.nilFunc), .scalar⟩
       (.node 82 ⟨1, 8, some (.nilFunc), .scalar⟩
        (.leaf)
        (.leaf))
       (.leaf))
      (.node 86 ⟨1, 8, some (.nilFunc), .scalar⟩
       (.node 85 ⟨1, 0, some (.tuple #[.int .i64 0, .bool false]), .scalar⟩
        (.leaf)
        (.leaf))
       (.leaf)))
     (.node 90 ⟨1, 8, some (.int .u64 0), .int .u64⟩
      (.node 89 ⟨1, 8, some (.nilFunc), .scalar⟩
       (.node 88 ⟨1, 4, some (.int .u32 0), .int .u32⟩
        (.leaf)
        (.leaf))
       (.leaf))
      (.node 91 ⟨1, 8, some (.nilFunc), .scalar⟩
       (.leaf)
       (.leaf)))))))
 (.node 139 ⟨1, 8, some (.nilFunc), .scalar⟩
  (.node 116 ⟨1, 8, some (.nilFunc), .scalar⟩
   (.node 104 ⟨10, 80, some (.agg #[.int .i64 0, .int .i64 0, .int .i64 0, .int .i64 0, .int .i64 0, .int .i64 0, .int .i64 0, .int .i64 0, .int .i64 0, .bool false]), .agg [(0, 3, 1), (1, 3, 1), (2, 3, 1), (3, 3, 1), (4, 3, 1), (5, 3, 1), (6, 44, 4)] true⟩
    (.node 98 ⟨6, 48, some (.agg #[.int .i64 0, .int .i64 0, .int .i64 0, .int .i64 0, .int .i64 0, .bool false]), .agg [(0, 3, 1), (1, 2, 1), (2, 44, 4)] true⟩
     (.node 95 ⟨1, 8, some (.nilFunc), .scalar⟩
      (.node 94 ⟨1, 8, some (.nilFunc), .scalar⟩
       (.node 93 ⟨1, 0, some (.tuple #[.slice none 0 0, .int .i64 0]), .scalar⟩
        (.leaf)
        (.leaf))
       (.leaf))
      (.node 97 ⟨1, 8, some (.nilFunc), .scalar⟩
       (.node 96 ⟨1, 8, some (.nilFunc), .scalar⟩
        (.leaf)
        (.leaf))
       (.leaf)))
     (.node 101 ⟨1, 8, some (.nilFunc), .scalar⟩
      (.node 100 ⟨1, 8, some (.nilFunc), .scalar⟩
       (.node 99 ⟨6, 48, some (.agg #[.int .i64 0, .int .i64 0, .int .i64 0, .int .i64 0, .int .i64 0, .bool false]), .agg [(0, 3, 1), (1, 2, 1), (2, 44, 4)] true⟩
        (.leaf)
        (.leaf))
       (.leaf))
      (.node 103 ⟨10, 80, some (.agg #[.int .i64 0, .int .i64 0, .int .i64 0, .int .i64 0, .int .i64 0, .int .i64 0, .int .i64 0, .int .i64 0, .int .i64 0, .bool false]), .agg [(0, 3, 1), (1, 3, 1), (2, 3, 1), (3, 3, 1), (4, 3, 1), (5, 3, 1), (6, 44, 4)] true⟩
       (.node 102 ⟨1, 8, some (.nilFunc), .scalar⟩
        (.leaf)
        (.leaf))
       (.leaf))))
    (.node 110 ⟨3, 32, some (.agg #[.string ByteArray.empty, .int .i64 0, .int .i64 0]), .agg [(0, 9, 1), (1, 3, 1), (2, 3, 1)] true⟩
     (.node 107 ⟨1, 8, some (.nilFunc), .scalar⟩
      (.node 106 ⟨1, 8, some (.nilFunc), .scalar⟩
       (.node 105 ⟨1, 8, some (.nilFunc), .scalar⟩
        (.leaf)
        (.leaf))
       (.leaf))
      (.node 109 ⟨3, 32, some (.agg #[.string ByteArray.empty, .int .i64 0, .int .i64 0]), .agg [(0, 9, 1), (1, 3, 1), (2, 3, 1)] true⟩
       (.node 108 ⟨1, 8, some (.nilFunc), .scalar⟩
        (.leaf)
        (.leaf))
       (.leaf)))
     (.node 113 ⟨1, 8, some (.nilFunc), .scalar⟩
      (.node 112 ⟨1, 8, some (.nilFunc), .scalar⟩
       (.node 111 ⟨1, 0, some (.tuple #[.agg #[.string ByteArray.empty, .int .i64 0, .int .i64 0], .int .i64 0]), .scalar⟩
        (.leaf)
        (.leaf))
       (.leaf))
      (.node 115 ⟨1, 8, some (.nilFunc), .scalar⟩
       (.node 114 ⟨1, 8, some (.int .u64 0), .int .u64⟩
        (.leaf)
        (.leaf))
       (.leaf)))))
   (.node 128 ⟨1, 8, some (.nilFunc), .scalar⟩
    (.node 122 ⟨1, 8, some (.nilFunc), .scalar⟩
     (.node 119 ⟨1, 8, some (.nilFunc), .scalar⟩
      (.node 118 ⟨1, 8, some (.pointer none), .ptr 3⟩
       (.node 117 ⟨1, 8, some (.nilFunc), .scalar⟩
        (.leaf)
        (.leaf))
       (.leaf))
      (.node 121 ⟨1, 8, some (.nilFunc), .scalar⟩
       (.node 120 ⟨4, 32, some (.agg #[.int .i64 0, .int .i64 0, .int .i64 0, .bool false]), .agg [(0, 3, 1), (1, 3, 1), (2, 3, 1), (3, 4, 1)] true⟩
        (.leaf)
        (.leaf))
       (.leaf)))
     (.node 125 ⟨1, 0, some (.tuple #[.agg #[.string ByteArray.empty, .int .i64 0, .int .i64 0], .int .i64 0]), .scalar⟩
      (.node 124 ⟨1, 8, some (.nilFunc), .scalar⟩
       (.node 123 ⟨1, 8, some (.nilFunc), .scalar⟩
        (.leaf)
        (.leaf))
       (.leaf))
      (.node 127 ⟨1, 8, some (.nilFunc), .scalar⟩
       (.node 126 ⟨1, 8, some (.nilFunc), .scalar⟩
        (.leaf)
        (.leaf))
       (.leaf))))
    (.node 134 ⟨1, 8, some (.pointer none), .ptr 114⟩
     (.node 131 ⟨1, 8, some (.nilFunc), .scalar⟩
      (.node 130 ⟨1, 0, some (.tuple #[.int .i64 0, .int .i64 0]), .scalar⟩
       (.node 129 ⟨1, 8, some (.nilFunc), .scalar⟩
        (.leaf)
        (.leaf))
       (.leaf))
      (.node 133 ⟨1, 8, some (.nilFunc), .scalar⟩
       (.node 132 ⟨1, 8, some (.nilFunc), .scalar⟩
        (.leaf)
        (.leaf))
       (.leaf)))
     (.node 137 ⟨1, 8, some (.nilFunc), .scalar⟩
      (.node 136 ⟨1, 8, some (.nilFunc), .scalar⟩
       (.node 135 ⟨1, 8, some (.nilFunc), .scalar⟩
        (.leaf)
        (.leaf))
       (.leaf))
      (.node 138 ⟨1, 8, some (.nilFunc), .scalar⟩
       (.leaf)
       (.leaf))))))
  (.node 162 ⟨1, 8, some (.nilFunc), .scalar⟩
   (.node 151 ⟨1, 8, some (.nilFunc), .scalar⟩
    (.node 145 ⟨1, 24, some (.slice none 0 0), .sl 150⟩
     (.node 142 ⟨2, 16, some (.agg #[.int .i64 0, .int .i64 0]), .agg [(0, 3, 1), (1, 3, 1)] true⟩
      (.node 141 ⟨1, 8, some (.nilFunc), .scalar⟩
       (.node 140 ⟨1, 8, some (.nilFunc), .scalar⟩
        (.leaf)
        (.leaf))
       (.leaf))
      (.node 144 ⟨1, 8, some (.nilFunc), .scalar⟩
       (.node 143 ⟨2, 16, some (.agg #[.int .i64 0, .int .i64 0]), .agg [(0, 3, 1), (1, 3, 1)] true⟩
        (.leaf)
        (.leaf))
       (.leaf)))
     (.node 148 ⟨2, 16, some (.agg #[.int .i64 0, .int .i64 0]), .agg [(0, 3, 1), (1, 3, 1)] true⟩
      (.node 147 ⟨2, 16, some (.agg #[.int .i64 0, .int .i64 0]), .agg [(0, 3, 1), (1, 3, 1)] true⟩
       (.node 146 ⟨1, 8, some (.nilFunc), .scalar⟩
        (.leaf)
        (.leaf))
       (.leaf))
      (.node 150 ⟨4, 32, some (.agg #[.int .i64 0, .int .i64 0, .int .i64 0, .int .i64 0]), .agg [(0, 148, 2), (2, 143, 2)] true⟩
       (.node 149 ⟨4, 32, some (.agg #[.int .i64 0, .int .i64 0, .int .i64 0, .int .i64 0]), .agg [(0, 148, 2), (2, 143, 2)] true⟩
        (.leaf)
        (.leaf))
       (.leaf))))
    (.node 157 ⟨1, 8, some (.nilFunc), .scalar⟩
     (.node 154 ⟨1, 8, some (.nilFunc), .scalar⟩
      (.node 153 ⟨1, 8, some (.nilFunc), .scalar⟩
       (.node 152 ⟨1, 8, some (.nilFunc), .scalar⟩
        (.leaf)
        (.leaf))
       (.leaf))
      (.node 156 ⟨1, 0, some (.tuple #[.int .u64 0, .int .u64 0]), .scalar⟩
       (.node 155 ⟨1, 8, some (.nilFunc), .scalar⟩
        (.leaf)
        (.leaf))
       (.leaf)))
     (.node 160 ⟨1, 8, some (.nilFunc), .scalar⟩
      (.node 159 ⟨5, 20, some (.agg #[.int .u32 0, .int .u32 0, .int .u32 0, .int .u32 0, .int .u32 0]), .arr 5 88⟩
       (.node 158 ⟨1, 8, some (.nilFunc), .scalar⟩
        (.leaf)
        (.leaf))
       (.leaf))
      (.node 161 ⟨1, 8, some (.nilFunc), .scalar⟩
       (.leaf)
       (.leaf)))))
   (.node 174 ⟨0, 0, some (.agg #[]), .agg [(0, 172, 0)] false⟩
    (.node 168 ⟨1, 8, some (.nilFunc), .scalar⟩
     (.node 165 ⟨1, 0, some (.tuple #[.int .u32 0, .int .u32 0]), .scalar⟩
      (.node 164 ⟨1, 8, some (.nilFunc), .scalar⟩
       (.node 163 ⟨1, 8, some (.nilFunc), .scalar⟩
        (.leaf)
        (.leaf))
       (.leaf))
      (.node 167 ⟨1, 0, some (.tuple #[.int .u64 0, .int .u64 0]), .scalar⟩
       (.node 166 ⟨1, 8, some (.nilFunc), .scalar⟩
        (.leaf)
        (.leaf))
       (.leaf)))
     (.node 171 ⟨4, 40, some (.agg #[.pointer none, .pointer none, .pointer none, .string ByteArray.empty]), .agg [(0, 17, 1), (1, 17, 1), (2, 17, 1), (3, 9, 1)] false⟩
      (.node 170 ⟨4, 40, some (.agg #[.pointer none, .pointer none, .pointer none, .string ByteArray.empty]), .agg [(0, 17, 1), (1, 17, 1), (2, 17, 1), (3, 9, 1)] false⟩
       (.node 169 ⟨1, 8, some (.nilFunc), .scalar⟩
        (.leaf)
        (.leaf))
       (.leaf))
      (.node 173 ⟨0, 0, some (.agg #[]), .agg [(0, 172, 0)] false⟩
       (.node 172 ⟨0, 0, some (.agg #[]), .arr 0 16⟩
        (.leaf)
        (.leaf))
       (.leaf))))
    (.node 180 ⟨1, 4, some (.int .i32 0), .int .i32⟩
     (.node 177 ⟨1, 1, some (.int .u8 0), .int .u8⟩
      (.node 176 ⟨1, 1, some (.int .u8 0), .int .u8⟩
       (.node 175 ⟨1, 8, some (.nilFunc), .scalar⟩
        (.leaf)
        (.leaf))
       (.leaf))
      (.node 179 ⟨1, 8, some (.pointer none), .ptr 5⟩
       (.node 178 ⟨1, 8, some (.nilFunc), .scalar⟩
        (.leaf)
        (.leaf))
       (.leaf)))
     (.node 183 ⟨11, 48, some (.agg #[.int .u64 0, .int .u64 0, .int .u32 0, .int .u8 0, .int .u8 0, .int .u8 0, .int .u8 0, .nilFunc, .pointer none, .int .i32 0, .int .i32 0]), .agg [(0, 12, 1), (1, 12, 1), (2, 88, 1), (3, 176, 1), (4, 5, 1), (5, 5, 1), (6, 177, 1), (7, 178, 1), (8, 179, 1), (9, 180, 1), (10, 181, 1)] false⟩
      (.node 182 ⟨11, 48, some (.agg #[.int .u64 0, .int .u64 0, .int .u32 0, .int .u8 0, .int .u8 0, .int .u8 0, .int .u8 0, .nilFunc, .pointer none, .int .i32 0, .int .i32 0]), .agg [(0, 12, 1), (1, 12, 1), (2, 88, 1), (3, 176, 1), (4, 5, 1), (5, 5, 1), (6, 177, 1), (7, 178, 1), (8, 179, 1), (9, 180, 1), (10, 181, 1)] false⟩
       (.node 181 ⟨1, 4, some (.int .i32 0), .int .i32⟩
        (.leaf)
        (.leaf))
       (.leaf))
      (.node 184 ⟨1, 8, some (.pointer none), .scalar⟩
       (.leaf)
       (.leaf)))))))
theorem tbOK : TabOK Tryz.prog tb := tabOK_of (by kernel_rfl)
end Go.Cg
