import Derived.Test.YtnkfdobcmfdhfaaDoorKV26

